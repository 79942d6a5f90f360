/- Lemmas for the proof. -/
import Derived.Test.YtcmgmkepodbpkaaDoorEveningMovesM1
import Derived.Test.YtcmgmkepodbpkaaDoorEveningMovesM2
import Derived.Test.YtcmgmkepodbpkaaDoorEveningMovesM3
import Derived.Test.YtcmgmkepodbpkaaDoorEveningMovesM4
namespace Go.Proofs.YtcmgmkepodbpkaaDoor
open Go.RowKit
/- trestle/evening.Hosts -/
noncomputable def e_evening_Hosts : Env := (E0.withX 50 t_evening_valid)
theorem e_evening_Hosts_ok : EnvOk e_evening_Hosts := (EnvOk.withX E0_ok x_evening_valid.1 x_evening_valid.2)
noncomputable def cb_evening_Hosts : Code := codeOf Tryd.f39
noncomputable def e_evening_Hosts_k1 : Env := E0
theorem e_evening_Hosts_k1_ok : EnvOk e_evening_Hosts_k1 := E0_ok
noncomputable def cb_evening_Hosts_k1 : Code := codeOf Tryd.f92
noncomputable def e_evening_Hosts_k1_k1 : Env := E0
theorem e_evening_Hosts_k1_k1_ok : EnvOk e_evening_Hosts_k1_k1 := E0_ok
noncomputable def cb_evening_Hosts_k1_k1 : Code := codeOf Tryd.f93
def evening_Hosts_k1_k1 (y0 : (List Int)) (_y1 : (List (List Int))) (_y2 : (List Int)) (y3 : Int) (y4 : Int) : Option (Int) :=
  (idx y0 y3).bind fun v1 =>
  (idx y0 y4).bind fun v2 =>
  if (v1 != v2) = true then
  (idx y0 y3).bind fun v4 =>
  (idx y0 y4).bind fun v5 =>
  some (wr .i64 (v4 - v5))
  else
  some (wr .i64 (y3 - y4))
set_option maxHeartbeats 4000000 in
set_option maxRecDepth 100000 in
theorem evening_Hosts_k1_k1_sem (y0 : (List Int)) (y1 : (List (List Int))) (y2 : (List Int)) (y3 : Int) (y4 : Int) (r : Int) (h : evening_Hosts_k1_k1 y0 y1 y2 y3 y4 = some r) : SemY e_evening_Hosts_k1_k1 ⟨none, false⟩ cb_evening_Hosts_k1_k1 ⟨Fr 27 (pairs0 0 [.v (.int .i64 y3), .v (.int .i64 y4), .pt 0 0 0]), [some ⟨1, 31, [.rf 1 0 y0.length y0.length], false⟩, some ⟨1, 3, (y0.map cdI.enc), false⟩, mk 1 31 (y1.map (cdL 1 cdI).enc), mk 1 3 (y2.map cdI.enc)]⟩ fun x s' => (x = .normal ∨ x = .ret) ∧ ∃ ys, resA e_evening_Hosts_k1_k1.P s'.fr s'.hp Tryd.f93.results.toList = some ys ∧ (retA ys = .v (.int .i64 r) ∧ s'.hp = [some ⟨1, 31, [.rf 1 0 y0.length y0.length], false⟩, some ⟨1, 3, (y0.map cdI.enc), false⟩, mk 1 31 (y1.map (cdL 1 cdI).enc), mk 1 3 (y2.map cdI.enc)]) := by
  unfold evening_Hosts_k1_k1 at h
  refine SemY.seq ?_
  refine SemY.region ?_
  refine RunY.segF (n := 27) e_evening_Hosts_k1_k1_ok 1 [(0, .v (.int .i64 y3)), (1, .v (.int .i64 y4)), (2, .pt 0 0 0)] [some ⟨1, 31, [.rf 1 0 y0.length y0.length], false⟩, some ⟨1, 3, (y0.map cdI.enc), false⟩, mk 1 31 (y1.map (cdL 1 cdI).enc), mk 1 3 (y2.map cdI.enc)] (by kernel_rfl) ?_
  refine RunY.done rfl (SemY.fr (l' := [(0, .v (.int .i64 y3)), (1, .v (.int .i64 y4)), (2, .pt 0 0 0)]) (by kernel_rfl) ?_)
  refine SemY.seq ?_
  refine SemY.seq ?_
  refine SemY.runDY e_evening_Hosts_k1_k1_ok (by kernel_rfl) ?_
  refine RunDY.segF (n := 27) e_evening_Hosts_k1_k1_ok 2 [(0, .v (.int .i64 y3)), (1, .v (.int .i64 y4)), (2, .pt 0 0 0), (6, .rf 1 0 y0.length y0.length), (7, .v (.int .i64 y3))] [some ⟨1, 31, [.rf 1 0 y0.length y0.length], false⟩, some ⟨1, 3, (y0.map cdI.enc), false⟩, mk 1 31 (y1.map (cdL 1 cdI).enc), mk 1 3 (y2.map cdI.enc)] (by kernel_rfl) (by kernel_rfl) ?_
  obtain ⟨v1, hv1, h⟩ := Option.bind_eq_some_iff.1 h
  refine RunDY.one e_evening_Hosts_k1_k1_ok rfl (by kernel_rfl) (opd_q (by kernel_rfl) (wantedA_none rfl) rfl (q_indexAddr (a := .rf 1 0 y0.length y0.length) (b := .v (.int .i64 y3)) (by kernel_rfl) (by kernel_rfl) (ix_rl (e := cdI.enc) (xs := y0) (t' := 3) (el := 3) (k := 1) (ki := .i64) (by kernel_rfl) (by kernel_rfl) (by kernel_rfl) hv1)) (by kernel_rfl)) ?_
  refine RunDY.one e_evening_Hosts_k1_k1_ok rfl (by kernel_rfl) (opd_q (by kernel_rfl) (wantedA_none rfl) rfl (q_load (p := .pt 1 y3.toNat 0) (by kernel_rfl) (ld_blk (B := ⟨1, 3, (y0.map cdI.enc), false⟩) (m := 1) (g := false) (e := cdI.enc) (xs := y0) (by kernel_rfl) (by kernel_rfl) (by kernel_rfl) rfl (idx_at hv1).2 (by kernel_rfl))) (by kernel_rfl)) ?_
  refine RunDY.segF (n := 27) e_evening_Hosts_k1_k1_ok 2 [(0, .v (.int .i64 y3)), (1, .v (.int .i64 y4)), (2, .pt 0 0 0), (9, .v (.int .i64 v1)), (10, .rf 1 0 y0.length y0.length), (11, .v (.int .i64 y4))] [some ⟨1, 31, [.rf 1 0 y0.length y0.length], false⟩, some ⟨1, 3, (y0.map cdI.enc), false⟩, mk 1 31 (y1.map (cdL 1 cdI).enc), mk 1 3 (y2.map cdI.enc)] (by kernel_rfl) (by kernel_rfl) ?_
  obtain ⟨v2, hv2, h⟩ := Option.bind_eq_some_iff.1 h
  refine RunDY.one e_evening_Hosts_k1_k1_ok rfl (by kernel_rfl) (opd_q (by kernel_rfl) (wantedA_none rfl) rfl (q_indexAddr (a := .rf 1 0 y0.length y0.length) (b := .v (.int .i64 y4)) (by kernel_rfl) (by kernel_rfl) (ix_rl (e := cdI.enc) (xs := y0) (t' := 3) (el := 3) (k := 1) (ki := .i64) (by kernel_rfl) (by kernel_rfl) (by kernel_rfl) hv2)) (by kernel_rfl)) ?_
  refine RunDY.one e_evening_Hosts_k1_k1_ok rfl (by kernel_rfl) (opd_q (by kernel_rfl) (wantedA_none rfl) rfl (q_load (p := .pt 1 y4.toNat 0) (by kernel_rfl) (ld_blk (B := ⟨1, 3, (y0.map cdI.enc), false⟩) (m := 1) (g := false) (e := cdI.enc) (xs := y0) (by kernel_rfl) (by kernel_rfl) (by kernel_rfl) rfl (idx_at hv2).2 (by kernel_rfl))) (by kernel_rfl)) ?_
  refine RunDY.segF (n := 27) e_evening_Hosts_k1_k1_ok 1 [(0, .v (.int .i64 y3)), (1, .v (.int .i64 y4)), (2, .pt 0 0 0), (14, .v (.bool (v1 != v2)))] [some ⟨1, 31, [.rf 1 0 y0.length y0.length], false⟩, some ⟨1, 3, (y0.map cdI.enc), false⟩, mk 1 31 (y1.map (cdL 1 cdI).enc), mk 1 3 (y2.map cdI.enc)] (by kernel_rfl) (by kernel_rfl) ?_
  refine RunDY.done rfl (SemY.fr (l' := [(0, .v (.int .i64 y3)), (1, .v (.int .i64 y4)), (2, .pt 0 0 0), (14, .v (.bool (v1 != v2)))]) (by kernel_rfl) ?_)
  refine SemY.cond (b := (v1 != v2)) (by kernel_rfl) (fun hb3 => ?_) (fun hb3 => ?_)
  · rw [if_pos hb3] at h
    refine SemY.seq ?_
    refine SemY.runDY e_evening_Hosts_k1_k1_ok (by kernel_rfl) ?_
    refine RunDY.segF (n := 27) e_evening_Hosts_k1_k1_ok 2 [(1, .v (.int .i64 y4)), (2, .pt 0 0 0), (15, .rf 1 0 y0.length y0.length), (16, .v (.int .i64 y3))] [some ⟨1, 31, [.rf 1 0 y0.length y0.length], false⟩, some ⟨1, 3, (y0.map cdI.enc), false⟩, mk 1 31 (y1.map (cdL 1 cdI).enc), mk 1 3 (y2.map cdI.enc)] (by kernel_rfl) (by kernel_rfl) ?_
    obtain ⟨v4, hv4, h⟩ := Option.bind_eq_some_iff.1 h
    refine RunDY.one e_evening_Hosts_k1_k1_ok rfl (by kernel_rfl) (opd_q (by kernel_rfl) (wantedA_none rfl) rfl (q_indexAddr (a := .rf 1 0 y0.length y0.length) (b := .v (.int .i64 y3)) (by kernel_rfl) (by kernel_rfl) (ix_rl (e := cdI.enc) (xs := y0) (t' := 3) (el := 3) (k := 1) (ki := .i64) (by kernel_rfl) (by kernel_rfl) (by kernel_rfl) hv4)) (by kernel_rfl)) ?_
    refine RunDY.one e_evening_Hosts_k1_k1_ok rfl (by kernel_rfl) (opd_q (by kernel_rfl) (wantedA_none rfl) rfl (q_load (p := .pt 1 y3.toNat 0) (by kernel_rfl) (ld_blk (B := ⟨1, 3, (y0.map cdI.enc), false⟩) (m := 1) (g := false) (e := cdI.enc) (xs := y0) (by kernel_rfl) (by kernel_rfl) (by kernel_rfl) rfl (idx_at hv4).2 (by kernel_rfl))) (by kernel_rfl)) ?_
    refine RunDY.segF (n := 27) e_evening_Hosts_k1_k1_ok 2 [(18, .v (.int .i64 v4)), (19, .rf 1 0 y0.length y0.length), (20, .v (.int .i64 y4))] [some ⟨1, 31, [.rf 1 0 y0.length y0.length], false⟩, some ⟨1, 3, (y0.map cdI.enc), false⟩, mk 1 31 (y1.map (cdL 1 cdI).enc), mk 1 3 (y2.map cdI.enc)] (by kernel_rfl) (by kernel_rfl) ?_
    obtain ⟨v5, hv5, h⟩ := Option.bind_eq_some_iff.1 h
    refine RunDY.one e_evening_Hosts_k1_k1_ok rfl (by kernel_rfl) (opd_q (by kernel_rfl) (wantedA_none rfl) rfl (q_indexAddr (a := .rf 1 0 y0.length y0.length) (b := .v (.int .i64 y4)) (by kernel_rfl) (by kernel_rfl) (ix_rl (e := cdI.enc) (xs := y0) (t' := 3) (el := 3) (k := 1) (ki := .i64) (by kernel_rfl) (by kernel_rfl) (by kernel_rfl) hv5)) (by kernel_rfl)) ?_
    refine RunDY.one e_evening_Hosts_k1_k1_ok rfl (by kernel_rfl) (opd_q (by kernel_rfl) (wantedA_none rfl) rfl (q_load (p := .pt 1 y4.toNat 0) (by kernel_rfl) (ld_blk (B := ⟨1, 3, (y0.map cdI.enc), false⟩) (m := 1) (g := false) (e := cdI.enc) (xs := y0) (by kernel_rfl) (by kernel_rfl) (by kernel_rfl) rfl (idx_at hv5).2 (by kernel_rfl))) (by kernel_rfl)) ?_
    refine RunDY.segF (n := 27) e_evening_Hosts_k1_k1_ok 2 [(5, .v (.int .i64 (wr .i64 (v4 - v5))))] [some ⟨1, 31, [.rf 1 0 y0.length y0.length], false⟩, some ⟨1, 3, (y0.map cdI.enc), false⟩, mk 1 31 (y1.map (cdL 1 cdI).enc), mk 1 3 (y2.map cdI.enc)] (by kernel_rfl) (by kernel_rfl) ?_
    refine RunDY.done rfl (SemY.fr (l' := [(5, .v (.int .i64 (wr .i64 (v4 - v5))))]) (by kernel_rfl) ?_)
    refine SemY.ret ?_
    have hq := Option.some.inj h; subst hq
    exact ⟨.inr rfl, [.v (.int .i64 (wr .i64 (v4 - v5)))], (by kernel_rfl), (by kernel_rfl), (by kernel_rfl)⟩
  · rw [if_f hb3] at h
    refine SemY.skip ?_
    refine SemY.seq ?_
    refine SemY.region ?_
    refine RunY.segF (n := 27) e_evening_Hosts_k1_k1_ok 4 [(5, .v (.int .i64 (wr .i64 (y3 - y4))))] [some ⟨1, 31, [.rf 1 0 y0.length y0.length], false⟩, some ⟨1, 3, (y0.map cdI.enc), false⟩, mk 1 31 (y1.map (cdL 1 cdI).enc), mk 1 3 (y2.map cdI.enc)] (by kernel_rfl) ?_
    refine RunY.done rfl (SemY.fr (l' := [(5, .v (.int .i64 (wr .i64 (y3 - y4))))]) (by kernel_rfl) ?_)
    refine SemY.ret ?_
    have hq := Option.some.inj h; subst hq
    exact ⟨.inr rfl, [.v (.int .i64 (wr .i64 (y3 - y4)))], (by kernel_rfl), (by kernel_rfl), (by kernel_rfl)⟩
def evening_Hosts_k1_j2 (_y0 : (List Int)) (_y1 : (List (List Int))) (_y2 : (List Int)) (y3 : (List Int)) (c19 : Int) (c20 : Int) (v23 : Int) : Option ((Int)) :=
  if (decide (v23 < 0)) = true then
  (idx y3 c20).bind fun v25 =>
  some v25
  else
  some c19
def evening_Hosts_k1_1 (y0 : (List Int)) (y1 : (List (List Int))) (y2 : (List Int)) (y3 : (List Int)) : Nat → Int → Int → Option ((Int))
  | 0, _, _ => none
  | f + 1, c19, c20 =>
    if (decide (c20 < (y3.length : Int))) = true then
    (idx y3 c20).bind fun v22 =>
    (evening_Hosts_k1_k1 y0 y1 y2 v22 c19).bind fun v23 =>
    (evening_Hosts_k1_j2 y0 y1 y2 y3 c19 c20 v23).bind fun r27 =>
    evening_Hosts_k1_1 y0 y1 y2 y3 f r27 (wr .i64 (c20 + 1))
    else
    some c19
def evening_Hosts_k1 (y0 : (List Int)) (y1 : (List (List Int))) (y2 : (List Int)) (y3 : (List Int)) : Option (Int) :=
  if (decide ((y3.length : Int) < 1)) = true then none else
  (idx y3 0).bind fun v2 =>
  (evening_Hosts_k1_1 y0 y1 y2 y3 100000 v2 1).bind fun r29 =>
  some r29
set_option maxHeartbeats 4000000 in
set_option maxRecDepth 100000 in
theorem evening_Hosts_k1_j2_ok (y0 : (List Int)) (y1 : (List (List Int))) (y2 : (List Int)) (y3 : (List Int)) (c19 : Int) (c20 : Int) (v23 : Int) (r : (Int)) (h : evening_Hosts_k1_j2 y0 y1 y2 y3 c19 c20 v23 = some r) : SemY e_evening_Hosts_k1 ⟨none, false⟩ (pc cb_evening_Hosts_k1 [1, 1, 1, 0, 1, 0, 0, 1, 0, 0, 1]) ⟨Fr 33 [(0, .sl 1 (y3.map cdI.enc)), (1, .fn 93 [] [.pt 0 0 0]), (5, .v (.int .i64 c19)), (6, .v (.int .i64 c20)), (27, .v (.bool (decide (v23 < 0))))], [some ⟨1, 31, [.rf 1 0 y0.length y0.length], false⟩, some ⟨1, 3, (y0.map cdI.enc), false⟩, mk 1 31 (y1.map (cdL 1 cdI).enc), mk 1 3 (y2.map cdI.enc)]⟩ (fun e s => e = .normal ∧ WkY e_evening_Hosts_k1 s ⟨Fr 33 [(0, .sl 1 (y3.map cdI.enc)), (1, .fn 93 [] [.pt 0 0 0]), (5, .v (.int .i64 r)), (6, .v (.int .i64 c20))], [some ⟨1, 31, [.rf 1 0 y0.length y0.length], false⟩, some ⟨1, 3, (y0.map cdI.enc), false⟩, mk 1 31 (y1.map (cdL 1 cdI).enc), mk 1 3 (y2.map cdI.enc)]⟩) := by
  unfold evening_Hosts_k1_j2 at h
  refine SemY.cond (b := (decide (v23 < 0))) (by kernel_rfl) (fun hb24 => ?_) (fun hb24 => ?_)
  · rw [if_pos hb24] at h
    refine SemY.region ?_
    refine RunY.segF (n := 33) e_evening_Hosts_k1_ok 2 [(0, .sl 1 (y3.map cdI.enc)), (1, .fn 93 [] [.pt 0 0 0]), (6, .v (.int .i64 c20)), (28, .sl 1 (y3.map cdI.enc)), (29, .v (.int .i64 c20))] [some ⟨1, 31, [.rf 1 0 y0.length y0.length], false⟩, some ⟨1, 3, (y0.map cdI.enc), false⟩, mk 1 31 (y1.map (cdL 1 cdI).enc), mk 1 3 (y2.map cdI.enc)] (by kernel_rfl) ?_
    obtain ⟨v25, hv25, h⟩ := Option.bind_eq_some_iff.1 h
    refine RunY.one e_evening_Hosts_k1_ok 0 rfl (op_q (wantedA_none rfl) rfl (q_indexAddr (a := .sl 1 (y3.map cdI.enc)) (b := .v (.int .i64 c20)) (by kernel_rfl) (by kernel_rfl) (ix_sl (e := cdI.enc) (el := 3) (k := 1) (ki := .i64) (by kernel_rfl) (by kernel_rfl) hv25))) ?_
    refine RunY.segF (n := 33) e_evening_Hosts_k1_ok 2 [(0, .sl 1 (y3.map cdI.enc)), (1, .fn 93 [] [.pt 0 0 0]), (5, .v (.int .i64 v25)), (6, .v (.int .i64 c20))] [some ⟨1, 31, [.rf 1 0 y0.length y0.length], false⟩, some ⟨1, 3, (y0.map cdI.enc), false⟩, mk 1 31 (y1.map (cdL 1 cdI).enc), mk 1 3 (y2.map cdI.enc)] (by kernel_rfl) ?_
    refine RunY.done rfl ?_
    have hq := Option.some.inj h; subst hq
    exact ⟨rfl, WkY.f1⟩
  · rw [if_f hb24] at h
    refine SemY.skip ?_
    have hq := Option.some.inj h; subst hq
    exact ⟨rfl, WkY.f1⟩
set_option maxHeartbeats 4000000 in
set_option maxRecDepth 100000 in
theorem evening_Hosts_k1_1_ok (y0 : (List Int)) (y1 : (List (List Int))) (y2 : (List Int)) (y3 : (List Int)) : ∀ (f : Nat) (c19 : Int) (c20 : Int) (r : (Int)), evening_Hosts_k1_1 y0 y1 y2 y3 f c19 c20 = some r → SemYN e_evening_Hosts_k1 ⟨none, false⟩ (pc cb_evening_Hosts_k1 [1, 1, 1, 0, 1, 0, 0]) f ⟨Fr 33 [(0, .sl 1 (y3.map cdI.enc)), (1, .fn 93 [] [.pt 0 0 0]), (5, .v (.int .i64 c19)), (6, .v (.int .i64 c20))], [some ⟨1, 31, [.rf 1 0 y0.length y0.length], false⟩, some ⟨1, 3, (y0.map cdI.enc), false⟩, mk 1 31 (y1.map (cdL 1 cdI).enc), mk 1 3 (y2.map cdI.enc)]⟩ (fun e s => e = (.exit 0) ∧ WkY e_evening_Hosts_k1 s ⟨Fr 33 [(5, .v (.int .i64 r))], [some ⟨1, 31, [.rf 1 0 y0.length y0.length], false⟩, some ⟨1, 3, (y0.map cdI.enc), false⟩, mk 1 31 (y1.map (cdL 1 cdI).enc), mk 1 3 (y2.map cdI.enc)]⟩) := by
  intro f
  induction f with
  | zero => intro c19 c20 r h; cases h
  | succ f ih0 =>
    intro c19 c20 r h
    have ih := fun (c19 : Int) (c20 : Int) => ih0 c19 c20 r
    unfold evening_Hosts_k1_1 at h
    refine SemYN.succ ?_
    refine SemY.seq ?_
    refine SemY.seq ?_
    refine SemY.region ?_
    refine RunY.segF (n := 33) e_evening_Hosts_k1_ok 2 [(0, .sl 1 (y3.map cdI.enc)), (1, .fn 93 [] [.pt 0 0 0]), (5, .v (.int .i64 c19)), (6, .v (.int .i64 c20)), (14, .v (.int .i64 c20)), (15, .sl 1 (y3.map cdI.enc))] [some ⟨1, 31, [.rf 1 0 y0.length y0.length], false⟩, some ⟨1, 3, (y0.map cdI.enc), false⟩, mk 1 31 (y1.map (cdL 1 cdI).enc), mk 1 3 (y2.map cdI.enc)] (by kernel_rfl) ?_
    refine RunY.one e_evening_Hosts_k1_ok 0 rfl (op_q (wantedA_none rfl) rfl (q_len (a := .sl 1 (y3.map cdI.enc)) (by kernel_rfl) (len_sl (el := 3) (by kernel_rfl)))) ?_
    refine RunY.segF (n := 33) e_evening_Hosts_k1_ok 1 [(0, .sl 1 (y3.map cdI.enc)), (1, .fn 93 [] [.pt 0 0 0]), (5, .v (.int .i64 c19)), (6, .v (.int .i64 c20)), (17, .v (.bool (decide (c20 < (y3.length : Int)))))] [some ⟨1, 31, [.rf 1 0 y0.length y0.length], false⟩, some ⟨1, 3, (y0.map cdI.enc), false⟩, mk 1 31 (y1.map (cdL 1 cdI).enc), mk 1 3 (y2.map cdI.enc)] (by kernel_rfl) ?_
    refine RunY.done rfl (SemY.fr (l' := [(0, .sl 1 (y3.map cdI.enc)), (1, .fn 93 [] [.pt 0 0 0]), (5, .v (.int .i64 c19)), (6, .v (.int .i64 c20)), (17, .v (.bool (decide (c20 < (y3.length : Int)))))]) (by kernel_rfl) ?_)
    refine SemY.cond (b := (decide (c20 < (y3.length : Int)))) (by kernel_rfl) (fun hb21 => ?_) (fun hb21 => ?_)
    · rw [if_pos hb21] at h
      refine SemY.skip ?_
      refine SemY.seq ?_
      refine SemY.block ?_
      refine SemY.seq ?_
      refine SemY.region ?_
      refine RunY.segF (n := 33) e_evening_Hosts_k1_ok 3 [(0, .sl 1 (y3.map cdI.enc)), (1, .fn 93 [] [.pt 0 0 0]), (5, .v (.int .i64 c19)), (6, .v (.int .i64 c20)), (20, .fn 93 [] [.pt 0 0 0]), (21, .sl 1 (y3.map cdI.enc)), (22, .v (.int .i64 c20))] [some ⟨1, 31, [.rf 1 0 y0.length y0.length], false⟩, some ⟨1, 3, (y0.map cdI.enc), false⟩, mk 1 31 (y1.map (cdL 1 cdI).enc), mk 1 3 (y2.map cdI.enc)] (by kernel_rfl) ?_
      obtain ⟨v22, hv22, h⟩ := Option.bind_eq_some_iff.1 h
      refine RunY.one e_evening_Hosts_k1_ok 0 rfl (op_q (wantedA_none rfl) rfl (q_indexAddr (a := .sl 1 (y3.map cdI.enc)) (b := .v (.int .i64 c20)) (by kernel_rfl) (by kernel_rfl) (ix_sl (e := cdI.enc) (el := 3) (k := 1) (ki := .i64) (by kernel_rfl) (by kernel_rfl) hv22))) ?_
      refine RunY.segF (n := 33) e_evening_Hosts_k1_ok 2 [(0, .sl 1 (y3.map cdI.enc)), (1, .fn 93 [] [.pt 0 0 0]), (5, .v (.int .i64 c19)), (6, .v (.int .i64 c20)), (20, .fn 93 [] [.pt 0 0 0]), (24, .v (.int .i64 v22)), (25, .v (.int .i64 c19))] [some ⟨1, 31, [.rf 1 0 y0.length y0.length], false⟩, some ⟨1, 3, (y0.map cdI.enc), false⟩, mk 1 31 (y1.map (cdL 1 cdI).enc), mk 1 3 (y2.map cdI.enc)] (by kernel_rfl) ?_
      obtain ⟨v23, hv23, h⟩ := Option.bind_eq_some_iff.1 h
      refine RunY.inl (fid := 93) (caps := [.pt 0 0 0]) (xs := [.v (.int .i64 v22), .v (.int .i64 c19)]) (fn := Tryd.f93) (Out := fun x h' => x = .v (.int .i64 v23) ∧ h' = [some ⟨1, 31, [.rf 1 0 y0.length y0.length], false⟩, some ⟨1, 3, (y0.map cdI.enc), false⟩, mk 1 31 (y1.map (cdL 1 cdI).enc), mk 1 3 (y2.map cdI.enc)]) rfl rfl e_evening_Hosts_k1_k1_ok rfl rfl 4 (by kernel_rfl) rfl (wantedA_none rfl) (by kernel_rfl) (by kernel_rfl) (by kernel_rfl) (by kernel_rfl) (by show 3 ≤ 27; decide) (evening_Hosts_k1_k1_sem y0 y1 y2 v22 c19 _ hv23) ?_
      rintro x h' ⟨rfl, rfl⟩
      refine ⟨[some ⟨1, 31, [.rf 1 0 y0.length y0.length], false⟩, some ⟨1, 3, (y0.map cdI.enc), false⟩, mk 1 31 (y1.map (cdL 1 cdI).enc), mk 1 3 (y2.map cdI.enc)], by kernel_rfl, ⟨⟨_, rfl, bu_d⟩, ⟨_, rfl, bu_own⟩, ⟨_, rfl, bu_mk⟩, ⟨_, rfl, bu_mk⟩, trivial⟩, ⟨by kernel_rfl, by kernel_rfl⟩, ?_⟩
      refine RunY.segF (n := 33) e_evening_Hosts_k1_ok 1 [(0, .sl 1 (y3.map cdI.enc)), (1, .fn 93 [] [.pt 0 0 0]), (5, .v (.int .i64 c19)), (6, .v (.int .i64 c20)), (27, .v (.bool (decide (v23 < 0))))] [some ⟨1, 31, [.rf 1 0 y0.length y0.length], false⟩, some ⟨1, 3, (y0.map cdI.enc), false⟩, mk 1 31 (y1.map (cdL 1 cdI).enc), mk 1 3 (y2.map cdI.enc)] (by kernel_rfl) ?_
      refine RunY.done rfl (SemY.fr (l' := [(0, .sl 1 (y3.map cdI.enc)), (1, .fn 93 [] [.pt 0 0 0]), (5, .v (.int .i64 c19)), (6, .v (.int .i64 c20)), (27, .v (.bool (decide (v23 < 0))))]) (by kernel_rfl) ?_)
      obtain ⟨r27, hr27, h⟩ := Option.bind_eq_some_iff.1 h
      refine SemY.cut (evening_Hosts_k1_j2_ok y0 y1 y2 y3 c19 c20 v23 _ hr27) ?_
      refine SemY.region ?_
      refine RunY.segF (n := 33) e_evening_Hosts_k1_ok 3 [(0, .sl 1 (y3.map cdI.enc)), (1, .fn 93 [] [.pt 0 0 0]), (5, .v (.int .i64 r27)), (6, .v (.int .i64 (wr .i64 (c20 + 1))))] [some ⟨1, 31, [.rf 1 0 y0.length y0.length], false⟩, some ⟨1, 3, (y0.map cdI.enc), false⟩, mk 1 31 (y1.map (cdL 1 cdI).enc), mk 1 3 (y2.map cdI.enc)] (by kernel_rfl) ?_
      refine RunY.done rfl ?_
      exact SemYN.wk (s1 := ⟨Fr 33 [(0, .sl 1 (y3.map cdI.enc)), (1, .fn 93 [] [.pt 0 0 0]), (5, .v (.int .i64 r27)), (6, .v (.int .i64 (wr .i64 (c20 + 1))))], [some ⟨1, 31, [.rf 1 0 y0.length y0.length], false⟩, some ⟨1, 3, (y0.map cdI.enc), false⟩, mk 1 31 (y1.map (cdL 1 cdI).enc), mk 1 3 (y2.map cdI.enc)]⟩) WkY.f1 (ih r27 (wr .i64 (c20 + 1)) h)
    · rw [if_f hb21] at h
      refine SemY.exit ?_
      have hq := Option.some.inj h; subst hq
      exact ⟨rfl, WkY.f1⟩
set_option maxHeartbeats 4000000 in
set_option maxRecDepth 100000 in
theorem evening_Hosts_k1_sem (y0 : (List Int)) (y1 : (List (List Int))) (y2 : (List Int)) (y3 : (List Int)) (r : Int) (h : evening_Hosts_k1 y0 y1 y2 y3 = some r) : SemY e_evening_Hosts_k1 ⟨none, false⟩ cb_evening_Hosts_k1 ⟨Fr 33 (pairs0 0 [.sl 1 (y3.map cdI.enc), .fn 93 [] [.pt 0 0 0]]), [some ⟨1, 31, [.rf 1 0 y0.length y0.length], false⟩, some ⟨1, 3, (y0.map cdI.enc), false⟩, mk 1 31 (y1.map (cdL 1 cdI).enc), mk 1 3 (y2.map cdI.enc)]⟩ fun x s' => (x = .normal ∨ x = .ret) ∧ ∃ ys, resA e_evening_Hosts_k1.P s'.fr s'.hp Tryd.f92.results.toList = some ys ∧ (retA ys = .v (.int .i64 r) ∧ s'.hp = [some ⟨1, 31, [.rf 1 0 y0.length y0.length], false⟩, some ⟨1, 3, (y0.map cdI.enc), false⟩, mk 1 31 (y1.map (cdL 1 cdI).enc), mk 1 3 (y2.map cdI.enc)]) := by
  unfold evening_Hosts_k1 at h
  refine SemY.seq ?_
  refine SemY.region ?_
  refine RunY.segF (n := 33) e_evening_Hosts_k1_ok 1 [(0, .sl 1 (y3.map cdI.enc)), (1, .fn 93 [] [.pt 0 0 0])] [some ⟨1, 31, [.rf 1 0 y0.length y0.length], false⟩, some ⟨1, 3, (y0.map cdI.enc), false⟩, mk 1 31 (y1.map (cdL 1 cdI).enc), mk 1 3 (y2.map cdI.enc)] (by kernel_rfl) ?_
  refine RunY.done rfl (SemY.fr (l' := [(0, .sl 1 (y3.map cdI.enc)), (1, .fn 93 [] [.pt 0 0 0])]) (by kernel_rfl) ?_)
  refine SemY.seq ?_
  refine SemY.seq ?_
  refine SemY.region ?_
  refine RunY.segF (n := 33) e_evening_Hosts_k1_ok 1 [(0, .sl 1 (y3.map cdI.enc)), (1, .fn 93 [] [.pt 0 0 0]), (7, .sl 1 (y3.map cdI.enc))] [some ⟨1, 31, [.rf 1 0 y0.length y0.length], false⟩, some ⟨1, 3, (y0.map cdI.enc), false⟩, mk 1 31 (y1.map (cdL 1 cdI).enc), mk 1 3 (y2.map cdI.enc)] (by kernel_rfl) ?_
  refine RunY.one e_evening_Hosts_k1_ok 0 rfl (op_q (wantedA_none rfl) rfl (q_len (a := .sl 1 (y3.map cdI.enc)) (by kernel_rfl) (len_sl (el := 3) (by kernel_rfl)))) ?_
  refine RunY.segF (n := 33) e_evening_Hosts_k1_ok 1 [(0, .sl 1 (y3.map cdI.enc)), (1, .fn 93 [] [.pt 0 0 0]), (9, .v (.bool (decide ((y3.length : Int) < 1))))] [some ⟨1, 31, [.rf 1 0 y0.length y0.length], false⟩, some ⟨1, 3, (y0.map cdI.enc), false⟩, mk 1 31 (y1.map (cdL 1 cdI).enc), mk 1 3 (y2.map cdI.enc)] (by kernel_rfl) ?_
  refine RunY.done rfl (SemY.fr (l' := [(0, .sl 1 (y3.map cdI.enc)), (1, .fn 93 [] [.pt 0 0 0]), (9, .v (.bool (decide ((y3.length : Int) < 1))))]) (by kernel_rfl) ?_)
  refine SemY.cond (b := (decide ((y3.length : Int) < 1))) (by kernel_rfl) (fun hb1 => ?_) (fun hb1 => ?_)
  · rw [if_pos hb1] at h
    cases h
  · rw [if_f hb1] at h
    refine SemY.skip ?_
    refine SemY.seq ?_
    refine SemY.region ?_
    refine RunY.segF (n := 33) e_evening_Hosts_k1_ok 1 [(0, .sl 1 (y3.map cdI.enc)), (1, .fn 93 [] [.pt 0 0 0]), (11, .sl 1 (y3.map cdI.enc))] [some ⟨1, 31, [.rf 1 0 y0.length y0.length], false⟩, some ⟨1, 3, (y0.map cdI.enc), false⟩, mk 1 31 (y1.map (cdL 1 cdI).enc), mk 1 3 (y2.map cdI.enc)] (by kernel_rfl) ?_
    obtain ⟨v2, hv2, h⟩ := Option.bind_eq_some_iff.1 h
    refine RunY.one e_evening_Hosts_k1_ok 0 rfl (op_q (wantedA_none rfl) rfl (q_indexAddr (a := .sl 1 (y3.map cdI.enc)) (b := .v (.int .i64 0)) (by kernel_rfl) (by kernel_rfl) (ix_sl (e := cdI.enc) (el := 3) (k := 1) (ki := .i64) (by kernel_rfl) (by kernel_rfl) hv2))) ?_
    refine RunY.segF (n := 33) e_evening_Hosts_k1_ok 2 [(0, .sl 1 (y3.map cdI.enc)), (1, .fn 93 [] [.pt 0 0 0]), (5, .v (.int .i64 v2))] [some ⟨1, 31, [.rf 1 0 y0.length y0.length], false⟩, some ⟨1, 3, (y0.map cdI.enc), false⟩, mk 1 31 (y1.map (cdL 1 cdI).enc), mk 1 3 (y2.map cdI.enc)] (by kernel_rfl) ?_
    refine RunY.done rfl (SemY.fr (l' := [(0, .sl 1 (y3.map cdI.enc)), (1, .fn 93 [] [.pt 0 0 0]), (5, .v (.int .i64 v2))]) (by kernel_rfl) ?_)
    refine SemY.seq ?_
    refine SemY.seq ?_
    refine SemY.region ?_
    refine RunY.segF (n := 33) e_evening_Hosts_k1_ok 1 [(0, .sl 1 (y3.map cdI.enc)), (1, .fn 93 [] [.pt 0 0 0]), (5, .v (.int .i64 v2)), (6, .v (.int .i64 1))] [some ⟨1, 31, [.rf 1 0 y0.length y0.length], false⟩, some ⟨1, 3, (y0.map cdI.enc), false⟩, mk 1 31 (y1.map (cdL 1 cdI).enc), mk 1 3 (y2.map cdI.enc)] (by kernel_rfl) ?_
    refine RunY.done rfl (SemY.fr (l' := [(0, .sl 1 (y3.map cdI.enc)), (1, .fn 93 [] [.pt 0 0 0]), (5, .v (.int .i64 v2)), (6, .v (.int .i64 1))]) (by kernel_rfl) ?_)
    refine SemY.block ?_
    obtain ⟨r29, hr29, h⟩ := Option.bind_eq_some_iff.1 h
    refine SemY.loop (n := 100000) ?_
    refine SemY.cutN (SemYN.wk (s1 := ⟨Fr 33 [(0, .sl 1 (y3.map cdI.enc)), (1, .fn 93 [] [.pt 0 0 0]), (5, .v (.int .i64 v2)), (6, .v (.int .i64 1))], [some ⟨1, 31, [.rf 1 0 y0.length y0.length], false⟩, some ⟨1, 3, (y0.map cdI.enc), false⟩, mk 1 31 (y1.map (cdL 1 cdI).enc), mk 1 3 (y2.map cdI.enc)]⟩) WkY.f1 (evening_Hosts_k1_1_ok y0 y1 y2 y3 _ v2 1 _ hr29)) ?_
    refine SemY.seq ?_
    refine SemY.region ?_
    refine RunY.segF (n := 33) e_evening_Hosts_k1_ok 2 [(4, .v (.int .i64 r29))] [some ⟨1, 31, [.rf 1 0 y0.length y0.length], false⟩, some ⟨1, 3, (y0.map cdI.enc), false⟩, mk 1 31 (y1.map (cdL 1 cdI).enc), mk 1 3 (y2.map cdI.enc)] (by kernel_rfl) ?_
    refine RunY.done rfl (SemY.fr (l' := [(4, .v (.int .i64 r29))]) (by kernel_rfl) ?_)
    refine SemY.ret ?_
    have hq := Option.some.inj h; subst hq
    exact ⟨.inr rfl, [.v (.int .i64 r29)], (by kernel_rfl), (by kernel_rfl), (by kernel_rfl)⟩
def evening_Hosts_2 (x1 : (List (List (List Int)))) (c5 : (List (List Int))) (c6 : Int) (v8 : (List (List Int))) : Nat → (List Int) → (List Int) → Int → Option (((List Int) × (List Int)))
  | 0, _, _, _ => none
  | f + 1, c22, c23, c24 =>
    if (decide (c24 < (v8.length : Int))) = true then
    (idx v8 c24).bind fun v26 =>
    (evening_Hosts_k1 c22 c5 c23 v26).bind fun v27 =>
    (idx c22 v27).bind fun v28 =>
    (idx c22 v27).bind fun _v29 =>
    if (capOk 8 (c23.length + 1)) = true then
    evening_Hosts_2 x1 c5 c6 v8 f (c22.set v27.toNat (wr .i64 (v28 + 1))) (c23 ++ [v27]) (wr .i64 (c24 + 1))
    else none
    else
    some (c22, c23)
def evening_Hosts_1 (x1 : (List (List (List Int)))) : Nat → (List Int) → (List (List Int)) → Int → Option (((List (List Int))))
  | 0, _, _, _ => none
  | f + 1, c4, c5, c6 =>
    if (decide (c6 < (x1.length : Int))) = true then
    (idx x1 c6).bind fun v8 =>
    (evening_Hosts_2 x1 c5 c6 v8 100000 c4 [] 0).bind fun r33 =>
    if (capOk 24 (c5.length + 1)) = true then
    evening_Hosts_1 x1 f r33.1 (c5 ++ [r33.2]) (wr .i64 (c6 + 1))
    else none
    else
    some c5
def evening_Hosts (x0 : Int) (x1 : (List (List (List Int)))) : Option ((List (List Int))) :=
  (evening_valid x0 x1).bind fun v1 =>
  if (!v1) = true then
  some []
  else
  if (mkOk 8 x0) = true then
  (evening_Hosts_1 x1 100000 (List.replicate x0.toNat (0 : Int)) [] 0).bind fun r36 =>
  some r36
  else none
def cs_evening_Hosts : Cs (Int × (List (List (List Int))) × Unit) := (csC cdI (csC (cdL 1 (cdL 1 (cdL 1 cdI))) csN))
def er_evening_Hosts (r : (List (List Int))) : AV := (cdL 1 (cdL 1 cdI)).enc r
set_option maxHeartbeats 4000000 in
set_option maxRecDepth 100000 in
theorem evening_Hosts_2_ok (x1 : (List (List (List Int)))) (c5 : (List (List Int))) (c6 : Int) (v8 : (List (List Int))) : ∀ (f : Nat) (c22 : (List Int)) (c23 : (List Int)) (c24 : Int) (r : ((List Int) × (List Int))), evening_Hosts_2 x1 c5 c6 v8 f c22 c23 c24 = some r → SemN e_evening_Hosts ⟨none, false⟩ (pc cb_evening_Hosts [1, 1, 1, 1, 0, 1, 0, 0, 1, 1, 0, 0, 1, 1, 0, 1, 0, 0]) f ⟨Fr 51 [(5, .pt 0 0 0), (6, hd 2 (c5.map (cdL 1 cdI).enc)), (9, hd 3 (c23.map cdI.enc)), (19, .sl 1 (x1.map (cdL 1 (cdL 1 cdI)).enc)), (20, .v (.int .i64 (x1.length : Int))), (21, .v (.int .i64 c6)), (25, .sl 1 (v8.map (cdL 1 cdI).enc)), (26, .v (.int .i64 (v8.length : Int))), (27, .v (.int .i64 c24))], [some ⟨1, 31, [.rf 1 0 c22.length c22.length], false⟩, some ⟨1, 3, (c22.map cdI.enc), false⟩, mk 1 31 (c5.map (cdL 1 cdI).enc), mk 1 3 (c23.map cdI.enc)]⟩ (fun e s => e = (.exit 2) ∧ Wk e_evening_Hosts s ⟨Fr 51 [(5, .pt 0 0 0), (6, hd 2 (c5.map (cdL 1 cdI).enc)), (9, hd 3 (r.2.map cdI.enc)), (19, .sl 1 (x1.map (cdL 1 (cdL 1 cdI)).enc)), (20, .v (.int .i64 (x1.length : Int))), (21, .v (.int .i64 c6))], [some ⟨1, 31, [.rf 1 0 r.1.length r.1.length], false⟩, some ⟨1, 3, (r.1.map cdI.enc), false⟩, mk 1 31 (c5.map (cdL 1 cdI).enc), mk 1 3 (r.2.map cdI.enc)]⟩) := by
  intro f
  induction f with
  | zero => intro c22 c23 c24 r h; cases h
  | succ f ih0 =>
    intro c22 c23 c24 r h
    have ih := fun (c22 : (List Int)) (c23 : (List Int)) (c24 : Int) => ih0 c22 c23 c24 r
    unfold evening_Hosts_2 at h
    refine SemN.succ ?_
    refine Sem.seq ?_
    refine Sem.runS (s1 := ⟨Fr 51 [(5, .pt 0 0 0), (6, hd 2 (c5.map (cdL 1 cdI).enc)), (9, hd 3 (c23.map cdI.enc)), (19, .sl 1 (x1.map (cdL 1 (cdL 1 cdI)).enc)), (20, .v (.int .i64 (x1.length : Int))), (21, .v (.int .i64 c6)), (25, .sl 1 (v8.map (cdL 1 cdI).enc)), (26, .v (.int .i64 (v8.length : Int))), (27, .v (.int .i64 c24)), (28, .v (.bool (decide (c24 < (v8.length : Int)))))], [some ⟨1, 31, [.rf 1 0 c22.length c22.length], false⟩, some ⟨1, 3, (c22.map cdI.enc), false⟩, mk 1 31 (c5.map (cdL 1 cdI).enc), mk 1 3 (c23.map cdI.enc)]⟩) ?_ ?_
    · refine RunS.segF (n := 51) e_evening_Hosts_ok 1 [(5, .pt 0 0 0), (6, hd 2 (c5.map (cdL 1 cdI).enc)), (9, hd 3 (c23.map cdI.enc)), (19, .sl 1 (x1.map (cdL 1 (cdL 1 cdI)).enc)), (20, .v (.int .i64 (x1.length : Int))), (21, .v (.int .i64 c6)), (25, .sl 1 (v8.map (cdL 1 cdI).enc)), (26, .v (.int .i64 (v8.length : Int))), (27, .v (.int .i64 c24)), (28, .v (.bool (decide (c24 < (v8.length : Int)))))] [some ⟨1, 31, [.rf 1 0 c22.length c22.length], false⟩, some ⟨1, 3, (c22.map cdI.enc), false⟩, mk 1 31 (c5.map (cdL 1 cdI).enc), mk 1 3 (c23.map cdI.enc)] (by kernel_rfl) ?_
      exact RunS.done rfl (Wk.s3 [0, 1, 2, 3] ⟨⟨_, rfl, bu_d⟩, ⟨_, rfl, bu_own⟩, ⟨_, rfl, bu_mk⟩, ⟨_, rfl, bu_mk⟩, trivial⟩ ⟨lv, lu_hd (b' := 2) (by kernel_rfl) (by kernel_rfl), lu_hd (b' := 3) (by kernel_rfl) (by kernel_rfl), lv, lv, lv, lv, lv, lv, lv, trivial⟩)
    refine Sem.seq ?_
    refine Sem.cond (b := (decide (c24 < (v8.length : Int)))) (by kernel_rfl) (fun hb25 => ?_) (fun hb25 => ?_)
    · rw [if_pos hb25] at h
      refine Sem.skip ?_
      refine Sem.seq ?_
      refine Sem.block ?_
      refine Sem.seq ?_
      obtain ⟨v26, hv26, h⟩ := Option.bind_eq_some_iff.1 h
      refine Sem.runS (s1 := ⟨Fr 51 [(5, .pt 0 0 0), (6, hd 2 (c5.map (cdL 1 cdI).enc)), (9, hd 3 (c23.map cdI.enc)), (11, .sl 1 (v26.map cdI.enc)), (19, .sl 1 (x1.map (cdL 1 (cdL 1 cdI)).enc)), (20, .v (.int .i64 (x1.length : Int))), (21, .v (.int .i64 c6)), (25, .sl 1 (v8.map (cdL 1 cdI).enc)), (26, .v (.int .i64 (v8.length : Int))), (27, .v (.int .i64 c24))], [some ⟨1, 31, [.rf 1 0 c22.length c22.length], false⟩, some ⟨1, 3, (c22.map cdI.enc), false⟩, mk 1 31 (c5.map (cdL 1 cdI).enc), mk 1 3 (c23.map cdI.enc)]⟩) ?_ ?_
      · refine RunS.one e_evening_Hosts_ok 0 rfl (op_q (wantedA_none rfl) rfl (q_indexAddr (a := .sl 1 (v8.map (cdL 1 cdI).enc)) (b := .v (.int .i64 c24)) (by kernel_rfl) (by kernel_rfl) (ix_sl (e := (cdL 1 cdI).enc) (el := 31) (k := 1) (ki := .i64) (by kernel_rfl) (by kernel_rfl) hv26))) ?_
        refine RunS.segF (n := 51) e_evening_Hosts_ok 2 [(5, .pt 0 0 0), (6, hd 2 (c5.map (cdL 1 cdI).enc)), (9, hd 3 (c23.map cdI.enc)), (11, .sl 1 (v26.map cdI.enc)), (19, .sl 1 (x1.map (cdL 1 (cdL 1 cdI)).enc)), (20, .v (.int .i64 (x1.length : Int))), (21, .v (.int .i64 c6)), (25, .sl 1 (v8.map (cdL 1 cdI).enc)), (26, .v (.int .i64 (v8.length : Int))), (27, .v (.int .i64 c24))] [some ⟨1, 31, [.rf 1 0 c22.length c22.length], false⟩, some ⟨1, 3, (c22.map cdI.enc), false⟩, mk 1 31 (c5.map (cdL 1 cdI).enc), mk 1 3 (c23.map cdI.enc)] (by kernel_rfl) ?_
        exact RunS.done rfl (Wk.s3 [0, 1, 2, 3] ⟨⟨_, rfl, bu_d⟩, ⟨_, rfl, bu_own⟩, ⟨_, rfl, bu_mk⟩, ⟨_, rfl, bu_mk⟩, trivial⟩ ⟨lv, lu_hd (b' := 2) (by kernel_rfl) (by kernel_rfl), lu_hd (b' := 3) (by kernel_rfl) (by kernel_rfl), lv, lv, lv, lv, lv, lv, lv, trivial⟩)
      refine Sem.seq ?_
      obtain ⟨v27, hv27, h⟩ := Option.bind_eq_some_iff.1 h
      refine Sem.runS (s1 := ⟨Fr 51 [(5, .pt 0 0 0), (6, hd 2 (c5.map (cdL 1 cdI).enc)), (9, hd 3 (c23.map cdI.enc)), (12, .v (.int .i64 v27)), (19, .sl 1 (x1.map (cdL 1 (cdL 1 cdI)).enc)), (20, .v (.int .i64 (x1.length : Int))), (21, .v (.int .i64 c6)), (25, .sl 1 (v8.map (cdL 1 cdI).enc)), (26, .v (.int .i64 (v8.length : Int))), (27, .v (.int .i64 c24))], [some ⟨1, 31, [.rf 1 0 c22.length c22.length], false⟩, some ⟨1, 3, (c22.map cdI.enc), false⟩, mk 1 31 (c5.map (cdL 1 cdI).enc), mk 1 3 (c23.map cdI.enc)]⟩) ?_ ?_
      · refine RunS.segF (n := 51) e_evening_Hosts_ok 2 [(5, .pt 0 0 0), (6, hd 2 (c5.map (cdL 1 cdI).enc)), (9, hd 3 (c23.map cdI.enc)), (19, .sl 1 (x1.map (cdL 1 (cdL 1 cdI)).enc)), (20, .v (.int .i64 (x1.length : Int))), (21, .v (.int .i64 c6)), (25, .sl 1 (v8.map (cdL 1 cdI).enc)), (26, .v (.int .i64 (v8.length : Int))), (27, .v (.int .i64 c24)), (31, .sl 1 (v26.map cdI.enc)), (32, .fn 93 [] [.pt 0 0 0])] [some ⟨1, 31, [.rf 1 0 c22.length c22.length], false⟩, some ⟨1, 3, (c22.map cdI.enc), false⟩, mk 1 31 (c5.map (cdL 1 cdI).enc), mk 1 3 (c23.map cdI.enc)] (by kernel_rfl) ?_
        refine RunS.inlY (fid := 92) (caps := []) (xs := [.sl 1 (v26.map cdI.enc), .fn 93 [] [.pt 0 0 0]]) (fn := Tryd.f92) (Out := fun x h' => x = .v (.int .i64 v27) ∧ h' = [some ⟨1, 31, [.rf 1 0 c22.length c22.length], false⟩, some ⟨1, 3, (c22.map cdI.enc), false⟩, mk 1 31 (c5.map (cdL 1 cdI).enc), mk 1 3 (c23.map cdI.enc)]) rfl rfl e_evening_Hosts_k1_ok rfl rfl rfl (wantedA_none rfl) (by kernel_rfl) (by kernel_rfl) (by kernel_rfl) (by kernel_rfl) (by show 2 ≤ 33; decide) (evening_Hosts_k1_sem c22 c5 c23 v26 _ hv27) ?_
        rintro x h' ⟨rfl, rfl⟩
        refine RunS.segF (n := 51) e_evening_Hosts_ok 1 [(5, .pt 0 0 0), (6, hd 2 (c5.map (cdL 1 cdI).enc)), (9, hd 3 (c23.map cdI.enc)), (12, .v (.int .i64 v27)), (19, .sl 1 (x1.map (cdL 1 (cdL 1 cdI)).enc)), (20, .v (.int .i64 (x1.length : Int))), (21, .v (.int .i64 c6)), (25, .sl 1 (v8.map (cdL 1 cdI).enc)), (26, .v (.int .i64 (v8.length : Int))), (27, .v (.int .i64 c24))] [some ⟨1, 31, [.rf 1 0 c22.length c22.length], false⟩, some ⟨1, 3, (c22.map cdI.enc), false⟩, mk 1 31 (c5.map (cdL 1 cdI).enc), mk 1 3 (c23.map cdI.enc)] (by kernel_rfl) ?_
        exact RunS.done rfl (Wk.s3 [0, 1, 2, 3] ⟨⟨_, rfl, bu_d⟩, ⟨_, rfl, bu_own⟩, ⟨_, rfl, bu_mk⟩, ⟨_, rfl, bu_mk⟩, trivial⟩ ⟨lv, lu_hd (b' := 2) (by kernel_rfl) (by kernel_rfl), lu_hd (b' := 3) (by kernel_rfl) (by kernel_rfl), lv, lv, lv, lv, lv, lv, lv, trivial⟩)
      refine Sem.seq ?_
      obtain ⟨v28, hv28, h⟩ := Option.bind_eq_some_iff.1 h
      obtain ⟨v29, hv29, h⟩ := Option.bind_eq_some_iff.1 h
      refine Sem.runS (s1 := ⟨Fr 51 [(5, .pt 0 0 0), (6, hd 2 (c5.map (cdL 1 cdI).enc)), (9, hd 3 (c23.map cdI.enc)), (12, .v (.int .i64 v27)), (19, .sl 1 (x1.map (cdL 1 (cdL 1 cdI)).enc)), (20, .v (.int .i64 (x1.length : Int))), (21, .v (.int .i64 c6)), (25, .sl 1 (v8.map (cdL 1 cdI).enc)), (26, .v (.int .i64 (v8.length : Int))), (27, .v (.int .i64 c24))], [some ⟨1, 31, [.rf 1 0 (c22.set v27.toNat (wr .i64 (v28 + 1))).length (c22.set v27.toNat (wr .i64 (v28 + 1))).length], false⟩, some ⟨1, 3, ((c22.set v27.toNat (wr .i64 (v28 + 1))).map cdI.enc), false⟩, mk 1 31 (c5.map (cdL 1 cdI).enc), mk 1 3 (c23.map cdI.enc)]⟩) ?_ ?_
      · refine RunS.segF (n := 51) e_evening_Hosts_ok 2 [(5, .pt 0 0 0), (6, hd 2 (c5.map (cdL 1 cdI).enc)), (9, hd 3 (c23.map cdI.enc)), (12, .v (.int .i64 v27)), (19, .sl 1 (x1.map (cdL 1 (cdL 1 cdI)).enc)), (20, .v (.int .i64 (x1.length : Int))), (21, .v (.int .i64 c6)), (25, .sl 1 (v8.map (cdL 1 cdI).enc)), (26, .v (.int .i64 (v8.length : Int))), (27, .v (.int .i64 c24)), (34, .rf 1 0 c22.length c22.length), (35, .v (.int .i64 v27))] [some ⟨1, 31, [.rf 1 0 c22.length c22.length], false⟩, some ⟨1, 3, (c22.map cdI.enc), false⟩, mk 1 31 (c5.map (cdL 1 cdI).enc), mk 1 3 (c23.map cdI.enc)] (by kernel_rfl) ?_
        refine RunS.one e_evening_Hosts_ok 0 rfl (op_q (wantedA_none rfl) rfl (q_indexAddr (a := .rf 1 0 c22.length c22.length) (b := .v (.int .i64 v27)) (by kernel_rfl) (by kernel_rfl) (ix_rl (e := cdI.enc) (xs := c22) (t' := 3) (el := 3) (k := 1) (ki := .i64) (by kernel_rfl) (by kernel_rfl) (by kernel_rfl) hv28))) ?_
        refine RunS.one e_evening_Hosts_ok 0 rfl (op_q (wantedA_none rfl) rfl (q_load (p := .pt 1 v27.toNat 0) (by kernel_rfl) (ld_blk (B := ⟨1, 3, (c22.map cdI.enc), false⟩) (m := 1) (g := false) (e := cdI.enc) (xs := c22) (by kernel_rfl) (by kernel_rfl) (by kernel_rfl) rfl (idx_at hv28).2 (by kernel_rfl)))) ?_
        refine RunS.segF (n := 51) e_evening_Hosts_ok 1 [(5, .pt 0 0 0), (6, hd 2 (c5.map (cdL 1 cdI).enc)), (9, hd 3 (c23.map cdI.enc)), (12, .v (.int .i64 v27)), (19, .sl 1 (x1.map (cdL 1 (cdL 1 cdI)).enc)), (20, .v (.int .i64 (x1.length : Int))), (21, .v (.int .i64 c6)), (25, .sl 1 (v8.map (cdL 1 cdI).enc)), (26, .v (.int .i64 (v8.length : Int))), (27, .v (.int .i64 c24)), (34, .rf 1 0 c22.length c22.length), (35, .v (.int .i64 v27)), (38, .v (.int .i64 (wr .i64 (v28 + 1))))] [some ⟨1, 31, [.rf 1 0 c22.length c22.length], false⟩, some ⟨1, 3, (c22.map cdI.enc), false⟩, mk 1 31 (c5.map (cdL 1 cdI).enc), mk 1 3 (c23.map cdI.enc)] (by kernel_rfl) ?_
        refine RunS.one e_evening_Hosts_ok 0 rfl (op_q (wantedA_none rfl) rfl (q_indexAddr (a := .rf 1 0 c22.length c22.length) (b := .v (.int .i64 v27)) (by kernel_rfl) (by kernel_rfl) (ix_rl (e := cdI.enc) (xs := c22) (t' := 3) (el := 3) (k := 1) (ki := .i64) (by kernel_rfl) (by kernel_rfl) (by kernel_rfl) hv29))) ?_
        refine RunS.store e_evening_Hosts_ok (y := .pt 1 v27.toNat 0) (z := .v (.int .i64 (wr .i64 (v28 + 1)))) rfl (wantedA_none rfl) (by kernel_rfl) (by kernel_rfl) (st_blk (t' := 3) (k := 1) (e := cdI.enc) (xs := c22) (v := v29) (v' := (wr .i64 (v28 + 1))) (by kernel_rfl) (idx_at hv29).2 (by kernel_rfl) (by kernel_rfl) (by kernel_rfl)) ?_
        exact RunS.done rfl (Wk.s3 [0, 1, 2, 3] ⟨⟨_, rfl, bu_c (by simp only [List.length_set]; kernel_rfl) (by kernel_rfl)⟩, ⟨_, rfl, bu_own⟩, ⟨_, rfl, bu_mk⟩, ⟨_, rfl, bu_mk⟩, trivial⟩ ⟨lv, lu_hd (b' := 2) (by kernel_rfl) (by kernel_rfl), lu_hd (b' := 3) (by kernel_rfl) (by kernel_rfl), lv, lv, lv, lv, lv, lv, lv, trivial⟩)
      by_cases hk30 : (capOk 8 (c23.length + 1)) = true
      case neg => rw [if_neg hk30] at h; cases h
      rw [if_pos hk30] at h
      refine Sem.runS (s1 := ⟨Fr 51 [(5, .pt 0 0 0), (6, hd 2 (c5.map (cdL 1 cdI).enc)), (9, hd 3 ((c23 ++ [v27]).map cdI.enc)), (19, .sl 1 (x1.map (cdL 1 (cdL 1 cdI)).enc)), (20, .v (.int .i64 (x1.length : Int))), (21, .v (.int .i64 c6)), (25, .sl 1 (v8.map (cdL 1 cdI).enc)), (26, .v (.int .i64 (v8.length : Int))), (27, .v (.int .i64 c24))], [some ⟨1, 31, [.rf 1 0 (c22.set v27.toNat (wr .i64 (v28 + 1))).length (c22.set v27.toNat (wr .i64 (v28 + 1))).length], false⟩, some ⟨1, 3, ((c22.set v27.toNat (wr .i64 (v28 + 1))).map cdI.enc), false⟩, mk 1 31 (c5.map (cdL 1 cdI).enc), mk 1 3 ((c23 ++ [v27]).map cdI.enc)]⟩) ?_ ?_
      · refine RunS.segF (n := 51) e_evening_Hosts_ok 3 [(5, .pt 0 0 0), (6, hd 2 (c5.map (cdL 1 cdI).enc)), (19, .sl 1 (x1.map (cdL 1 (cdL 1 cdI)).enc)), (20, .v (.int .i64 (x1.length : Int))), (21, .v (.int .i64 c6)), (25, .sl 1 (v8.map (cdL 1 cdI).enc)), (26, .v (.int .i64 (v8.length : Int))), (27, .v (.int .i64 c24)), (40, hd 3 (c23.map cdI.enc)), (42, hd 4 ([v27].map cdI.enc))] [some ⟨1, 31, [.rf 1 0 (c22.set v27.toNat (wr .i64 (v28 + 1))).length (c22.set v27.toNat (wr .i64 (v28 + 1))).length], false⟩, some ⟨1, 3, ((c22.set v27.toNat (wr .i64 (v28 + 1))).map cdI.enc), false⟩, mk 1 31 (c5.map (cdL 1 cdI).enc), mk 1 3 (c23.map cdI.enc), mk 1 3 ([v27].map cdI.enc)] (by kernel_rfl) ?_
        refine RunS.one e_evening_Hosts_ok 0 rfl (op_w (wantedA_none rfl) rfl (by kernel_rfl) (by kernel_rfl) (w_append (a := hd 3 (c23.map cdI.enc)) (b := hd 4 ([v27].map cdI.enc)) (by kernel_rfl) (by kernel_rfl) (append_B (c := cdI) (xs := c23) (vs := [v27]) (k := 1) (bytes := 8) (el := 3) (by kernel_rfl) (by kernel_rfl) (elems_hd (t := 3) (by kernel_rfl)) (List.cons_ne_nil _ _) (by kernel_rfl) hk30))) ?_
        refine RunS.segF (n := 51) e_evening_Hosts_ok 1 [(5, .pt 0 0 0), (6, hd 2 (c5.map (cdL 1 cdI).enc)), (9, hd 5 ((c23 ++ [v27]).map cdI.enc)), (19, .sl 1 (x1.map (cdL 1 (cdL 1 cdI)).enc)), (20, .v (.int .i64 (x1.length : Int))), (21, .v (.int .i64 c6)), (25, .sl 1 (v8.map (cdL 1 cdI).enc)), (26, .v (.int .i64 (v8.length : Int))), (27, .v (.int .i64 c24))] [some ⟨1, 31, [.rf 1 0 (c22.set v27.toNat (wr .i64 (v28 + 1))).length (c22.set v27.toNat (wr .i64 (v28 + 1))).length], false⟩, some ⟨1, 3, ((c22.set v27.toNat (wr .i64 (v28 + 1))).map cdI.enc), false⟩, mk 1 31 (c5.map (cdL 1 cdI).enc), none, mk 1 3 ([v27].map cdI.enc), mk 1 3 ((c23 ++ [v27]).map cdI.enc)] (by kernel_rfl) ?_
        exact RunS.done rfl (Wk.s3 [0, 1, 2, 5] ⟨⟨_, rfl, bu_d⟩, ⟨_, rfl, bu_own⟩, ⟨_, rfl, bu_mk⟩, ⟨_, rfl, bu_mk⟩, trivial⟩ ⟨lv, lu_hd (b' := 2) (by kernel_rfl) (by kernel_rfl), lu_hd (b' := 5) (by kernel_rfl) (by kernel_rfl), lv, lv, lv, lv, lv, lv, trivial⟩)
      refine Sem.runS (s1 := ⟨Fr 51 [(5, .pt 0 0 0), (6, hd 2 (c5.map (cdL 1 cdI).enc)), (9, hd 3 ((c23 ++ [v27]).map cdI.enc)), (19, .sl 1 (x1.map (cdL 1 (cdL 1 cdI)).enc)), (20, .v (.int .i64 (x1.length : Int))), (21, .v (.int .i64 c6)), (25, .sl 1 (v8.map (cdL 1 cdI).enc)), (26, .v (.int .i64 (v8.length : Int))), (27, .v (.int .i64 (wr .i64 (c24 + 1))))], [some ⟨1, 31, [.rf 1 0 (c22.set v27.toNat (wr .i64 (v28 + 1))).length (c22.set v27.toNat (wr .i64 (v28 + 1))).length], false⟩, some ⟨1, 3, ((c22.set v27.toNat (wr .i64 (v28 + 1))).map cdI.enc), false⟩, mk 1 31 (c5.map (cdL 1 cdI).enc), mk 1 3 ((c23 ++ [v27]).map cdI.enc)]⟩) ?_ ?_
      · refine RunS.segF (n := 51) e_evening_Hosts_ok 2 [(5, .pt 0 0 0), (6, hd 2 (c5.map (cdL 1 cdI).enc)), (9, hd 3 ((c23 ++ [v27]).map cdI.enc)), (19, .sl 1 (x1.map (cdL 1 (cdL 1 cdI)).enc)), (20, .v (.int .i64 (x1.length : Int))), (21, .v (.int .i64 c6)), (25, .sl 1 (v8.map (cdL 1 cdI).enc)), (26, .v (.int .i64 (v8.length : Int))), (27, .v (.int .i64 (wr .i64 (c24 + 1))))] [some ⟨1, 31, [.rf 1 0 (c22.set v27.toNat (wr .i64 (v28 + 1))).length (c22.set v27.toNat (wr .i64 (v28 + 1))).length], false⟩, some ⟨1, 3, ((c22.set v27.toNat (wr .i64 (v28 + 1))).map cdI.enc), false⟩, mk 1 31 (c5.map (cdL 1 cdI).enc), mk 1 3 ((c23 ++ [v27]).map cdI.enc)] (by kernel_rfl) ?_
        exact RunS.done rfl (Wk.s3 [0, 1, 2, 3] ⟨⟨_, rfl, bu_d⟩, ⟨_, rfl, bu_own⟩, ⟨_, rfl, bu_mk⟩, ⟨_, rfl, bu_mk⟩, trivial⟩ ⟨lv, lu_hd (b' := 2) (by kernel_rfl) (by kernel_rfl), lu_hd (b' := 3) (by kernel_rfl) (by kernel_rfl), lv, lv, lv, lv, lv, lv, trivial⟩)
      exact SemN.wk (s1 := ⟨Fr 51 [(5, .pt 0 0 0), (6, hd 2 (c5.map (cdL 1 cdI).enc)), (9, hd 3 ((c23 ++ [v27]).map cdI.enc)), (19, .sl 1 (x1.map (cdL 1 (cdL 1 cdI)).enc)), (20, .v (.int .i64 (x1.length : Int))), (21, .v (.int .i64 c6)), (25, .sl 1 (v8.map (cdL 1 cdI).enc)), (26, .v (.int .i64 (v8.length : Int))), (27, .v (.int .i64 (wr .i64 (c24 + 1))))], [some ⟨1, 31, [.rf 1 0 (c22.set v27.toNat (wr .i64 (v28 + 1))).length (c22.set v27.toNat (wr .i64 (v28 + 1))).length], false⟩, some ⟨1, 3, ((c22.set v27.toNat (wr .i64 (v28 + 1))).map cdI.enc), false⟩, mk 1 31 (c5.map (cdL 1 cdI).enc), mk 1 3 ((c23 ++ [v27]).map cdI.enc)]⟩) (Wk.s3 [0, 1, 2, 3] ⟨⟨_, rfl, bu_d⟩, ⟨_, rfl, bu_own⟩, ⟨_, rfl, bu_mk⟩, ⟨_, rfl, bu_mk⟩, trivial⟩ ⟨lv, lu_hd (b' := 2) (by kernel_rfl) (by kernel_rfl), lu_hd (b' := 3) (by kernel_rfl) (by kernel_rfl), lv, lv, lv, lv, lv, lv, trivial⟩) (ih (c22.set v27.toNat (wr .i64 (v28 + 1))) (c23 ++ [v27]) (wr .i64 (c24 + 1)) h)
    · rw [if_f hb25] at h
      refine Sem.exit ?_
      have hq := Option.some.inj h; subst hq
      exact ⟨rfl, (Wk.s3 [0, 1, 2, 3] ⟨⟨_, rfl, bu_d⟩, ⟨_, rfl, bu_own⟩, ⟨_, rfl, bu_mk⟩, ⟨_, rfl, bu_mk⟩, trivial⟩ ⟨lv, lu_hd (b' := 2) (by kernel_rfl) (by kernel_rfl), lu_hd (b' := 3) (by kernel_rfl) (by kernel_rfl), lv, lv, lv, trivial⟩)⟩
set_option maxHeartbeats 4000000 in
set_option maxRecDepth 100000 in
theorem evening_Hosts_1_ok (x1 : (List (List (List Int)))) : ∀ (f : Nat) (c4 : (List Int)) (c5 : (List (List Int))) (c6 : Int) (r : ((List (List Int)))), evening_Hosts_1 x1 f c4 c5 c6 = some r → SemN e_evening_Hosts ⟨none, false⟩ (pc cb_evening_Hosts [1, 1, 1, 1, 0, 1, 0, 0]) f ⟨Fr 51 [(5, .pt 0 0 0), (6, hd 2 (c5.map (cdL 1 cdI).enc)), (19, .sl 1 (x1.map (cdL 1 (cdL 1 cdI)).enc)), (20, .v (.int .i64 (x1.length : Int))), (21, .v (.int .i64 c6))], [some ⟨1, 31, [.rf 1 0 c4.length c4.length], false⟩, some ⟨1, 3, (c4.map cdI.enc), false⟩, mk 1 31 (c5.map (cdL 1 cdI).enc)]⟩ (fun e s => e = (.exit 0) ∧ Wk e_evening_Hosts s ⟨Fr 51 [(6, hd 0 (r.map (cdL 1 cdI).enc))], [mk 1 31 (r.map (cdL 1 cdI).enc)]⟩) := by
  intro f
  induction f with
  | zero => intro c4 c5 c6 r h; cases h
  | succ f ih0 =>
    intro c4 c5 c6 r h
    have ih := fun (c4 : (List Int)) (c5 : (List (List Int))) (c6 : Int) => ih0 c4 c5 c6 r
    unfold evening_Hosts_1 at h
    refine SemN.succ ?_
    refine Sem.seq ?_
    refine Sem.runS (s1 := ⟨Fr 51 [(5, .pt 0 0 0), (6, hd 2 (c5.map (cdL 1 cdI).enc)), (19, .sl 1 (x1.map (cdL 1 (cdL 1 cdI)).enc)), (20, .v (.int .i64 (x1.length : Int))), (21, .v (.int .i64 c6)), (22, .v (.bool (decide (c6 < (x1.length : Int)))))], [some ⟨1, 31, [.rf 1 0 c4.length c4.length], false⟩, some ⟨1, 3, (c4.map cdI.enc), false⟩, mk 1 31 (c5.map (cdL 1 cdI).enc)]⟩) ?_ ?_
    · refine RunS.segF (n := 51) e_evening_Hosts_ok 1 [(5, .pt 0 0 0), (6, hd 2 (c5.map (cdL 1 cdI).enc)), (19, .sl 1 (x1.map (cdL 1 (cdL 1 cdI)).enc)), (20, .v (.int .i64 (x1.length : Int))), (21, .v (.int .i64 c6)), (22, .v (.bool (decide (c6 < (x1.length : Int)))))] [some ⟨1, 31, [.rf 1 0 c4.length c4.length], false⟩, some ⟨1, 3, (c4.map cdI.enc), false⟩, mk 1 31 (c5.map (cdL 1 cdI).enc)] (by kernel_rfl) ?_
      exact RunS.done rfl (Wk.s3 [0, 1, 2] ⟨⟨_, rfl, bu_d⟩, ⟨_, rfl, bu_own⟩, ⟨_, rfl, bu_mk⟩, trivial⟩ ⟨lv, lu_hd (b' := 2) (by kernel_rfl) (by kernel_rfl), lv, lv, lv, lv, trivial⟩)
    refine Sem.seq ?_
    refine Sem.cond (b := (decide (c6 < (x1.length : Int)))) (by kernel_rfl) (fun hb7 => ?_) (fun hb7 => ?_)
    · rw [if_pos hb7] at h
      refine Sem.skip ?_
      refine Sem.seq ?_
      refine Sem.block ?_
      refine Sem.seq ?_
      obtain ⟨v8, hv8, h⟩ := Option.bind_eq_some_iff.1 h
      refine Sem.runS (s1 := ⟨Fr 51 [(5, .pt 0 0 0), (6, hd 2 (c5.map (cdL 1 cdI).enc)), (8, .sl 1 (v8.map (cdL 1 cdI).enc)), (19, .sl 1 (x1.map (cdL 1 (cdL 1 cdI)).enc)), (20, .v (.int .i64 (x1.length : Int))), (21, .v (.int .i64 c6))], [some ⟨1, 31, [.rf 1 0 c4.length c4.length], false⟩, some ⟨1, 3, (c4.map cdI.enc), false⟩, mk 1 31 (c5.map (cdL 1 cdI).enc)]⟩) ?_ ?_
      · refine RunS.one e_evening_Hosts_ok 0 rfl (op_q (wantedA_none rfl) rfl (q_indexAddr (a := .sl 1 (x1.map (cdL 1 (cdL 1 cdI)).enc)) (b := .v (.int .i64 c6)) (by kernel_rfl) (by kernel_rfl) (ix_sl (e := (cdL 1 (cdL 1 cdI)).enc) (el := 50) (k := 1) (ki := .i64) (by kernel_rfl) (by kernel_rfl) hv8))) ?_
        refine RunS.segF (n := 51) e_evening_Hosts_ok 2 [(5, .pt 0 0 0), (6, hd 2 (c5.map (cdL 1 cdI).enc)), (8, .sl 1 (v8.map (cdL 1 cdI).enc)), (19, .sl 1 (x1.map (cdL 1 (cdL 1 cdI)).enc)), (20, .v (.int .i64 (x1.length : Int))), (21, .v (.int .i64 c6))] [some ⟨1, 31, [.rf 1 0 c4.length c4.length], false⟩, some ⟨1, 3, (c4.map cdI.enc), false⟩, mk 1 31 (c5.map (cdL 1 cdI).enc)] (by kernel_rfl) ?_
        exact RunS.done rfl (Wk.s3 [0, 1, 2] ⟨⟨_, rfl, bu_d⟩, ⟨_, rfl, bu_own⟩, ⟨_, rfl, bu_mk⟩, trivial⟩ ⟨lv, lu_hd (b' := 2) (by kernel_rfl) (by kernel_rfl), lv, lv, lv, lv, trivial⟩)
      refine Sem.seq ?_
      refine Sem.runS (s1 := ⟨Fr 51 [(5, .pt 0 0 0), (6, hd 2 (c5.map (cdL 1 cdI).enc)), (8, .sl 1 (v8.map (cdL 1 cdI).enc)), (9, .e0), (19, .sl 1 (x1.map (cdL 1 (cdL 1 cdI)).enc)), (20, .v (.int .i64 (x1.length : Int))), (21, .v (.int .i64 c6))], [some ⟨1, 31, [.rf 1 0 c4.length c4.length], false⟩, some ⟨1, 3, (c4.map cdI.enc), false⟩, mk 1 31 (c5.map (cdL 1 cdI).enc)]⟩) ?_ ?_
      · refine RunS.segF (n := 51) e_evening_Hosts_ok 1 [(5, .pt 0 0 0), (6, hd 2 (c5.map (cdL 1 cdI).enc)), (8, .sl 1 (v8.map (cdL 1 cdI).enc)), (9, .e0), (19, .sl 1 (x1.map (cdL 1 (cdL 1 cdI)).enc)), (20, .v (.int .i64 (x1.length : Int))), (21, .v (.int .i64 c6))] [some ⟨1, 31, [.rf 1 0 c4.length c4.length], false⟩, some ⟨1, 3, (c4.map cdI.enc), false⟩, mk 1 31 (c5.map (cdL 1 cdI).enc)] (by kernel_rfl) ?_
        exact RunS.done rfl (Wk.s3 [0, 1, 2] ⟨⟨_, rfl, bu_d⟩, ⟨_, rfl, bu_own⟩, ⟨_, rfl, bu_mk⟩, trivial⟩ ⟨lv, lu_hd (b' := 2) (by kernel_rfl) (by kernel_rfl), lv, lv, lv, lv, lv, trivial⟩)
      refine Sem.seq ?_
      refine Sem.seq ?_
      refine Sem.runS (s1 := ⟨Fr 51 [(5, .pt 0 0 0), (6, hd 2 (c5.map (cdL 1 cdI).enc)), (9, .e0), (19, .sl 1 (x1.map (cdL 1 (cdL 1 cdI)).enc)), (20, .v (.int .i64 (x1.length : Int))), (21, .v (.int .i64 c6)), (25, .sl 1 (v8.map (cdL 1 cdI).enc)), (26, .v (.int .i64 (v8.length : Int))), (27, .v (.int .i64 0))], [some ⟨1, 31, [.rf 1 0 c4.length c4.length], false⟩, some ⟨1, 3, (c4.map cdI.enc), false⟩, mk 1 31 (c5.map (cdL 1 cdI).enc)]⟩) ?_ ?_
      · refine RunS.segF (n := 51) e_evening_Hosts_ok 1 [(5, .pt 0 0 0), (6, hd 2 (c5.map (cdL 1 cdI).enc)), (9, .e0), (19, .sl 1 (x1.map (cdL 1 (cdL 1 cdI)).enc)), (20, .v (.int .i64 (x1.length : Int))), (21, .v (.int .i64 c6)), (25, .sl 1 (v8.map (cdL 1 cdI).enc))] [some ⟨1, 31, [.rf 1 0 c4.length c4.length], false⟩, some ⟨1, 3, (c4.map cdI.enc), false⟩, mk 1 31 (c5.map (cdL 1 cdI).enc)] (by kernel_rfl) ?_
        refine RunS.one e_evening_Hosts_ok 0 rfl (op_q (wantedA_none rfl) rfl (q_len (a := .sl 1 (v8.map (cdL 1 cdI).enc)) (by kernel_rfl) (len_sl (el := 31) (by kernel_rfl)))) ?_
        refine RunS.segF (n := 51) e_evening_Hosts_ok 1 [(5, .pt 0 0 0), (6, hd 2 (c5.map (cdL 1 cdI).enc)), (9, .e0), (19, .sl 1 (x1.map (cdL 1 (cdL 1 cdI)).enc)), (20, .v (.int .i64 (x1.length : Int))), (21, .v (.int .i64 c6)), (25, .sl 1 (v8.map (cdL 1 cdI).enc)), (26, .v (.int .i64 (v8.length : Int))), (27, .v (.int .i64 0))] [some ⟨1, 31, [.rf 1 0 c4.length c4.length], false⟩, some ⟨1, 3, (c4.map cdI.enc), false⟩, mk 1 31 (c5.map (cdL 1 cdI).enc)] (by kernel_rfl) ?_
        exact RunS.done rfl (Wk.s3 [0, 1, 2] ⟨⟨_, rfl, bu_d⟩, ⟨_, rfl, bu_own⟩, ⟨_, rfl, bu_mk⟩, trivial⟩ ⟨lv, lu_hd (b' := 2) (by kernel_rfl) (by kernel_rfl), lv, lv, lv, lv, lv, lv, lv, trivial⟩)
      refine Sem.block ?_
      obtain ⟨r33, hr33, h⟩ := Option.bind_eq_some_iff.1 h
      refine Sem.loop (n := 100000) ?_
      refine Sem.cutN (SemN.wk (s1 := ⟨Fr 51 [(5, .pt 0 0 0), (6, hd 2 (c5.map (cdL 1 cdI).enc)), (9, hd 3 ([].map cdI.enc)), (19, .sl 1 (x1.map (cdL 1 (cdL 1 cdI)).enc)), (20, .v (.int .i64 (x1.length : Int))), (21, .v (.int .i64 c6)), (25, .sl 1 (v8.map (cdL 1 cdI).enc)), (26, .v (.int .i64 (v8.length : Int))), (27, .v (.int .i64 0))], [some ⟨1, 31, [.rf 1 0 c4.length c4.length], false⟩, some ⟨1, 3, (c4.map cdI.enc), false⟩, mk 1 31 (c5.map (cdL 1 cdI).enc), mk 1 3 ([].map cdI.enc)]⟩) (Wk.trans (s1 := ⟨Fr 51 [(5, .pt 0 0 0), (6, hd 2 (c5.map (cdL 1 cdI).enc)), (9, hd 3 ([].map cdI.enc)), (19, .sl 1 (x1.map (cdL 1 (cdL 1 cdI)).enc)), (20, .v (.int .i64 (x1.length : Int))), (21, .v (.int .i64 c6)), (25, .sl 1 (v8.map (cdL 1 cdI).enc)), (26, .v (.int .i64 (v8.length : Int))), (27, .v (.int .i64 0))], [some ⟨1, 31, [.rf 1 0 c4.length c4.length], false⟩, some ⟨1, 3, (c4.map cdI.enc), false⟩, mk 1 31 (c5.map (cdL 1 cdI).enc), mk 1 3 ([].map cdI.enc)]⟩) Wk.none (Wk.s3 [0, 1, 2, 3] ⟨⟨_, rfl, bu_d⟩, ⟨_, rfl, bu_own⟩, ⟨_, rfl, bu_mk⟩, ⟨_, rfl, bu_none⟩, trivial⟩ ⟨lv, lu_hd (b' := 2) (by kernel_rfl) (by kernel_rfl), lv, lv, lv, lv, lv, lv, lv, trivial⟩)) (evening_Hosts_2_ok x1 c5 c6 v8 _ c4 [] 0 _ hr33)) ?_
      by_cases hk34 : (capOk 24 (c5.length + 1)) = true
      case neg => rw [if_neg hk34] at h; cases h
      rw [if_pos hk34] at h
      refine Sem.runS (s1 := ⟨Fr 51 [(5, .pt 0 0 0), (6, hd 2 ((c5 ++ [r33.2]).map (cdL 1 cdI).enc)), (19, .sl 1 (x1.map (cdL 1 (cdL 1 cdI)).enc)), (20, .v (.int .i64 (x1.length : Int))), (21, .v (.int .i64 c6))], [some ⟨1, 31, [.rf 1 0 r33.1.length r33.1.length], false⟩, some ⟨1, 3, (r33.1.map cdI.enc), false⟩, mk 1 31 ((c5 ++ [r33.2]).map (cdL 1 cdI).enc)]⟩) ?_ ?_
      · refine RunS.segF (n := 51) e_evening_Hosts_ok 2 [(5, .pt 0 0 0), (19, .sl 1 (x1.map (cdL 1 (cdL 1 cdI)).enc)), (20, .v (.int .i64 (x1.length : Int))), (21, .v (.int .i64 c6)), (45, hd 2 (c5.map (cdL 1 cdI).enc)), (46, hd 3 (r33.2.map cdI.enc))] [some ⟨1, 31, [.rf 1 0 r33.1.length r33.1.length], false⟩, some ⟨1, 3, (r33.1.map cdI.enc), false⟩, mk 1 31 (c5.map (cdL 1 cdI).enc), mk 1 3 (r33.2.map cdI.enc)] (by kernel_rfl) ?_
        refine RunS.wk (s1 := ⟨Fr 51 [(5, .pt 0 0 0), (19, .sl 1 (x1.map (cdL 1 (cdL 1 cdI)).enc)), (20, .v (.int .i64 (x1.length : Int))), (21, .v (.int .i64 c6)), (45, hd 2 (c5.map (cdL 1 cdI).enc)), (46, .sl 1 (r33.2.map cdI.enc))], [some ⟨1, 31, [.rf 1 0 r33.1.length r33.1.length], false⟩, some ⟨1, 3, (r33.1.map cdI.enc), false⟩, mk 1 31 (c5.map (cdL 1 cdI).enc), none]⟩) (Wk.frzG 3 (.inl (by kernel_rfl)) ⟨.inr (.inl rfl), .inr (.inl rfl), .inr (.inl rfl), .inl rfl, trivial⟩ ⟨⟨.pt 0 0 0, (by kernel_rfl), .inl rfl⟩, ⟨.sl 1 (x1.map (cdL 1 (cdL 1 cdI)).enc), (by kernel_rfl), .inl rfl⟩, ⟨.v (.int .i64 (x1.length : Int)), (by kernel_rfl), .inl rfl⟩, ⟨.v (.int .i64 c6), (by kernel_rfl), .inl rfl⟩, ⟨hd 2 (c5.map (cdL 1 cdI).enc), (by kernel_rfl), .inl rfl⟩, ⟨hd 3 (r33.2.map cdI.enc), (by kernel_rfl), fz_hd (t := 3) (by kernel_rfl) enc_ok⟩, trivial⟩) ?_
        refine RunS.segF (n := 51) e_evening_Hosts_ok 1 [(5, .pt 0 0 0), (19, .sl 1 (x1.map (cdL 1 (cdL 1 cdI)).enc)), (20, .v (.int .i64 (x1.length : Int))), (21, .v (.int .i64 c6)), (45, hd 2 (c5.map (cdL 1 cdI).enc)), (47, hd 4 ([r33.2].map (cdL 1 cdI).enc))] [some ⟨1, 31, [.rf 1 0 r33.1.length r33.1.length], false⟩, some ⟨1, 3, (r33.1.map cdI.enc), false⟩, mk 1 31 (c5.map (cdL 1 cdI).enc), none, mk 1 31 ([r33.2].map (cdL 1 cdI).enc)] (by kernel_rfl) ?_
        refine RunS.one e_evening_Hosts_ok 0 rfl (op_w (wantedA_none rfl) rfl (by kernel_rfl) (by kernel_rfl) (w_append (a := hd 2 (c5.map (cdL 1 cdI).enc)) (b := hd 4 ([r33.2].map (cdL 1 cdI).enc)) (by kernel_rfl) (by kernel_rfl) (append_B (c := (cdL 1 cdI)) (xs := c5) (vs := [r33.2]) (k := 1) (bytes := 24) (el := 31) (by kernel_rfl) (by kernel_rfl) (elems_hd (t := 31) (by kernel_rfl)) (List.cons_ne_nil _ _) (by kernel_rfl) hk34))) ?_
        refine RunS.segF (n := 51) e_evening_Hosts_ok 1 [(5, .pt 0 0 0), (6, hd 5 ((c5 ++ [r33.2]).map (cdL 1 cdI).enc)), (19, .sl 1 (x1.map (cdL 1 (cdL 1 cdI)).enc)), (20, .v (.int .i64 (x1.length : Int))), (21, .v (.int .i64 c6))] [some ⟨1, 31, [.rf 1 0 r33.1.length r33.1.length], false⟩, some ⟨1, 3, (r33.1.map cdI.enc), false⟩, none, none, mk 1 31 ([r33.2].map (cdL 1 cdI).enc), mk 1 31 ((c5 ++ [r33.2]).map (cdL 1 cdI).enc)] (by kernel_rfl) ?_
        exact RunS.done rfl (Wk.s3 [0, 1, 5] ⟨⟨_, rfl, bu_d⟩, ⟨_, rfl, bu_own⟩, ⟨_, rfl, bu_mk⟩, trivial⟩ ⟨lv, lu_hd (b' := 5) (by kernel_rfl) (by kernel_rfl), lv, lv, lv, trivial⟩)
      refine Sem.runS (s1 := ⟨Fr 51 [(5, .pt 0 0 0), (6, hd 2 ((c5 ++ [r33.2]).map (cdL 1 cdI).enc)), (19, .sl 1 (x1.map (cdL 1 (cdL 1 cdI)).enc)), (20, .v (.int .i64 (x1.length : Int))), (21, .v (.int .i64 (wr .i64 (c6 + 1))))], [some ⟨1, 31, [.rf 1 0 r33.1.length r33.1.length], false⟩, some ⟨1, 3, (r33.1.map cdI.enc), false⟩, mk 1 31 ((c5 ++ [r33.2]).map (cdL 1 cdI).enc)]⟩) ?_ ?_
      · refine RunS.segF (n := 51) e_evening_Hosts_ok 2 [(5, .pt 0 0 0), (6, hd 2 ((c5 ++ [r33.2]).map (cdL 1 cdI).enc)), (19, .sl 1 (x1.map (cdL 1 (cdL 1 cdI)).enc)), (20, .v (.int .i64 (x1.length : Int))), (21, .v (.int .i64 (wr .i64 (c6 + 1))))] [some ⟨1, 31, [.rf 1 0 r33.1.length r33.1.length], false⟩, some ⟨1, 3, (r33.1.map cdI.enc), false⟩, mk 1 31 ((c5 ++ [r33.2]).map (cdL 1 cdI).enc)] (by kernel_rfl) ?_
        exact RunS.done rfl (Wk.s3 [0, 1, 2] ⟨⟨_, rfl, bu_d⟩, ⟨_, rfl, bu_own⟩, ⟨_, rfl, bu_mk⟩, trivial⟩ ⟨lv, lu_hd (b' := 2) (by kernel_rfl) (by kernel_rfl), lv, lv, lv, trivial⟩)
      exact SemN.wk (s1 := ⟨Fr 51 [(5, .pt 0 0 0), (6, hd 2 ((c5 ++ [r33.2]).map (cdL 1 cdI).enc)), (19, .sl 1 (x1.map (cdL 1 (cdL 1 cdI)).enc)), (20, .v (.int .i64 (x1.length : Int))), (21, .v (.int .i64 (wr .i64 (c6 + 1))))], [some ⟨1, 31, [.rf 1 0 r33.1.length r33.1.length], false⟩, some ⟨1, 3, (r33.1.map cdI.enc), false⟩, mk 1 31 ((c5 ++ [r33.2]).map (cdL 1 cdI).enc)]⟩) (Wk.s3 [0, 1, 2] ⟨⟨_, rfl, bu_d⟩, ⟨_, rfl, bu_own⟩, ⟨_, rfl, bu_mk⟩, trivial⟩ ⟨lv, lu_hd (b' := 2) (by kernel_rfl) (by kernel_rfl), lv, lv, lv, trivial⟩) (ih r33.1 (c5 ++ [r33.2]) (wr .i64 (c6 + 1)) h)
    · rw [if_f hb7] at h
      refine Sem.exit ?_
      have hq := Option.some.inj h; subst hq
      exact ⟨rfl, (Wk.s3 [2] ⟨⟨_, rfl, bu_mk⟩, trivial⟩ ⟨lu_hd (b' := 2) (by kernel_rfl) (by kernel_rfl), trivial⟩)⟩
set_option maxHeartbeats 4000000 in
set_option maxRecDepth 100000 in
theorem evening_Hosts_sem (x0 : Int) (x1 : (List (List (List Int)))) (r : (List (List Int))) (h : evening_Hosts x0 x1 = some r) : Sem e_evening_Hosts ⟨none, false⟩ cb_evening_Hosts ⟨Fr 51 (pairs0 0 (cs_evening_Hosts.enc (x0, x1, ()))), []⟩ fun e s' => (e = .normal ∨ e = .ret) ∧ ∃ xs, resA e_evening_Hosts.P s'.fr s'.hp Tryd.f39.results.toList = some xs ∧ retA xs = er_evening_Hosts r := by
  unfold evening_Hosts at h
  refine Sem.wkQ (Sem.wk (s1 := ⟨Fr 51 [(0, .v (.int .i64 x0)), (1, .sl 1 (x1.map (cdL 1 (cdL 1 cdI)).enc))], []⟩) Wk.f1 ?_)
  refine Sem.seq ?_
  refine Sem.runS (s1 := ⟨Fr 51 [(0, .v (.int .i64 x0)), (1, .sl 1 (x1.map (cdL 1 (cdL 1 cdI)).enc))], []⟩) ?_ ?_
  · refine RunS.segF (n := 51) e_evening_Hosts_ok 1 [(0, .v (.int .i64 x0)), (1, .sl 1 (x1.map (cdL 1 (cdL 1 cdI)).enc))] [] (by kernel_rfl) ?_
    exact RunS.done rfl Wk.f1
  refine Sem.seq ?_
  refine Sem.seq ?_
  obtain ⟨v1, hv1, h⟩ := Option.bind_eq_some_iff.1 h
  refine Sem.runS (s1 := ⟨Fr 51 [(0, .v (.int .i64 x0)), (1, .sl 1 (x1.map (cdL 1 (cdL 1 cdI)).enc)), (16, .v (.bool (!v1)))], []⟩) ?_ ?_
  · refine RunS.segF (n := 51) e_evening_Hosts_ok 2 [(0, .v (.int .i64 x0)), (1, .sl 1 (x1.map (cdL 1 (cdL 1 cdI)).enc)), (13, .v (.int .i64 x0)), (14, .sl 1 (x1.map (cdL 1 (cdL 1 cdI)).enc))] [] (by kernel_rfl) ?_
    refine RunS.call e_evening_Hosts_ok (fid := 50) (s := cs_evening_valid) (F := fun a => evening_valid a.1 a.2.1) (er := er_evening_valid) (xs := [.v (.int .i64 x0), .sl 1 (x1.map (cdL 1 (cdL 1 cdI)).enc)]) (a := (x0, x1, ())) rfl (wantedA_none rfl) (by kernel_rfl) (by kernel_rfl) (by kernel_rfl) (by kernel_rfl) (Sns.cons (Sn.enc (c := cdI) (v := x0)) (Sns.cons (Sn.enc (c := (cdL 1 (cdL 1 (cdL 1 cdI)))) (v := x1)) Sns.nil)) (.inl (by kernel_rfl)) hv1 ?_
    refine RunS.segF (n := 51) e_evening_Hosts_ok 1 [(0, .v (.int .i64 x0)), (1, .sl 1 (x1.map (cdL 1 (cdL 1 cdI)).enc)), (16, .v (.bool (!v1)))] [] (by kernel_rfl) ?_
    exact RunS.done rfl Wk.f1
  refine Sem.cond (b := (!v1)) (by kernel_rfl) (fun hb2 => ?_) (fun hb2 => ?_)
  · rw [if_pos hb2] at h
    refine Sem.seq ?_
    refine Sem.runS (s1 := ⟨Fr 51 [(4, .e0)], []⟩) ?_ ?_
    · refine RunS.segF (n := 51) e_evening_Hosts_ok 1 [(4, .e0)] [] (by kernel_rfl) ?_
      exact RunS.done rfl Wk.f1
    refine Sem.ret ?_
    have hq := Option.some.inj h; subst hq
    exact ⟨⟨Fr 51 [(4, .sl 1 ([].map (cdL 1 cdI).enc))], []⟩, (Wk.trans (s1 := ⟨Fr 51 [(4, .e0)], []⟩) Wk.f1 (Wk.trans (s1 := ⟨Fr 51 [(4, .e0)], [none]⟩) Wk.none (Wk.trans (s1 := ⟨Fr 51 [(4, .sl 1 ([].map (cdL 1 cdI).enc))], [none]⟩) (Wk.frzG 0 (.inr (by kernel_rfl)) ⟨.inl rfl, trivial⟩ ⟨⟨.e0, (by kernel_rfl), fz_e0⟩, trivial⟩) (Wk.s3 [] trivial ⟨lv, trivial⟩)))), .inr rfl, [.sl 1 ([].map (cdL 1 cdI).enc)], (by kernel_rfl), (by kernel_rfl)⟩
  · rw [if_f hb2] at h
    refine Sem.skip ?_
    refine Sem.seq ?_
    by_cases hk3 : (mkOk 8 x0) = true
    case neg => rw [if_neg hk3] at h; cases h
    rw [if_pos hk3] at h
    refine Sem.runS (s1 := ⟨Fr 51 [(1, .sl 1 (x1.map (cdL 1 (cdL 1 cdI)).enc)), (5, .pt 0 0 0)], [some ⟨1, 31, [.rf 1 0 (List.replicate x0.toNat (0 : Int)).length (List.replicate x0.toNat (0 : Int)).length], false⟩, some ⟨1, 3, ((List.replicate x0.toNat (0 : Int)).map cdI.enc), false⟩]⟩) ?_ ?_
    · refine RunS.segF (n := 51) e_evening_Hosts_ok 1 [(1, .sl 1 (x1.map (cdL 1 (cdL 1 cdI)).enc)), (17, .v (.int .i64 x0))] [] (by kernel_rfl) ?_
      refine RunS.one e_evening_Hosts_ok 0 rfl (op_n (wantedA_none rfl) rfl (by kernel_rfl) (n_make (x := .v (.int .i64 x0)) (y := .v (.int .i64 x0)) (by kernel_rfl) (by kernel_rfl) (make_B (c := cdI) (z := (0 : Int)) (k := 1) (bytes := 8) (el := 3) (by kernel_rfl) (by kernel_rfl) hk3))) ?_
      refine RunS.segF (n := 51) e_evening_Hosts_ok 2 [(1, .sl 1 (x1.map (cdL 1 (cdL 1 cdI)).enc)), (5, .pt 1 0 0)] [some ⟨1, 3, ((List.replicate x0.toNat (0 : Int)).map cdI.enc), false⟩, some ⟨1, 31, [.rf 0 0 (List.replicate x0.toNat (0 : Int)).length (List.replicate x0.toNat (0 : Int)).length], false⟩] (by kernel_rfl) ?_
      exact RunS.done rfl (Wk.s3 [1, 0] ⟨⟨_, rfl, bu_d⟩, ⟨_, rfl, bu_own⟩, trivial⟩ ⟨lv, lv, trivial⟩)
    refine Sem.seq ?_
    refine Sem.runS (s1 := ⟨Fr 51 [(1, .sl 1 (x1.map (cdL 1 (cdL 1 cdI)).enc)), (5, .pt 0 0 0), (6, .e0)], [some ⟨1, 31, [.rf 1 0 (List.replicate x0.toNat (0 : Int)).length (List.replicate x0.toNat (0 : Int)).length], false⟩, some ⟨1, 3, ((List.replicate x0.toNat (0 : Int)).map cdI.enc), false⟩]⟩) ?_ ?_
    · refine RunS.segF (n := 51) e_evening_Hosts_ok 1 [(1, .sl 1 (x1.map (cdL 1 (cdL 1 cdI)).enc)), (5, .pt 0 0 0), (6, .e0)] [some ⟨1, 31, [.rf 1 0 (List.replicate x0.toNat (0 : Int)).length (List.replicate x0.toNat (0 : Int)).length], false⟩, some ⟨1, 3, ((List.replicate x0.toNat (0 : Int)).map cdI.enc), false⟩] (by kernel_rfl) ?_
      exact RunS.done rfl (Wk.s3 [0, 1] ⟨⟨_, rfl, bu_d⟩, ⟨_, rfl, bu_own⟩, trivial⟩ ⟨lv, lv, lv, trivial⟩)
    refine Sem.seq ?_
    refine Sem.seq ?_
    refine Sem.runS (s1 := ⟨Fr 51 [(5, .pt 0 0 0), (6, .e0), (19, .sl 1 (x1.map (cdL 1 (cdL 1 cdI)).enc)), (20, .v (.int .i64 (x1.length : Int))), (21, .v (.int .i64 0))], [some ⟨1, 31, [.rf 1 0 (List.replicate x0.toNat (0 : Int)).length (List.replicate x0.toNat (0 : Int)).length], false⟩, some ⟨1, 3, ((List.replicate x0.toNat (0 : Int)).map cdI.enc), false⟩]⟩) ?_ ?_
    · refine RunS.segF (n := 51) e_evening_Hosts_ok 1 [(5, .pt 0 0 0), (6, .e0), (19, .sl 1 (x1.map (cdL 1 (cdL 1 cdI)).enc))] [some ⟨1, 31, [.rf 1 0 (List.replicate x0.toNat (0 : Int)).length (List.replicate x0.toNat (0 : Int)).length], false⟩, some ⟨1, 3, ((List.replicate x0.toNat (0 : Int)).map cdI.enc), false⟩] (by kernel_rfl) ?_
      refine RunS.one e_evening_Hosts_ok 0 rfl (op_q (wantedA_none rfl) rfl (q_len (a := .sl 1 (x1.map (cdL 1 (cdL 1 cdI)).enc)) (by kernel_rfl) (len_sl (el := 50) (by kernel_rfl)))) ?_
      refine RunS.segF (n := 51) e_evening_Hosts_ok 1 [(5, .pt 0 0 0), (6, .e0), (19, .sl 1 (x1.map (cdL 1 (cdL 1 cdI)).enc)), (20, .v (.int .i64 (x1.length : Int))), (21, .v (.int .i64 0))] [some ⟨1, 31, [.rf 1 0 (List.replicate x0.toNat (0 : Int)).length (List.replicate x0.toNat (0 : Int)).length], false⟩, some ⟨1, 3, ((List.replicate x0.toNat (0 : Int)).map cdI.enc), false⟩] (by kernel_rfl) ?_
      exact RunS.done rfl (Wk.s3 [0, 1] ⟨⟨_, rfl, bu_d⟩, ⟨_, rfl, bu_own⟩, trivial⟩ ⟨lv, lv, lv, lv, lv, trivial⟩)
    refine Sem.block ?_
    obtain ⟨r36, hr36, h⟩ := Option.bind_eq_some_iff.1 h
    refine Sem.loop (n := 100000) ?_
    refine Sem.cutN (SemN.wk (s1 := ⟨Fr 51 [(5, .pt 0 0 0), (6, hd 2 ([].map (cdL 1 cdI).enc)), (19, .sl 1 (x1.map (cdL 1 (cdL 1 cdI)).enc)), (20, .v (.int .i64 (x1.length : Int))), (21, .v (.int .i64 0))], [some ⟨1, 31, [.rf 1 0 (List.replicate x0.toNat (0 : Int)).length (List.replicate x0.toNat (0 : Int)).length], false⟩, some ⟨1, 3, ((List.replicate x0.toNat (0 : Int)).map cdI.enc), false⟩, mk 1 31 ([].map (cdL 1 cdI).enc)]⟩) (Wk.trans (s1 := ⟨Fr 51 [(5, .pt 0 0 0), (6, hd 2 ([].map (cdL 1 cdI).enc)), (19, .sl 1 (x1.map (cdL 1 (cdL 1 cdI)).enc)), (20, .v (.int .i64 (x1.length : Int))), (21, .v (.int .i64 0))], [some ⟨1, 31, [.rf 1 0 (List.replicate x0.toNat (0 : Int)).length (List.replicate x0.toNat (0 : Int)).length], false⟩, some ⟨1, 3, ((List.replicate x0.toNat (0 : Int)).map cdI.enc), false⟩, mk 1 31 ([].map (cdL 1 cdI).enc)]⟩) Wk.none (Wk.s3 [0, 1, 2] ⟨⟨_, rfl, bu_d⟩, ⟨_, rfl, bu_own⟩, ⟨_, rfl, bu_none⟩, trivial⟩ ⟨lv, lv, lv, lv, lv, trivial⟩)) (evening_Hosts_1_ok x1 _ (List.replicate x0.toNat (0 : Int)) [] 0 _ hr36)) ?_
    refine Sem.seq ?_
    refine Sem.runS (s1 := ⟨Fr 51 [(4, hd 0 (r36.map (cdL 1 cdI).enc))], [mk 1 31 (r36.map (cdL 1 cdI).enc)]⟩) ?_ ?_
    · refine RunS.segF (n := 51) e_evening_Hosts_ok 2 [(4, hd 0 (r36.map (cdL 1 cdI).enc))] [mk 1 31 (r36.map (cdL 1 cdI).enc)] (by kernel_rfl) ?_
      exact RunS.done rfl (Wk.s3 [0] ⟨⟨_, rfl, bu_mk⟩, trivial⟩ ⟨lu_hd (b' := 0) (by kernel_rfl) (by kernel_rfl), trivial⟩)
    refine Sem.ret ?_
    have hq := Option.some.inj h; subst hq
    exact ⟨⟨Fr 51 [(4, .sl 1 (r36.map (cdL 1 cdI).enc))], []⟩, (Wk.trans (s1 := ⟨Fr 51 [(4, .sl 1 (r36.map (cdL 1 cdI).enc))], [none]⟩) (Wk.frzG 0 (.inl (by kernel_rfl)) ⟨.inl rfl, trivial⟩ ⟨⟨hd 0 (r36.map (cdL 1 cdI).enc), (by kernel_rfl), fz_hd (t := 31) (by kernel_rfl) enc_ok⟩, trivial⟩) (Wk.s3 [] trivial ⟨lv, trivial⟩)), .inr rfl, [.sl 1 (r36.map (cdL 1 cdI).enc)], (by kernel_rfl), (by kernel_rfl)⟩
def t_evening_Hosts : List AV → Option AV := told cs_evening_Hosts (fun a => evening_Hosts a.1 a.2.1) er_evening_Hosts
theorem x_evening_Hosts : XOk 39 t_evening_Hosts := by
  refine EnvOk.x (E := e_evening_Hosts) (contract_ok e_evening_Hosts_ok (fn := Tryd.f39) (c := cb_evening_Hosts) ?h1 ?h2 ⟨Tryd.call39⟩ cs_evening_Hosts (fun a => evening_Hosts a.1 a.2.1) er_evening_Hosts (fun a => (by show 2 ≤ 51; decide)) ?h3 ?h4) rfl rfl
  case h1 => kernel_rfl
  case h2 => kernel_rfl
  case h3 => intro b; kernel_rfl
  case h4 => exact fun a b h => evening_Hosts_sem a.1 a.2.1 b h
/- trestle/trestleref09.has -/
noncomputable def e_ref09_has : Env := E0
theorem e_ref09_has_ok : EnvOk e_ref09_has := E0_ok
noncomputable def cb_ref09_has : Code := codeOf Tryd.f76
def ref09_has_1 (x0 : (List Int)) (x1 : Int) : Nat → Int → Option ((Unit) ⊕ (Bool))
  | 0, _ => none
  | f + 1, c1 =>
    if (decide (c1 < (x0.length : Int))) = true then
    (idx x0 c1).bind fun v3 =>
    if (v3 == x1) = true then
    some (.inr true)
    else
    ref09_has_1 x0 x1 f (wr .i64 (c1 + 1))
    else
    some (.inl ())
def ref09_has (x0 : (List Int)) (x1 : Int) : Option (Bool) :=
  (ref09_has_1 x0 x1 100000 0).bind fun r6 =>
  match r6 with
  | (.inl _w7) =>
    some false
  | (.inr w8) =>
    some w8
def cs_ref09_has : Cs ((List Int) × Int × Unit) := (csC (cdL 1 cdI) (csC cdI csN))
def er_ref09_has (r : Bool) : AV := cdB.enc r
set_option maxHeartbeats 4000000 in
set_option maxRecDepth 100000 in
theorem ref09_has_1_ok (x0 : (List Int)) (x1 : Int) : ∀ (f : Nat) (c1 : Int) (r : (Unit) ⊕ (Bool)), ref09_has_1 x0 x1 f c1 = some r → SemN e_ref09_has ⟨none, false⟩ (pc cb_ref09_has [1, 0, 1, 0, 0]) f ⟨Fr 18 [(0, .sl 1 (x0.map cdI.enc)), (1, .v (.int .i64 x1)), (5, .v (.int .i64 c1))], []⟩ (fun e s => match r with
  | (.inl _w) => e = (.exit 0) ∧ Wk e_ref09_has s ⟨Fr 18 [], []⟩
  | (.inr w) => e = .ret ∧ Wk e_ref09_has s ⟨Fr 18 [(4, .v (.bool w))], []⟩) := by
  intro f
  induction f with
  | zero => intro c1 r h; cases h
  | succ f ih0 =>
    intro c1 r h
    have ih := fun (c1 : Int) => ih0 c1 r
    unfold ref09_has_1 at h
    refine SemN.succ ?_
    refine Sem.seq ?_
    refine Sem.seq ?_
    refine Sem.runS (s1 := ⟨Fr 18 [(0, .sl 1 (x0.map cdI.enc)), (1, .v (.int .i64 x1)), (5, .v (.int .i64 c1)), (9, .v (.bool (decide (c1 < (x0.length : Int)))))], []⟩) ?_ ?_
    · refine RunS.segF (n := 18) e_ref09_has_ok 2 [(0, .sl 1 (x0.map cdI.enc)), (1, .v (.int .i64 x1)), (5, .v (.int .i64 c1)), (6, .v (.int .i64 c1)), (7, .sl 1 (x0.map cdI.enc))] [] (by kernel_rfl) ?_
      refine RunS.one e_ref09_has_ok 0 rfl (op_q (wantedA_none rfl) rfl (q_len (a := .sl 1 (x0.map cdI.enc)) (by kernel_rfl) (len_sl (el := 3) (by kernel_rfl)))) ?_
      refine RunS.segF (n := 18) e_ref09_has_ok 1 [(0, .sl 1 (x0.map cdI.enc)), (1, .v (.int .i64 x1)), (5, .v (.int .i64 c1)), (9, .v (.bool (decide (c1 < (x0.length : Int)))))] [] (by kernel_rfl) ?_
      exact RunS.done rfl Wk.f1
    refine Sem.cond (b := (decide (c1 < (x0.length : Int)))) (by kernel_rfl) (fun hb2 => ?_) (fun hb2 => ?_)
    · rw [if_pos hb2] at h
      refine Sem.skip ?_
      refine Sem.seq ?_
      refine Sem.block ?_
      refine Sem.seq ?_
      obtain ⟨v3, hv3, h⟩ := Option.bind_eq_some_iff.1 h
      refine Sem.runS (s1 := ⟨Fr 18 [(0, .sl 1 (x0.map cdI.enc)), (1, .v (.int .i64 x1)), (5, .v (.int .i64 c1)), (17, .v (.bool (v3 == x1)))], []⟩) ?_ ?_
      · refine RunS.segF (n := 18) e_ref09_has_ok 2 [(0, .sl 1 (x0.map cdI.enc)), (1, .v (.int .i64 x1)), (5, .v (.int .i64 c1)), (12, .sl 1 (x0.map cdI.enc)), (13, .v (.int .i64 c1))] [] (by kernel_rfl) ?_
        refine RunS.one e_ref09_has_ok 0 rfl (op_q (wantedA_none rfl) rfl (q_indexAddr (a := .sl 1 (x0.map cdI.enc)) (b := .v (.int .i64 c1)) (by kernel_rfl) (by kernel_rfl) (ix_sl (e := cdI.enc) (el := 3) (k := 1) (ki := .i64) (by kernel_rfl) (by kernel_rfl) hv3))) ?_
        refine RunS.segF (n := 18) e_ref09_has_ok 3 [(0, .sl 1 (x0.map cdI.enc)), (1, .v (.int .i64 x1)), (5, .v (.int .i64 c1)), (17, .v (.bool (v3 == x1)))] [] (by kernel_rfl) ?_
        exact RunS.done rfl Wk.f1
      refine Sem.cond (b := (v3 == x1)) (by kernel_rfl) (fun hb4 => ?_) (fun hb4 => ?_)
      · rw [if_pos hb4] at h
        refine Sem.seq ?_
        refine Sem.runS (s1 := ⟨Fr 18 [(4, .v (.bool true))], []⟩) ?_ ?_
        · refine RunS.segF (n := 18) e_ref09_has_ok 1 [(4, .v (.bool true))] [] (by kernel_rfl) ?_
          exact RunS.done rfl Wk.f1
        refine Sem.ret ?_
        have hq := Option.some.inj h; subst hq
        exact ⟨rfl, Wk.f1⟩
      · rw [if_f hb4] at h
        refine Sem.skip ?_
        refine Sem.runS (s1 := ⟨Fr 18 [(0, .sl 1 (x0.map cdI.enc)), (1, .v (.int .i64 x1)), (5, .v (.int .i64 (wr .i64 (c1 + 1))))], []⟩) ?_ ?_
        · refine RunS.segF (n := 18) e_ref09_has_ok 3 [(0, .sl 1 (x0.map cdI.enc)), (1, .v (.int .i64 x1)), (5, .v (.int .i64 (wr .i64 (c1 + 1))))] [] (by kernel_rfl) ?_
          exact RunS.done rfl Wk.f1
        exact SemN.wk (s1 := ⟨Fr 18 [(0, .sl 1 (x0.map cdI.enc)), (1, .v (.int .i64 x1)), (5, .v (.int .i64 (wr .i64 (c1 + 1))))], []⟩) Wk.f1 (ih (wr .i64 (c1 + 1)) h)
    · rw [if_f hb2] at h
      refine Sem.exit ?_
      have hq := Option.some.inj h; subst hq
      exact ⟨rfl, Wk.f1⟩
set_option maxHeartbeats 4000000 in
set_option maxRecDepth 100000 in
theorem ref09_has_sem (x0 : (List Int)) (x1 : Int) (r : Bool) (h : ref09_has x0 x1 = some r) : Sem e_ref09_has ⟨none, false⟩ cb_ref09_has ⟨Fr 18 (pairs0 0 (cs_ref09_has.enc (x0, x1, ()))), []⟩ fun e s' => (e = .normal ∨ e = .ret) ∧ ∃ xs, resA e_ref09_has.P s'.fr s'.hp Tryd.f76.results.toList = some xs ∧ retA xs = er_ref09_has r := by
  unfold ref09_has at h
  refine Sem.wkQ (Sem.wk (s1 := ⟨Fr 18 [(0, .sl 1 (x0.map cdI.enc)), (1, .v (.int .i64 x1))], []⟩) Wk.f1 ?_)
  refine Sem.seq ?_
  refine Sem.runS (s1 := ⟨Fr 18 [(0, .sl 1 (x0.map cdI.enc)), (1, .v (.int .i64 x1))], []⟩) ?_ ?_
  · refine RunS.segF (n := 18) e_ref09_has_ok 1 [(0, .sl 1 (x0.map cdI.enc)), (1, .v (.int .i64 x1))] [] (by kernel_rfl) ?_
    exact RunS.done rfl Wk.f1
  refine Sem.seq ?_
  refine Sem.seq ?_
  refine Sem.runS (s1 := ⟨Fr 18 [(0, .sl 1 (x0.map cdI.enc)), (1, .v (.int .i64 x1)), (5, .v (.int .i64 0))], []⟩) ?_ ?_
  · refine RunS.segF (n := 18) e_ref09_has_ok 1 [(0, .sl 1 (x0.map cdI.enc)), (1, .v (.int .i64 x1)), (5, .v (.int .i64 0))] [] (by kernel_rfl) ?_
    exact RunS.done rfl Wk.f1
  refine Sem.block ?_
  obtain ⟨r6, hr6, h⟩ := Option.bind_eq_some_iff.1 h
  refine Sem.loop (n := 100000) ?_
  rcases r6 with w7 | w8
  · try dsimp only at h
    refine Sem.cutN (SemN.wk (s1 := ⟨Fr 18 [(0, .sl 1 (x0.map cdI.enc)), (1, .v (.int .i64 x1)), (5, .v (.int .i64 0))], []⟩) Wk.f1 (ref09_has_1_ok x0 x1 _ 0 _ hr6)) ?_
    refine Sem.seq ?_
    refine Sem.runS (s1 := ⟨Fr 18 [(4, .v (.bool false))], []⟩) ?_ ?_
    · refine RunS.segF (n := 18) e_ref09_has_ok 1 [(4, .v (.bool false))] [] (by kernel_rfl) ?_
      exact RunS.done rfl Wk.f1
    refine Sem.ret ?_
    have hq := Option.some.inj h; subst hq
    exact ⟨⟨Fr 18 [(4, .v (.bool false))], []⟩, Wk.f1, .inr rfl, [.v (.bool false)], (by kernel_rfl), (by kernel_rfl)⟩
  · try dsimp only at h
    refine Sem.cutN (SemN.wk (s1 := ⟨Fr 18 [(0, .sl 1 (x0.map cdI.enc)), (1, .v (.int .i64 x1)), (5, .v (.int .i64 0))], []⟩) Wk.f1 (ref09_has_1_ok x0 x1 _ 0 _ hr6)) ?_
    have hq := Option.some.inj h; subst hq
    exact ⟨⟨Fr 18 [(4, .v (.bool w8))], []⟩, Wk.f1, .inr rfl, [.v (.bool w8)], (by kernel_rfl), (by kernel_rfl)⟩
def t_ref09_has : List AV → Option AV := told cs_ref09_has (fun a => ref09_has a.1 a.2.1) er_ref09_has
theorem x_ref09_has : XOk 76 t_ref09_has := by
  refine EnvOk.x (E := e_ref09_has) (contract_ok e_ref09_has_ok (fn := Tryd.f76) (c := cb_ref09_has) ?h1 ?h2 ⟨Tryd.call76⟩ cs_ref09_has (fun a => ref09_has a.1 a.2.1) er_ref09_has (fun a => (by show 2 ≤ 18; decide)) ?h3 ?h4) rfl rfl
  case h1 => kernel_rfl
  case h2 => kernel_rfl
  case h3 => intro b; kernel_rfl
  case h4 => exact fun a b h => ref09_has_sem a.1 a.2.1 b h
/- trestle/trestleref09.Hosts -/
noncomputable def e_ref09_Hosts : Env := (E0.withX 76 t_ref09_has)
theorem e_ref09_Hosts_ok : EnvOk e_ref09_Hosts := (EnvOk.withX E0_ok x_ref09_has.1 x_ref09_has.2)
noncomputable def cb_ref09_Hosts : Code := codeOf Tryd.f86
def ref09_Hosts_j5 (c20 : Int) (v24 : Bool) : Option ((Int)) :=
  if v24 = true then
  some (wr .i64 (c20 + 1))
  else
  some c20
def ref09_Hosts_4 (c4 : (List (List Int))) (c14 : Int) : Nat → Int → Int → Option ((Int))
  | 0, _, _ => none
  | f + 1, c20, c21 =>
    if (decide (c21 < (c4.length : Int))) = true then
    (idx c4 c21).bind fun v23 =>
    (ref09_has v23 c14).bind fun v24 =>
    (ref09_Hosts_j5 c20 v24).bind fun r27 =>
    ref09_Hosts_4 c4 c14 f r27 (wr .i64 (c21 + 1))
    else
    some c20
def ref09_Hosts_j6 (c12 : Int) (c13 : Int) (c14 : Int) (r31 : Int) (j34 : Bool) : Option ((Int × Int)) :=
  if j34 = true then
  some (c14, r31)
  else
  some (c12, c13)
def ref09_Hosts_3 (x0 : Int) (x1 : (List (List (List Int)))) (c2 : Int) (c4 : (List (List Int))) (c7 : Int) : Nat → Int → Int → Int → Option ((Int))
  | 0, _, _, _ => none
  | f + 1, c12, c13, c14 =>
    if (decide (c14 < x0)) = true then
    (idx x1 c2).bind fun v16 =>
    (idx v16 c7).bind fun v17 =>
    (ref09_has v17 c14).bind fun v18 =>
    if (!v18) = true then
    ref09_Hosts_3 x0 x1 c2 c4 c7 f c12 c13 (wr .i64 (c14 + 1))
    else
    (ref09_Hosts_4 c4 c14 100000 0 0).bind fun r31 =>
    (if (decide (c12 < 0)) = true then some true else some (decide (r31 < c13))).bind fun j34 =>
    (ref09_Hosts_j6 c12 c13 c14 r31 j34).bind fun r46 =>
    ref09_Hosts_3 x0 x1 c2 c4 c7 f r46.1 r46.2 (wr .i64 (c14 + 1))
    else
    some c12
def ref09_Hosts_2 (x0 : Int) (x1 : (List (List (List Int)))) (c2 : Int) (c4 : (List (List Int))) : Nat → Int → (List Int) → Option (((List Int)))
  | 0, _, _ => none
  | f + 1, c7, c9 =>
    (idx x1 c2).bind fun v10 =>
    if (decide (c7 < (v10.length : Int))) = true then
    (ref09_Hosts_3 x0 x1 c2 c4 c7 100000 (-1) 0 0).bind fun r51 =>
    if (capOk 8 (c9.length + ([r51] : List Int).length)) = true then
    ref09_Hosts_2 x0 x1 c2 c4 f (wr .i64 (c7 + 1)) (c9 ++ ([r51] : List Int))
    else none
    else
    some c9
def ref09_Hosts_1 (x0 : Int) (x1 : (List (List (List Int)))) : Nat → Int → (List (List Int)) → Option (((List (List Int))))
  | 0, _, _ => none
  | f + 1, c2, c4 =>
    if (decide (c2 < (x1.length : Int))) = true then
    (ref09_Hosts_2 x0 x1 c2 c4 100000 0 ([] : (List Int))).bind fun r68 =>
    if (capOk 24 (c4.length + ([r68] : List (List Int)).length)) = true then
    ref09_Hosts_1 x0 x1 f (wr .i64 (c2 + 1)) (c4 ++ ([r68] : List (List Int)))
    else none
    else
    some c4
def ref09_Hosts (x0 : Int) (x1 : (List (List (List Int)))) : Option ((List (List Int))) :=
  (ref09_Hosts_1 x0 x1 100000 0 ([] : (List (List Int)))).bind fun r88 =>
  some r88
set_option maxHeartbeats 4000000 in
set_option maxRecDepth 100000 in
theorem ref09_Hosts_j5_ok {L : List Asn} {hp : Hp} (c20 : Int) (v24 : Bool) (x0 : Int) (x1 : (List (List (List Int)))) (c2 : Int) (e3 : AV) (c4 : (List (List Int))) (c7 : Int) (e8 : AV) (c9 : (List Int)) (c12 : Int) (c13 : Int) (c14 : Int) (c21 : Int) (r : (Int)) (h : ref09_Hosts_j5 c20 v24 = some r) (hT : T hp ((own_ (ocL 1 31 (ocV (cdL 1 cdI))) e3 c4) :: (own_ (ocL 1 3 (ocV cdI)) e8 c9) :: L)) : SemY e_ref09_Hosts ⟨none, false⟩ (pc cb_ref09_Hosts [1, 1, 0, 1, 0, 0, 1, 0, 0, 1, 0, 1, 0, 0, 1, 0, 0, 1, 0, 1, 0, 0, 1, 0, 0, 1, 1, 0, 1, 0, 0, 1, 0, 0, 1]) ⟨Fr 76 [(0, .v (.int .i64 x0)), (1, .sl 1 (x1.map (cdL 1 (cdL 1 cdI)).enc)), (5, e3), (6, .v (.int .i64 c2)), (7, e8), (8, .v (.int .i64 c7)), (9, .v (.int .i64 c12)), (10, .v (.int .i64 c13)), (11, .v (.int .i64 c14)), (12, .v (.int .i64 c20)), (13, .v (.int .i64 c21)), (55, .v (.bool v24))], hp⟩ (fun e s => e = .normal ∧ ∃ s2, (∃ (h' : Hp), T h' ((own_ (ocL 1 31 (ocV (cdL 1 cdI))) e3 c4) :: (own_ (ocL 1 3 (ocV cdI)) e8 c9) :: L) ∧ s2 = ⟨Fr 76 [(0, .v (.int .i64 x0)), (1, .sl 1 (x1.map (cdL 1 (cdL 1 cdI)).enc)), (5, e3), (6, .v (.int .i64 c2)), (7, e8), (8, .v (.int .i64 c7)), (9, .v (.int .i64 c12)), (10, .v (.int .i64 c13)), (11, .v (.int .i64 c14)), (12, .v (.int .i64 r)), (13, .v (.int .i64 c21))], h'⟩) ∧ WkY e_ref09_Hosts s s2) := by
  unfold ref09_Hosts_j5 at h
  refine SemY.cond (b := v24) (by kernel_rfl) (fun hb25 => ?_) (fun hb25 => ?_)
  · rw [if_pos hb25] at h
    refine SemY.regionL ?_
    refine RunL.segF (n := 76) e_ref09_Hosts_ok 3 [(0, .v (.int .i64 x0)), (1, .sl 1 (x1.map (cdL 1 (cdL 1 cdI)).enc)), (5, e3), (6, .v (.int .i64 c2)), (7, e8), (8, .v (.int .i64 c7)), (9, .v (.int .i64 c12)), (10, .v (.int .i64 c13)), (11, .v (.int .i64 c14)), (12, .v (.int .i64 (wr .i64 (c20 + 1)))), (13, .v (.int .i64 c21))] hp (by kernel_rfl) ?_
    refine RunL.done rfl ?_
    have hq := Option.some.inj h; subst hq
    exact ⟨rfl, _, ⟨hp, hT, rfl⟩, WkY.f1⟩
  · rw [if_f hb25] at h
    refine SemY.skip ?_
    have hq := Option.some.inj h; subst hq
    exact ⟨rfl, _, ⟨hp, hT, rfl⟩, WkY.f1⟩
set_option maxHeartbeats 4000000 in
set_option maxRecDepth 100000 in
theorem ref09_Hosts_4_ok {L : List Asn} (c4 : (List (List Int))) (c14 : Int) (x0 : Int) (x1 : (List (List (List Int)))) (c2 : Int) (e3 : AV) (c7 : Int) (e8 : AV) (c9 : (List Int)) (c12 : Int) (c13 : Int) : ∀ (f : Nat) (c20 : Int) (c21 : Int) (r : (Int)), ref09_Hosts_4 c4 c14 f c20 c21 = some r → ∀ (hp : Hp), T hp ((own_ (ocL 1 31 (ocV (cdL 1 cdI))) e3 c4) :: (own_ (ocL 1 3 (ocV cdI)) e8 c9) :: L) → SemYN e_ref09_Hosts ⟨none, false⟩ (pc cb_ref09_Hosts [1, 1, 0, 1, 0, 0, 1, 0, 0, 1, 0, 1, 0, 0, 1, 0, 0, 1, 0, 1, 0, 0, 1, 0, 0, 1, 1, 0, 1, 0, 0]) f ⟨Fr 76 [(0, .v (.int .i64 x0)), (1, .sl 1 (x1.map (cdL 1 (cdL 1 cdI)).enc)), (5, e3), (6, .v (.int .i64 c2)), (7, e8), (8, .v (.int .i64 c7)), (9, .v (.int .i64 c12)), (10, .v (.int .i64 c13)), (11, .v (.int .i64 c14)), (12, .v (.int .i64 c20)), (13, .v (.int .i64 c21))], hp⟩ (fun e s => e = (.exit 6) ∧ ∃ s2, (∃ (h' : Hp), T h' ((own_ (ocL 1 31 (ocV (cdL 1 cdI))) e3 c4) :: (own_ (ocL 1 3 (ocV cdI)) e8 c9) :: L) ∧ s2 = ⟨Fr 76 [(0, .v (.int .i64 x0)), (1, .sl 1 (x1.map (cdL 1 (cdL 1 cdI)).enc)), (5, e3), (6, .v (.int .i64 c2)), (7, e8), (8, .v (.int .i64 c7)), (9, .v (.int .i64 c12)), (10, .v (.int .i64 c13)), (11, .v (.int .i64 c14)), (12, .v (.int .i64 r))], h'⟩) ∧ WkY e_ref09_Hosts s s2) := by
  intro f
  induction f with
  | zero => intro c20 c21 r h; cases h
  | succ f ih0 =>
    intro c20 c21 r h  hp hT
    unfold ref09_Hosts_4 at h
    refine SemYN.succ ?_
    refine SemY.seq ?_
    refine SemY.seq ?_
    refine SemY.regionL ?_
    refine RunL.segF (n := 76) e_ref09_Hosts_ok 2 [(0, .v (.int .i64 x0)), (1, .sl 1 (x1.map (cdL 1 (cdL 1 cdI)).enc)), (5, e3), (6, .v (.int .i64 c2)), (7, e8), (8, .v (.int .i64 c7)), (9, .v (.int .i64 c12)), (10, .v (.int .i64 c13)), (11, .v (.int .i64 c14)), (12, .v (.int .i64 c20)), (13, .v (.int .i64 c21)), (44, .v (.int .i64 c21)), (45, e3)] hp (by kernel_rfl) ?_
    refine RunL.one e_ref09_Hosts_ok 0 rfl (op_q (wantedA_none rfl) rfl (q_len (a := e3) (by kernel_rfl) (len_B hT (by kernel_rfl)))) ?_
    refine RunL.segF (n := 76) e_ref09_Hosts_ok 1 [(0, .v (.int .i64 x0)), (1, .sl 1 (x1.map (cdL 1 (cdL 1 cdI)).enc)), (5, e3), (6, .v (.int .i64 c2)), (7, e8), (8, .v (.int .i64 c7)), (9, .v (.int .i64 c12)), (10, .v (.int .i64 c13)), (11, .v (.int .i64 c14)), (12, .v (.int .i64 c20)), (13, .v (.int .i64 c21)), (47, .v (.bool (decide (c21 < (c4.length : Int)))))] hp (by kernel_rfl) ?_
    refine RunL.done rfl (SemY.fr (l' := [(0, .v (.int .i64 x0)), (1, .sl 1 (x1.map (cdL 1 (cdL 1 cdI)).enc)), (5, e3), (6, .v (.int .i64 c2)), (7, e8), (8, .v (.int .i64 c7)), (9, .v (.int .i64 c12)), (10, .v (.int .i64 c13)), (11, .v (.int .i64 c14)), (12, .v (.int .i64 c20)), (13, .v (.int .i64 c21)), (47, .v (.bool (decide (c21 < (c4.length : Int)))))]) (by kernel_rfl) ?_)
    refine SemY.cond (b := (decide (c21 < (c4.length : Int)))) (by kernel_rfl) (fun hb22 => ?_) (fun hb22 => ?_)
    · rw [if_pos hb22] at h
      refine SemY.skip ?_
      refine SemY.seq ?_
      refine SemY.block ?_
      refine SemY.seq ?_
      refine SemY.regionL ?_
      refine RunL.segF (n := 76) e_ref09_Hosts_ok 2 [(0, .v (.int .i64 x0)), (1, .sl 1 (x1.map (cdL 1 (cdL 1 cdI)).enc)), (5, e3), (6, .v (.int .i64 c2)), (7, e8), (8, .v (.int .i64 c7)), (9, .v (.int .i64 c12)), (10, .v (.int .i64 c13)), (11, .v (.int .i64 c14)), (12, .v (.int .i64 c20)), (13, .v (.int .i64 c21)), (50, e3), (51, .v (.int .i64 c21))] hp (by kernel_rfl) ?_
      obtain ⟨v23, hv23, h⟩ := Option.bind_eq_some_iff.1 h
      refine RunL.one e_ref09_Hosts_ok 0 rfl (op_q (wantedA_none rfl) rfl (q_indexAddr (a := e3) (b := .v (.int .i64 c21)) (by kernel_rfl) (by kernel_rfl) (ix_B (bytes := 24) hT (by kernel_rfl) hv23))) ?_
      refine RunL.one e_ref09_Hosts_ok 0 rfl (op_q (wantedA_none rfl) rfl (q_load (p := eAt e3 c21.toNat) (by kernel_rfl) (ld_own0 (y := .sl 1 (v23.map cdI.enc)) (m := 1) (g := false) hT (idx_at hv23).2 (by kernel_rfl) (by kernel_rfl) (by kernel_rfl)))) ?_
      refine RunL.segF (n := 76) e_ref09_Hosts_ok 1 [(0, .v (.int .i64 x0)), (1, .sl 1 (x1.map (cdL 1 (cdL 1 cdI)).enc)), (5, e3), (6, .v (.int .i64 c2)), (7, e8), (8, .v (.int .i64 c7)), (9, .v (.int .i64 c12)), (10, .v (.int .i64 c13)), (11, .v (.int .i64 c14)), (12, .v (.int .i64 c20)), (13, .v (.int .i64 c21)), (53, .sl 1 (v23.map cdI.enc)), (54, .v (.int .i64 c14))] hp (by kernel_rfl) ?_
      obtain ⟨v24, hv24, h⟩ := Option.bind_eq_some_iff.1 h
      refine RunL.call e_ref09_Hosts_ok (fid := 76) (b := v24) (s := cs_ref09_has) (F := fun a => ref09_has a.1 a.2.1) (er := er_ref09_has) (xs := [.sl 1 (v23.map cdI.enc), .v (.int .i64 c14)]) (a := (v23, c14, ())) rfl (wantedA_none rfl) (by kernel_rfl) (by kernel_rfl) (by kernel_rfl) (by kernel_rfl) (Sns.cons (Sn.enc (c := (cdL 1 cdI)) (v := v23)) (Sns.cons (Sn.enc (c := cdI) (v := c14)) Sns.nil)) (.inl (by kernel_rfl)) hv24 ?_
      refine RunL.done rfl (SemY.fr (l' := [(0, .v (.int .i64 x0)), (1, .sl 1 (x1.map (cdL 1 (cdL 1 cdI)).enc)), (5, e3), (6, .v (.int .i64 c2)), (7, e8), (8, .v (.int .i64 c7)), (9, .v (.int .i64 c12)), (10, .v (.int .i64 c13)), (11, .v (.int .i64 c14)), (12, .v (.int .i64 c20)), (13, .v (.int .i64 c21)), (55, .v (.bool v24))]) (by kernel_rfl) ?_)
      obtain ⟨r27, hr27, h⟩ := Option.bind_eq_some_iff.1 h
      refine SemY.cutT (ref09_Hosts_j5_ok c20 v24 x0 x1 c2 e3 c4 c7 e8 c9 c12 c13 c14 c21 _ hr27 hT) ?_
      rintro _ ⟨hp28, hT29, rfl⟩
      refine SemY.regionL ?_
      refine RunL.segF (n := 76) e_ref09_Hosts_ok 3 [(0, .v (.int .i64 x0)), (1, .sl 1 (x1.map (cdL 1 (cdL 1 cdI)).enc)), (5, e3), (6, .v (.int .i64 c2)), (7, e8), (8, .v (.int .i64 c7)), (9, .v (.int .i64 c12)), (10, .v (.int .i64 c13)), (11, .v (.int .i64 c14)), (12, .v (.int .i64 r27)), (13, .v (.int .i64 (wr .i64 (c21 + 1))))] hp28 (by kernel_rfl) ?_
      refine RunL.done rfl ?_
      exact SemYN.wk WkY.f1 (ih0 r27 (wr .i64 (c21 + 1)) _ h  hp28 hT29)
    · rw [if_f hb22] at h
      refine SemY.exit ?_
      have hq := Option.some.inj h; subst hq
      exact ⟨rfl, _, ⟨hp, hT, rfl⟩, WkY.f1⟩
set_option maxHeartbeats 4000000 in
set_option maxRecDepth 100000 in
theorem ref09_Hosts_j6_ok {L : List Asn} {hp : Hp} (c12 : Int) (c13 : Int) (c14 : Int) (r31 : Int) (j34 : Bool) (x0 : Int) (x1 : (List (List (List Int)))) (c2 : Int) (e3 : AV) (c4 : (List (List Int))) (c7 : Int) (e8 : AV) (c9 : (List Int)) (r : (Int × Int)) (h : ref09_Hosts_j6 c12 c13 c14 r31 j34 = some r) (hT : T hp ((own_ (ocL 1 31 (ocV (cdL 1 cdI))) e3 c4) :: (own_ (ocL 1 3 (ocV cdI)) e8 c9) :: L)) : SemY e_ref09_Hosts ⟨none, false⟩ (pc cb_ref09_Hosts [1, 1, 0, 1, 0, 0, 1, 0, 0, 1, 0, 1, 0, 0, 1, 0, 0, 1, 0, 1, 0, 0, 1, 0, 0, 1, 1, 1, 1]) ⟨Fr 76 [(0, .v (.int .i64 x0)), (1, .sl 1 (x1.map (cdL 1 (cdL 1 cdI)).enc)), (5, e3), (6, .v (.int .i64 c2)), (7, e8), (8, .v (.int .i64 c7)), (9, .v (.int .i64 c12)), (10, .v (.int .i64 c13)), (11, .v (.int .i64 c14)), (12, .v (.int .i64 r31)), (64, .v (.bool j34))], hp⟩ (fun e s => e = .normal ∧ ∃ s2, (∃ (h' : Hp), T h' ((own_ (ocL 1 31 (ocV (cdL 1 cdI))) e3 c4) :: (own_ (ocL 1 3 (ocV cdI)) e8 c9) :: L) ∧ s2 = ⟨Fr 76 [(0, .v (.int .i64 x0)), (1, .sl 1 (x1.map (cdL 1 (cdL 1 cdI)).enc)), (5, e3), (6, .v (.int .i64 c2)), (7, e8), (8, .v (.int .i64 c7)), (9, .v (.int .i64 r.1)), (10, .v (.int .i64 r.2)), (11, .v (.int .i64 c14))], h'⟩) ∧ WkY e_ref09_Hosts s s2) := by
  unfold ref09_Hosts_j6 at h
  refine SemY.cond (b := j34) (by kernel_rfl) (fun hb43 => ?_) (fun hb43 => ?_)
  · rw [if_pos hb43] at h
    refine SemY.regionL ?_
    refine RunL.segF (n := 76) e_ref09_Hosts_ok 4 [(0, .v (.int .i64 x0)), (1, .sl 1 (x1.map (cdL 1 (cdL 1 cdI)).enc)), (5, e3), (6, .v (.int .i64 c2)), (7, e8), (8, .v (.int .i64 c7)), (9, .v (.int .i64 c14)), (10, .v (.int .i64 r31)), (11, .v (.int .i64 c14))] hp (by kernel_rfl) ?_
    refine RunL.done rfl ?_
    have hq := Option.some.inj h; subst hq
    exact ⟨rfl, _, ⟨hp, hT, rfl⟩, WkY.f1⟩
  · rw [if_f hb43] at h
    refine SemY.skip ?_
    have hq := Option.some.inj h; subst hq
    exact ⟨rfl, _, ⟨hp, hT, rfl⟩, WkY.f1⟩
set_option maxHeartbeats 4000000 in
set_option maxRecDepth 100000 in
theorem ref09_Hosts_3_ok {L : List Asn} (x0 : Int) (x1 : (List (List (List Int)))) (c2 : Int) (c4 : (List (List Int))) (c7 : Int) (e3 : AV) (e8 : AV) (c9 : (List Int)) : ∀ (f : Nat) (c12 : Int) (c13 : Int) (c14 : Int) (r : (Int)), ref09_Hosts_3 x0 x1 c2 c4 c7 f c12 c13 c14 = some r → ∀ (hp : Hp), T hp ((own_ (ocL 1 31 (ocV (cdL 1 cdI))) e3 c4) :: (own_ (ocL 1 3 (ocV cdI)) e8 c9) :: L) → SemYN e_ref09_Hosts ⟨none, false⟩ (pc cb_ref09_Hosts [1, 1, 0, 1, 0, 0, 1, 0, 0, 1, 0, 1, 0, 0, 1, 0, 0, 1, 0, 1, 0, 0]) f ⟨Fr 76 [(0, .v (.int .i64 x0)), (1, .sl 1 (x1.map (cdL 1 (cdL 1 cdI)).enc)), (5, e3), (6, .v (.int .i64 c2)), (7, e8), (8, .v (.int .i64 c7)), (9, .v (.int .i64 c12)), (10, .v (.int .i64 c13)), (11, .v (.int .i64 c14))], hp⟩ (fun e s => e = (.exit 4) ∧ ∃ s2, (∃ (h' : Hp), T h' ((own_ (ocL 1 31 (ocV (cdL 1 cdI))) e3 c4) :: (own_ (ocL 1 3 (ocV cdI)) e8 c9) :: L) ∧ s2 = ⟨Fr 76 [(0, .v (.int .i64 x0)), (1, .sl 1 (x1.map (cdL 1 (cdL 1 cdI)).enc)), (5, e3), (6, .v (.int .i64 c2)), (7, e8), (8, .v (.int .i64 c7)), (9, .v (.int .i64 r))], h'⟩) ∧ WkY e_ref09_Hosts s s2) := by
  intro f
  induction f with
  | zero => intro c12 c13 c14 r h; cases h
  | succ f ih0 =>
    intro c12 c13 c14 r h  hp hT
    unfold ref09_Hosts_3 at h
    refine SemYN.succ ?_
    refine SemY.seq ?_
    refine SemY.seq ?_
    refine SemY.regionL ?_
    refine RunL.segF (n := 76) e_ref09_Hosts_ok 3 [(0, .v (.int .i64 x0)), (1, .sl 1 (x1.map (cdL 1 (cdL 1 cdI)).enc)), (5, e3), (6, .v (.int .i64 c2)), (7, e8), (8, .v (.int .i64 c7)), (9, .v (.int .i64 c12)), (10, .v (.int .i64 c13)), (11, .v (.int .i64 c14)), (31, .v (.bool (decide (c14 < x0))))] hp (by kernel_rfl) ?_
    refine RunL.done rfl (SemY.fr (l' := [(0, .v (.int .i64 x0)), (1, .sl 1 (x1.map (cdL 1 (cdL 1 cdI)).enc)), (5, e3), (6, .v (.int .i64 c2)), (7, e8), (8, .v (.int .i64 c7)), (9, .v (.int .i64 c12)), (10, .v (.int .i64 c13)), (11, .v (.int .i64 c14)), (31, .v (.bool (decide (c14 < x0))))]) (by kernel_rfl) ?_)
    refine SemY.cond (b := (decide (c14 < x0))) (by kernel_rfl) (fun hb15 => ?_) (fun hb15 => ?_)
    · rw [if_pos hb15] at h
      refine SemY.skip ?_
      refine SemY.seq ?_
      refine SemY.block ?_
      refine SemY.seq ?_
      refine SemY.seq ?_
      refine SemY.regionL ?_
      refine RunL.segF (n := 76) e_ref09_Hosts_ok 2 [(0, .v (.int .i64 x0)), (1, .sl 1 (x1.map (cdL 1 (cdL 1 cdI)).enc)), (5, e3), (6, .v (.int .i64 c2)), (7, e8), (8, .v (.int .i64 c7)), (9, .v (.int .i64 c12)), (10, .v (.int .i64 c13)), (11, .v (.int .i64 c14)), (34, .sl 1 (x1.map (cdL 1 (cdL 1 cdI)).enc)), (35, .v (.int .i64 c2))] hp (by kernel_rfl) ?_
      obtain ⟨v16, hv16, h⟩ := Option.bind_eq_some_iff.1 h
      refine RunL.one e_ref09_Hosts_ok 0 rfl (op_q (wantedA_none rfl) rfl (q_indexAddr (a := .sl 1 (x1.map (cdL 1 (cdL 1 cdI)).enc)) (b := .v (.int .i64 c2)) (by kernel_rfl) (by kernel_rfl) (ix_sl (e := (cdL 1 (cdL 1 cdI)).enc) (el := 50) (k := 1) (ki := .i64) (by kernel_rfl) (by kernel_rfl) hv16))) ?_
      refine RunL.segF (n := 76) e_ref09_Hosts_ok 2 [(0, .v (.int .i64 x0)), (1, .sl 1 (x1.map (cdL 1 (cdL 1 cdI)).enc)), (5, e3), (6, .v (.int .i64 c2)), (7, e8), (8, .v (.int .i64 c7)), (9, .v (.int .i64 c12)), (10, .v (.int .i64 c13)), (11, .v (.int .i64 c14)), (37, .sl 1 (v16.map (cdL 1 cdI).enc)), (38, .v (.int .i64 c7))] hp (by kernel_rfl) ?_
      obtain ⟨v17, hv17, h⟩ := Option.bind_eq_some_iff.1 h
      refine RunL.one e_ref09_Hosts_ok 0 rfl (op_q (wantedA_none rfl) rfl (q_indexAddr (a := .sl 1 (v16.map (cdL 1 cdI).enc)) (b := .v (.int .i64 c7)) (by kernel_rfl) (by kernel_rfl) (ix_sl (e := (cdL 1 cdI).enc) (el := 31) (k := 1) (ki := .i64) (by kernel_rfl) (by kernel_rfl) hv17))) ?_
      refine RunL.segF (n := 76) e_ref09_Hosts_ok 2 [(0, .v (.int .i64 x0)), (1, .sl 1 (x1.map (cdL 1 (cdL 1 cdI)).enc)), (5, e3), (6, .v (.int .i64 c2)), (7, e8), (8, .v (.int .i64 c7)), (9, .v (.int .i64 c12)), (10, .v (.int .i64 c13)), (11, .v (.int .i64 c14)), (40, .sl 1 (v17.map cdI.enc)), (41, .v (.int .i64 c14))] hp (by kernel_rfl) ?_
      obtain ⟨v18, hv18, h⟩ := Option.bind_eq_some_iff.1 h
      refine RunL.call e_ref09_Hosts_ok (fid := 76) (b := v18) (s := cs_ref09_has) (F := fun a => ref09_has a.1 a.2.1) (er := er_ref09_has) (xs := [.sl 1 (v17.map cdI.enc), .v (.int .i64 c14)]) (a := (v17, c14, ())) rfl (wantedA_none rfl) (by kernel_rfl) (by kernel_rfl) (by kernel_rfl) (by kernel_rfl) (Sns.cons (Sn.enc (c := (cdL 1 cdI)) (v := v17)) (Sns.cons (Sn.enc (c := cdI) (v := c14)) Sns.nil)) (.inl (by kernel_rfl)) hv18 ?_
      refine RunL.segF (n := 76) e_ref09_Hosts_ok 1 [(0, .v (.int .i64 x0)), (1, .sl 1 (x1.map (cdL 1 (cdL 1 cdI)).enc)), (5, e3), (6, .v (.int .i64 c2)), (7, e8), (8, .v (.int .i64 c7)), (9, .v (.int .i64 c12)), (10, .v (.int .i64 c13)), (11, .v (.int .i64 c14)), (43, .v (.bool (!v18)))] hp (by kernel_rfl) ?_
      refine RunL.done rfl (SemY.fr (l' := [(0, .v (.int .i64 x0)), (1, .sl 1 (x1.map (cdL 1 (cdL 1 cdI)).enc)), (5, e3), (6, .v (.int .i64 c2)), (7, e8), (8, .v (.int .i64 c7)), (9, .v (.int .i64 c12)), (10, .v (.int .i64 c13)), (11, .v (.int .i64 c14)), (43, .v (.bool (!v18)))]) (by kernel_rfl) ?_)
      refine SemY.cond (b := (!v18)) (by kernel_rfl) (fun hb19 => ?_) (fun hb19 => ?_)
      · rw [if_pos hb19] at h
        refine SemY.exit ?_
        refine SemY.regionL ?_
        refine RunL.segF (n := 76) e_ref09_Hosts_ok 3 [(0, .v (.int .i64 x0)), (1, .sl 1 (x1.map (cdL 1 (cdL 1 cdI)).enc)), (5, e3), (6, .v (.int .i64 c2)), (7, e8), (8, .v (.int .i64 c7)), (9, .v (.int .i64 c12)), (10, .v (.int .i64 c13)), (11, .v (.int .i64 (wr .i64 (c14 + 1))))] hp (by kernel_rfl) ?_
        refine RunL.done rfl ?_
        exact SemYN.wk WkY.f1 (ih0 c12 c13 (wr .i64 (c14 + 1)) _ h  hp hT)
      · rw [if_f hb19] at h
        refine SemY.skip ?_
        refine SemY.seq ?_
        refine SemY.regionL ?_
        refine RunL.segF (n := 76) e_ref09_Hosts_ok 1 [(0, .v (.int .i64 x0)), (1, .sl 1 (x1.map (cdL 1 (cdL 1 cdI)).enc)), (5, e3), (6, .v (.int .i64 c2)), (7, e8), (8, .v (.int .i64 c7)), (9, .v (.int .i64 c12)), (10, .v (.int .i64 c13)), (11, .v (.int .i64 c14)), (12, .v (.int .i64 0))] hp (by kernel_rfl) ?_
        refine RunL.done rfl (SemY.fr (l' := [(0, .v (.int .i64 x0)), (1, .sl 1 (x1.map (cdL 1 (cdL 1 cdI)).enc)), (5, e3), (6, .v (.int .i64 c2)), (7, e8), (8, .v (.int .i64 c7)), (9, .v (.int .i64 c12)), (10, .v (.int .i64 c13)), (11, .v (.int .i64 c14)), (12, .v (.int .i64 0))]) (by kernel_rfl) ?_)
        refine SemY.seq ?_
        refine SemY.seq ?_
        refine SemY.regionL ?_
        refine RunL.segF (n := 76) e_ref09_Hosts_ok 1 [(0, .v (.int .i64 x0)), (1, .sl 1 (x1.map (cdL 1 (cdL 1 cdI)).enc)), (5, e3), (6, .v (.int .i64 c2)), (7, e8), (8, .v (.int .i64 c7)), (9, .v (.int .i64 c12)), (10, .v (.int .i64 c13)), (11, .v (.int .i64 c14)), (12, .v (.int .i64 0)), (13, .v (.int .i64 0))] hp (by kernel_rfl) ?_
        refine RunL.done rfl (SemY.fr (l' := [(0, .v (.int .i64 x0)), (1, .sl 1 (x1.map (cdL 1 (cdL 1 cdI)).enc)), (5, e3), (6, .v (.int .i64 c2)), (7, e8), (8, .v (.int .i64 c7)), (9, .v (.int .i64 c12)), (10, .v (.int .i64 c13)), (11, .v (.int .i64 c14)), (12, .v (.int .i64 0)), (13, .v (.int .i64 0))]) (by kernel_rfl) ?_)
        refine SemY.block ?_
        refine SemY.loop (n := 100000) ?_
        obtain ⟨r31, hr31, h⟩ := Option.bind_eq_some_iff.1 h
        refine SemYN.cutT (SemYN.wk WkY.f1 (ref09_Hosts_4_ok c4 c14 x0 x1 c2 e3 c7 e8 c9 c12 c13 _ 0 0 _ hr31  hp hT)) ?_
        rintro _ ⟨hp32, hT33, rfl⟩
        refine SemY.seq ?_
        obtain ⟨j34, hj34, h⟩ := Option.bind_eq_some_iff.1 h
        refine SemY.regT (A := fun s1 => ∃ (h' : Hp), T h' ((own_ (ocL 1 31 (ocV (cdL 1 cdI))) e3 c4) :: (own_ (ocL 1 3 (ocV cdI)) e8 c9) :: L) ∧ s1 = ⟨Fr 76 [(0, .v (.int .i64 x0)), (1, .sl 1 (x1.map (cdL 1 (cdL 1 cdI)).enc)), (5, e3), (6, .v (.int .i64 c2)), (7, e8), (8, .v (.int .i64 c7)), (9, .v (.int .i64 c12)), (10, .v (.int .i64 c13)), (11, .v (.int .i64 c14)), (12, .v (.int .i64 r31)), (64, .v (.bool j34))], h'⟩) ?_ ?_
        · refine RunL.segF (n := 76) e_ref09_Hosts_ok 3 [(0, .v (.int .i64 x0)), (1, .sl 1 (x1.map (cdL 1 (cdL 1 cdI)).enc)), (5, e3), (6, .v (.int .i64 c2)), (7, e8), (8, .v (.int .i64 c7)), (9, .v (.int .i64 c12)), (10, .v (.int .i64 c13)), (11, .v (.int .i64 c14)), (12, .v (.int .i64 r31)), (60, .v (.bool (decide (c12 < 0))))] hp32 (by kernel_rfl) ?_
          rcases Bool.eq_false_or_eq_true (decide (c12 < 0)) with hc49 | hc49
          · rw [if_pos hc49] at hj34
            rw [hc49]
            refine RunL.segF (n := 76) e_ref09_Hosts_ok 4 [(0, .v (.int .i64 x0)), (1, .sl 1 (x1.map (cdL 1 (cdL 1 cdI)).enc)), (5, e3), (6, .v (.int .i64 c2)), (7, e8), (8, .v (.int .i64 c7)), (9, .v (.int .i64 c12)), (10, .v (.int .i64 c13)), (11, .v (.int .i64 c14)), (12, .v (.int .i64 r31)), (61, .tp []), (62, .tp []), (63, .tp []), (64, .v (.bool true))] hp32 (by kernel_rfl) ?_
            have hq := Option.some.inj hj34; subst hq
            exact RunL.done rfl ⟨_, ⟨hp32, hT33, rfl⟩, WkY.f1⟩
          · rw [if_f hc49] at hj34
            rw [hc49]
            refine RunL.segF (n := 76) e_ref09_Hosts_ok 4 [(0, .v (.int .i64 x0)), (1, .sl 1 (x1.map (cdL 1 (cdL 1 cdI)).enc)), (5, e3), (6, .v (.int .i64 c2)), (7, e8), (8, .v (.int .i64 c7)), (9, .v (.int .i64 c12)), (10, .v (.int .i64 c13)), (11, .v (.int .i64 c14)), (12, .v (.int .i64 r31)), (61, .v (.int .i64 r31)), (62, .v (.int .i64 c13)), (63, .v (.bool (decide (r31 < c13)))), (64, .v (.bool (decide (r31 < c13))))] hp32 (by kernel_rfl) ?_
            have hq := Option.some.inj hj34; subst hq
            exact RunL.done rfl ⟨_, ⟨hp32, hT33, rfl⟩, WkY.f1⟩
        rintro _ ⟨hp41, hT42, rfl⟩
        obtain ⟨r46, hr46, h⟩ := Option.bind_eq_some_iff.1 h
        refine SemY.cutT (ref09_Hosts_j6_ok c12 c13 c14 r31 j34 x0 x1 c2 e3 c4 c7 e8 c9 _ hr46 hT42) ?_
        rintro _ ⟨hp47, hT48, rfl⟩
        refine SemY.regionL ?_
        refine RunL.segF (n := 76) e_ref09_Hosts_ok 3 [(0, .v (.int .i64 x0)), (1, .sl 1 (x1.map (cdL 1 (cdL 1 cdI)).enc)), (5, e3), (6, .v (.int .i64 c2)), (7, e8), (8, .v (.int .i64 c7)), (9, .v (.int .i64 r46.1)), (10, .v (.int .i64 r46.2)), (11, .v (.int .i64 (wr .i64 (c14 + 1))))] hp47 (by kernel_rfl) ?_
        refine RunL.done rfl ?_
        exact SemYN.wk WkY.f1 (ih0 r46.1 r46.2 (wr .i64 (c14 + 1)) _ h  hp47 hT48)
    · rw [if_f hb15] at h
      refine SemY.exit ?_
      have hq := Option.some.inj h; subst hq
      exact ⟨rfl, _, ⟨hp, hT, rfl⟩, WkY.f1⟩
set_option maxHeartbeats 4000000 in
set_option maxRecDepth 100000 in
theorem ref09_Hosts_2_ok {L : List Asn} (x0 : Int) (x1 : (List (List (List Int)))) (c2 : Int) (c4 : (List (List Int))) (e3 : AV) : ∀ (f : Nat) (c7 : Int) (c9 : (List Int)) (r : ((List Int))), ref09_Hosts_2 x0 x1 c2 c4 f c7 c9 = some r → ∀ (e8 : AV) (hp : Hp), T hp ((own_ (ocL 1 31 (ocV (cdL 1 cdI))) e3 c4) :: (own_ (ocL 1 3 (ocV cdI)) e8 c9) :: L) → SemYN e_ref09_Hosts ⟨none, false⟩ (pc cb_ref09_Hosts [1, 1, 0, 1, 0, 0, 1, 0, 0, 1, 0, 1, 0, 0]) f ⟨Fr 76 [(0, .v (.int .i64 x0)), (1, .sl 1 (x1.map (cdL 1 (cdL 1 cdI)).enc)), (5, e3), (6, .v (.int .i64 c2)), (7, e8), (8, .v (.int .i64 c7))], hp⟩ (fun e s => e = (.exit 2) ∧ ∃ s2, (∃ (e65 : AV) (h' : Hp), T h' ((own_ (ocL 1 31 (ocV (cdL 1 cdI))) e3 c4) :: (own_ (ocL 1 3 (ocV cdI)) e65 r) :: L) ∧ s2 = ⟨Fr 76 [(0, .v (.int .i64 x0)), (1, .sl 1 (x1.map (cdL 1 (cdL 1 cdI)).enc)), (5, e3), (6, .v (.int .i64 c2)), (7, e65)], h'⟩) ∧ WkY e_ref09_Hosts s s2) := by
  intro f
  induction f with
  | zero => intro c7 c9 r h; cases h
  | succ f ih0 =>
    intro c7 c9 r h e8 hp hT
    unfold ref09_Hosts_2 at h
    refine SemYN.succ ?_
    refine SemY.seq ?_
    refine SemY.seq ?_
    refine SemY.regionL ?_
    refine RunL.segF (n := 76) e_ref09_Hosts_ok 3 [(0, .v (.int .i64 x0)), (1, .sl 1 (x1.map (cdL 1 (cdL 1 cdI)).enc)), (5, e3), (6, .v (.int .i64 c2)), (7, e8), (8, .v (.int .i64 c7)), (20, .v (.int .i64 c7)), (21, .sl 1 (x1.map (cdL 1 (cdL 1 cdI)).enc)), (22, .v (.int .i64 c2))] hp (by kernel_rfl) ?_
    obtain ⟨v10, hv10, h⟩ := Option.bind_eq_some_iff.1 h
    refine RunL.one e_ref09_Hosts_ok 0 rfl (op_q (wantedA_none rfl) rfl (q_indexAddr (a := .sl 1 (x1.map (cdL 1 (cdL 1 cdI)).enc)) (b := .v (.int .i64 c2)) (by kernel_rfl) (by kernel_rfl) (ix_sl (e := (cdL 1 (cdL 1 cdI)).enc) (el := 50) (k := 1) (ki := .i64) (by kernel_rfl) (by kernel_rfl) hv10))) ?_
    refine RunL.segF (n := 76) e_ref09_Hosts_ok 1 [(0, .v (.int .i64 x0)), (1, .sl 1 (x1.map (cdL 1 (cdL 1 cdI)).enc)), (5, e3), (6, .v (.int .i64 c2)), (7, e8), (8, .v (.int .i64 c7)), (20, .v (.int .i64 c7)), (24, .sl 1 (v10.map (cdL 1 cdI).enc))] hp (by kernel_rfl) ?_
    refine RunL.one e_ref09_Hosts_ok 0 rfl (op_q (wantedA_none rfl) rfl (q_len (a := .sl 1 (v10.map (cdL 1 cdI).enc)) (by kernel_rfl) (len_sl (el := 31) (by kernel_rfl)))) ?_
    refine RunL.segF (n := 76) e_ref09_Hosts_ok 1 [(0, .v (.int .i64 x0)), (1, .sl 1 (x1.map (cdL 1 (cdL 1 cdI)).enc)), (5, e3), (6, .v (.int .i64 c2)), (7, e8), (8, .v (.int .i64 c7)), (26, .v (.bool (decide (c7 < (v10.length : Int)))))] hp (by kernel_rfl) ?_
    refine RunL.done rfl (SemY.fr (l' := [(0, .v (.int .i64 x0)), (1, .sl 1 (x1.map (cdL 1 (cdL 1 cdI)).enc)), (5, e3), (6, .v (.int .i64 c2)), (7, e8), (8, .v (.int .i64 c7)), (26, .v (.bool (decide (c7 < (v10.length : Int)))))]) (by kernel_rfl) ?_)
    refine SemY.cond (b := (decide (c7 < (v10.length : Int)))) (by kernel_rfl) (fun hb11 => ?_) (fun hb11 => ?_)
    · rw [if_pos hb11] at h
      refine SemY.skip ?_
      refine SemY.seq ?_
      refine SemY.block ?_
      refine SemY.seq ?_
      refine SemY.regionL ?_
      refine RunL.segF (n := 76) e_ref09_Hosts_ok 2 [(0, .v (.int .i64 x0)), (1, .sl 1 (x1.map (cdL 1 (cdL 1 cdI)).enc)), (5, e3), (6, .v (.int .i64 c2)), (7, e8), (8, .v (.int .i64 c7)), (9, .v (.int .i64 (-1))), (10, .v (.int .i64 0))] hp (by kernel_rfl) ?_
      refine RunL.done rfl (SemY.fr (l' := [(0, .v (.int .i64 x0)), (1, .sl 1 (x1.map (cdL 1 (cdL 1 cdI)).enc)), (5, e3), (6, .v (.int .i64 c2)), (7, e8), (8, .v (.int .i64 c7)), (9, .v (.int .i64 (-1))), (10, .v (.int .i64 0))]) (by kernel_rfl) ?_)
      refine SemY.seq ?_
      refine SemY.seq ?_
      refine SemY.regionL ?_
      refine RunL.segF (n := 76) e_ref09_Hosts_ok 1 [(0, .v (.int .i64 x0)), (1, .sl 1 (x1.map (cdL 1 (cdL 1 cdI)).enc)), (5, e3), (6, .v (.int .i64 c2)), (7, e8), (8, .v (.int .i64 c7)), (9, .v (.int .i64 (-1))), (10, .v (.int .i64 0)), (11, .v (.int .i64 0))] hp (by kernel_rfl) ?_
      refine RunL.done rfl (SemY.fr (l' := [(0, .v (.int .i64 x0)), (1, .sl 1 (x1.map (cdL 1 (cdL 1 cdI)).enc)), (5, e3), (6, .v (.int .i64 c2)), (7, e8), (8, .v (.int .i64 c7)), (9, .v (.int .i64 (-1))), (10, .v (.int .i64 0)), (11, .v (.int .i64 0))]) (by kernel_rfl) ?_)
      refine SemY.block ?_
      refine SemY.loop (n := 100000) ?_
      obtain ⟨r51, hr51, h⟩ := Option.bind_eq_some_iff.1 h
      refine SemYN.cutT (SemYN.wk WkY.f1 (ref09_Hosts_3_ok x0 x1 c2 c4 c7 e3 e8 c9 _ (-1) 0 0 _ hr51  hp hT)) ?_
      rintro _ ⟨hp52, hT53, rfl⟩
      refine SemY.regionL ?_
      refine RunL.segF (n := 76) e_ref09_Hosts_ok 2 [(0, .v (.int .i64 x0)), (1, .sl 1 (x1.map (cdL 1 (cdL 1 cdI)).enc)), (5, e3), (6, .v (.int .i64 c2)), (8, .v (.int .i64 c7)), (67, e8), (68, .v (.int .i64 r51))] hp52 (by kernel_rfl) ?_
      obtain ⟨e57, hp54, hb55, hT560⟩ := lit_ownB (P := Tryd.prog) (bytes := 8) (k := 1) (t := 3) (ty := 31) (xs := ([r51] : List Int)) (n := 1) (fit_V (k := 1) (fun _ => ⟨rfl, rfl, rfl⟩)) (els_leaf (c := cdI) (xs := ([r51] : List Int)) hT53) rfl (by kernel_rfl) (by kernel_rfl) (by kernel_rfl)
      have hT56 : T hp54 ((own_ (ocL 1 3 (ocV cdI)) e57 ([r51] : List Int)) :: (own_ (ocL 1 31 (ocV (cdL 1 cdI))) e3 c4) :: (own_ (ocL 1 3 (ocV cdI)) e8 c9) :: L) := hT560
      refine RunL.one e_ref09_Hosts_ok 0 rfl (op_n (wantedA_none rfl) rfl (by kernel_rfl) (n_lit (xs := enumA 0 [.v (.int .i64 r51)]) (by kernel_rfl) hb55)) ?_
      by_cases hk62 : (capOk 8 (c9.length + ([r51] : List Int).length)) = true
      case neg => rw [if_neg hk62] at h; cases h
      rw [if_pos hk62] at h
      have hT63 : T hp54 ((own_ (ocL 1 3 (ocV cdI)) e8 c9) :: (own_ (ocL 1 3 (ocV cdI)) e57 ([r51] : List Int)) :: (own_ (ocL 1 31 (ocV (cdL 1 cdI))) e3 c4) :: L) := ((hT56.front 0 rfl).front 2 rfl)
      obtain ⟨e61, hp58, hb59, hT600⟩ := app_ownB (P := Tryd.prog) (ty := 31) (ty2 := 31) (bytes := 8) hT63 (by kernel_rfl) (by kernel_rfl) hk62
      have hT60 : T hp58 ((own_ (ocL 1 3 (ocV cdI)) e61 (c9 ++ ([r51] : List Int))) :: (own_ (ocL 1 31 (ocV (cdL 1 cdI))) e3 c4) :: L) := hT600
      refine RunL.one e_ref09_Hosts_ok 0 rfl (op_w (wantedA_none rfl) rfl (by kernel_rfl) (by kernel_rfl) (w_append (a := e8) (b := e57) (by kernel_rfl) (by kernel_rfl) hb59)) ?_
      refine RunL.segF (n := 76) e_ref09_Hosts_ok 1 [(0, .v (.int .i64 x0)), (1, .sl 1 (x1.map (cdL 1 (cdL 1 cdI)).enc)), (5, e3), (6, .v (.int .i64 c2)), (7, e61), (8, .v (.int .i64 c7))] hp58 (by kernel_rfl) ?_
      refine RunL.done rfl (SemY.fr (l' := [(0, .v (.int .i64 x0)), (1, .sl 1 (x1.map (cdL 1 (cdL 1 cdI)).enc)), (5, e3), (6, .v (.int .i64 c2)), (7, e61), (8, .v (.int .i64 c7))]) (by kernel_rfl) ?_)
      refine SemY.regionL ?_
      refine RunL.segF (n := 76) e_ref09_Hosts_ok 3 [(0, .v (.int .i64 x0)), (1, .sl 1 (x1.map (cdL 1 (cdL 1 cdI)).enc)), (5, e3), (6, .v (.int .i64 c2)), (7, e61), (8, .v (.int .i64 (wr .i64 (c7 + 1))))] hp58 (by kernel_rfl) ?_
      refine RunL.done rfl ?_
      have hT64 : T hp58 ((own_ (ocL 1 31 (ocV (cdL 1 cdI))) e3 c4) :: (own_ (ocL 1 3 (ocV cdI)) e61 (c9 ++ ([r51] : List Int))) :: L) := (hT60.front 1 rfl)
      exact SemYN.wk WkY.f1 (ih0 (wr .i64 (c7 + 1)) (c9 ++ ([r51] : List Int)) _ h e61 hp58 hT64)
    · rw [if_f hb11] at h
      refine SemY.exit ?_
      have hq := Option.some.inj h; subst hq
      exact ⟨rfl, _, ⟨e8, hp, hT, rfl⟩, WkY.f1⟩
set_option maxHeartbeats 4000000 in
set_option maxRecDepth 100000 in
theorem ref09_Hosts_1_ok {L : List Asn} (x0 : Int) (x1 : (List (List (List Int)))) : ∀ (f : Nat) (c2 : Int) (c4 : (List (List Int))) (r : ((List (List Int)))), ref09_Hosts_1 x0 x1 f c2 c4 = some r → ∀ (e3 : AV) (hp : Hp), T hp ((own_ (ocL 1 31 (ocV (cdL 1 cdI))) e3 c4) :: L) → SemYN e_ref09_Hosts ⟨none, false⟩ (pc cb_ref09_Hosts [1, 1, 0, 1, 0, 0]) f ⟨Fr 76 [(0, .v (.int .i64 x0)), (1, .sl 1 (x1.map (cdL 1 (cdL 1 cdI)).enc)), (5, e3), (6, .v (.int .i64 c2))], hp⟩ (fun e s => e = (.exit 0) ∧ ∃ s2, (∃ (e86 : AV) (h' : Hp), T h' ((own_ (ocL 1 31 (ocV (cdL 1 cdI))) e86 r) :: L) ∧ s2 = ⟨Fr 76 [(5, e86)], h'⟩) ∧ WkY e_ref09_Hosts s s2) := by
  intro f
  induction f with
  | zero => intro c2 c4 r h; cases h
  | succ f ih0 =>
    intro c2 c4 r h e3 hp hT
    unfold ref09_Hosts_1 at h
    refine SemYN.succ ?_
    refine SemY.seq ?_
    refine SemY.seq ?_
    refine SemY.regionL ?_
    refine RunL.segF (n := 76) e_ref09_Hosts_ok 2 [(0, .v (.int .i64 x0)), (1, .sl 1 (x1.map (cdL 1 (cdL 1 cdI)).enc)), (5, e3), (6, .v (.int .i64 c2)), (14, .v (.int .i64 c2)), (15, .sl 1 (x1.map (cdL 1 (cdL 1 cdI)).enc))] hp (by kernel_rfl) ?_
    refine RunL.one e_ref09_Hosts_ok 0 rfl (op_q (wantedA_none rfl) rfl (q_len (a := .sl 1 (x1.map (cdL 1 (cdL 1 cdI)).enc)) (by kernel_rfl) (len_sl (el := 50) (by kernel_rfl)))) ?_
    refine RunL.segF (n := 76) e_ref09_Hosts_ok 1 [(0, .v (.int .i64 x0)), (1, .sl 1 (x1.map (cdL 1 (cdL 1 cdI)).enc)), (5, e3), (6, .v (.int .i64 c2)), (17, .v (.bool (decide (c2 < (x1.length : Int)))))] hp (by kernel_rfl) ?_
    refine RunL.done rfl (SemY.fr (l' := [(0, .v (.int .i64 x0)), (1, .sl 1 (x1.map (cdL 1 (cdL 1 cdI)).enc)), (5, e3), (6, .v (.int .i64 c2)), (17, .v (.bool (decide (c2 < (x1.length : Int)))))]) (by kernel_rfl) ?_)
    refine SemY.cond (b := (decide (c2 < (x1.length : Int)))) (by kernel_rfl) (fun hb5 => ?_) (fun hb5 => ?_)
    · rw [if_pos hb5] at h
      refine SemY.skip ?_
      refine SemY.seq ?_
      refine SemY.block ?_
      refine SemY.seq ?_
      refine SemY.regionL ?_
      refine RunL.segF (n := 76) e_ref09_Hosts_ok 1 [(0, .v (.int .i64 x0)), (1, .sl 1 (x1.map (cdL 1 (cdL 1 cdI)).enc)), (5, e3), (6, .v (.int .i64 c2)), (7, .e0)] hp (by kernel_rfl) ?_
      refine RunL.done rfl (SemY.fr (l' := [(0, .v (.int .i64 x0)), (1, .sl 1 (x1.map (cdL 1 (cdL 1 cdI)).enc)), (5, e3), (6, .v (.int .i64 c2)), (7, .e0)]) (by kernel_rfl) ?_)
      refine SemY.seq ?_
      refine SemY.seq ?_
      refine SemY.regionL ?_
      refine RunL.segF (n := 76) e_ref09_Hosts_ok 1 [(0, .v (.int .i64 x0)), (1, .sl 1 (x1.map (cdL 1 (cdL 1 cdI)).enc)), (5, e3), (6, .v (.int .i64 c2)), (7, .e0), (8, .v (.int .i64 0))] hp (by kernel_rfl) ?_
      refine RunL.done rfl (SemY.fr (l' := [(0, .v (.int .i64 x0)), (1, .sl 1 (x1.map (cdL 1 (cdL 1 cdI)).enc)), (5, e3), (6, .v (.int .i64 c2)), (7, .e0), (8, .v (.int .i64 0))]) (by kernel_rfl) ?_)
      refine SemY.block ?_
      have hT6 : T hp ((own_ (ocL 1 3 (ocV cdI)) .e0 ([] : (List Int))) :: (own_ (ocL 1 31 (ocV (cdL 1 cdI))) e3 c4) :: L) := (T.e0 (o := (ocV cdI)) hT)
      have hT67 : T hp ((own_ (ocL 1 31 (ocV (cdL 1 cdI))) e3 c4) :: (own_ (ocL 1 3 (ocV cdI)) .e0 ([] : (List Int))) :: L) := (hT6.front 1 rfl)
      refine SemY.loop (n := 100000) ?_
      obtain ⟨r68, hr68, h⟩ := Option.bind_eq_some_iff.1 h
      refine SemYN.cutT (SemYN.wk WkY.f1 (ref09_Hosts_2_ok x0 x1 c2 c4 e3 _ 0 ([] : (List Int)) _ hr68 .e0 hp hT67)) ?_
      rintro _ ⟨e69, hp70, hT71, rfl⟩
      refine SemY.regionL ?_
      refine RunL.segF (n := 76) e_ref09_Hosts_ok 2 [(0, .v (.int .i64 x0)), (1, .sl 1 (x1.map (cdL 1 (cdL 1 cdI)).enc)), (6, .v (.int .i64 c2)), (71, e3), (72, e69)] hp70 (by kernel_rfl) ?_
      have hT72 : T hp70 ((own_ (ocL 1 3 (ocV cdI)) e69 r68) :: (own_ (ocL 1 31 (ocV (cdL 1 cdI))) e3 c4) :: L) := (hT71.front 1 rfl)
      obtain ⟨hp73, hw74, hT750⟩ := WkY.frzT (E := e_ref09_Hosts) (n := 76) (l := [(0, .v (.int .i64 x0)), (1, .sl 1 (x1.map (cdL 1 (cdL 1 cdI)).enc)), (6, .v (.int .i64 c2)), (71, e3), (72, e69)]) (l' := [(0, .v (.int .i64 x0)), (1, .sl 1 (x1.map (cdL 1 (cdL 1 cdI)).enc)), (6, .v (.int .i64 c2)), (71, e3), (72, .sl 1 (r68.map cdI.enc))]) hT72 (LkT.at_ ⟨.inl (by kernel_rfl), .inl (by kernel_rfl), .inl (by kernel_rfl), .inl (by kernel_rfl), .inr ⟨(by kernel_rfl), rfl⟩, trivial⟩)
      have hT75 : T hp73 ((own_ (ocL 1 31 (ocV (cdL 1 cdI))) e3 c4) :: L) := hT750
      refine RunL.wk (WkY.trans WkY.f1 hw74) ?_
      obtain ⟨e79, hp76, hb77, hT780⟩ := lit_ownB (P := Tryd.prog) (bytes := 24) (k := 1) (t := 31) (ty := 50) (xs := ([r68] : List (List Int))) (n := 1) (fit_V (k := 1) (fun _ => ⟨rfl, rfl, rfl⟩)) (els_leaf (c := (cdL 1 cdI)) (xs := ([r68] : List (List Int))) hT75) rfl (by kernel_rfl) (by kernel_rfl) (by kernel_rfl)
      have hT78 : T hp76 ((own_ (ocL 1 31 (ocV (cdL 1 cdI))) e79 ([r68] : List (List Int))) :: (own_ (ocL 1 31 (ocV (cdL 1 cdI))) e3 c4) :: L) := hT780
      refine RunL.one e_ref09_Hosts_ok 0 rfl (op_n (wantedA_none rfl) rfl (by kernel_rfl) (n_lit (xs := enumA 0 [.sl 1 (r68.map cdI.enc)]) (by kernel_rfl) hb77)) ?_
      by_cases hk84 : (capOk 24 (c4.length + ([r68] : List (List Int)).length)) = true
      case neg => rw [if_neg hk84] at h; cases h
      rw [if_pos hk84] at h
      have hT85 : T hp76 ((own_ (ocL 1 31 (ocV (cdL 1 cdI))) e3 c4) :: (own_ (ocL 1 31 (ocV (cdL 1 cdI))) e79 ([r68] : List (List Int))) :: L) := ((hT78.front 0 rfl).front 1 rfl)
      obtain ⟨e83, hp80, hb81, hT820⟩ := app_ownB (P := Tryd.prog) (ty := 50) (ty2 := 50) (bytes := 24) hT85 (by kernel_rfl) (by kernel_rfl) hk84
      have hT82 : T hp80 ((own_ (ocL 1 31 (ocV (cdL 1 cdI))) e83 (c4 ++ ([r68] : List (List Int)))) :: L) := hT820
      refine RunL.one e_ref09_Hosts_ok 0 rfl (op_w (wantedA_none rfl) rfl (by kernel_rfl) (by kernel_rfl) (w_append (a := e3) (b := e79) (by kernel_rfl) (by kernel_rfl) hb81)) ?_
      refine RunL.segF (n := 76) e_ref09_Hosts_ok 1 [(0, .v (.int .i64 x0)), (1, .sl 1 (x1.map (cdL 1 (cdL 1 cdI)).enc)), (5, e83), (6, .v (.int .i64 c2))] hp80 (by kernel_rfl) ?_
      refine RunL.done rfl (SemY.fr (l' := [(0, .v (.int .i64 x0)), (1, .sl 1 (x1.map (cdL 1 (cdL 1 cdI)).enc)), (5, e83), (6, .v (.int .i64 c2))]) (by kernel_rfl) ?_)
      refine SemY.regionL ?_
      refine RunL.segF (n := 76) e_ref09_Hosts_ok 3 [(0, .v (.int .i64 x0)), (1, .sl 1 (x1.map (cdL 1 (cdL 1 cdI)).enc)), (5, e83), (6, .v (.int .i64 (wr .i64 (c2 + 1))))] hp80 (by kernel_rfl) ?_
      refine RunL.done rfl ?_
      exact SemYN.wk WkY.f1 (ih0 (wr .i64 (c2 + 1)) (c4 ++ ([r68] : List (List Int))) _ h e83 hp80 hT82)
    · rw [if_f hb5] at h
      refine SemY.exit ?_
      have hq := Option.some.inj h; subst hq
      exact ⟨rfl, _, ⟨e3, hp, hT, rfl⟩, WkY.f1⟩
set_option maxHeartbeats 4000000 in
set_option maxRecDepth 100000 in
theorem ref09_Hosts_sem {L : List Asn} {hp : Hp} (x0 : Int) (x1 : (List (List (List Int)))) (r : (List (List Int))) (h : ref09_Hosts x0 x1 = some r) (hT : T hp (L)) : SemY e_ref09_Hosts ⟨none, false⟩ cb_ref09_Hosts ⟨Fr 76 (pairs0 0 [.v (.int .i64 x0), .sl 1 (x1.map (cdL 1 (cdL 1 cdI)).enc)]), hp⟩ fun x s' => (x = .normal ∨ x = .ret) ∧ ∃ ys, resA e_ref09_Hosts.P s'.fr s'.hp Tryd.f86.results.toList = some ys ∧ (fun v h' => v = .sl 1 (r.map (cdL 1 cdI).enc) ∧ T h' (L)) (retA ys) s'.hp := by
  unfold ref09_Hosts at h
  refine SemY.wkQ (SemY.wk (s1 := ⟨Fr 76 [(0, .v (.int .i64 x0)), (1, .sl 1 (x1.map (cdL 1 (cdL 1 cdI)).enc))], hp⟩) WkY.f1 ?_)
  refine SemY.seq ?_
  refine SemY.regionL ?_
  refine RunL.segF (n := 76) e_ref09_Hosts_ok 1 [(0, .v (.int .i64 x0)), (1, .sl 1 (x1.map (cdL 1 (cdL 1 cdI)).enc))] hp (by kernel_rfl) ?_
  refine RunL.done rfl (SemY.fr (l' := [(0, .v (.int .i64 x0)), (1, .sl 1 (x1.map (cdL 1 (cdL 1 cdI)).enc))]) (by kernel_rfl) ?_)
  refine SemY.seq ?_
  refine SemY.regionL ?_
  refine RunL.segF (n := 76) e_ref09_Hosts_ok 1 [(0, .v (.int .i64 x0)), (1, .sl 1 (x1.map (cdL 1 (cdL 1 cdI)).enc)), (5, .e0)] hp (by kernel_rfl) ?_
  refine RunL.done rfl (SemY.fr (l' := [(0, .v (.int .i64 x0)), (1, .sl 1 (x1.map (cdL 1 (cdL 1 cdI)).enc)), (5, .e0)]) (by kernel_rfl) ?_)
  refine SemY.seq ?_
  refine SemY.seq ?_
  refine SemY.regionL ?_
  refine RunL.segF (n := 76) e_ref09_Hosts_ok 1 [(0, .v (.int .i64 x0)), (1, .sl 1 (x1.map (cdL 1 (cdL 1 cdI)).enc)), (5, .e0), (6, .v (.int .i64 0))] hp (by kernel_rfl) ?_
  refine RunL.done rfl (SemY.fr (l' := [(0, .v (.int .i64 x0)), (1, .sl 1 (x1.map (cdL 1 (cdL 1 cdI)).enc)), (5, .e0), (6, .v (.int .i64 0))]) (by kernel_rfl) ?_)
  refine SemY.block ?_
  have hT1 : T hp ((own_ (ocL 1 31 (ocV (cdL 1 cdI))) .e0 ([] : (List (List Int)))) :: L) := (T.e0 (o := (ocV (cdL 1 cdI))) hT)
  refine SemY.loop (n := 100000) ?_
  obtain ⟨r88, hr88, h⟩ := Option.bind_eq_some_iff.1 h
  refine SemYN.cutT (SemYN.wk WkY.f1 (ref09_Hosts_1_ok x0 x1 _ 0 ([] : (List (List Int))) _ hr88 .e0 hp hT1)) ?_
  rintro _ ⟨e89, hp90, hT91, rfl⟩
  refine SemY.seq ?_
  refine SemY.regionL ?_
  refine RunL.segF (n := 76) e_ref09_Hosts_ok 2 [(4, e89)] hp90 (by kernel_rfl) ?_
  refine RunL.done rfl (SemY.fr (l' := [(4, e89)]) (by kernel_rfl) ?_)
  refine SemY.ret ?_
  have hq := Option.some.inj h; subst hq
  obtain ⟨hp92, hw93, hT940⟩ := WkY.frzT (E := e_ref09_Hosts) (n := 76) (l := [(4, e89)]) (l' := [(4, .sl 1 (r88.map (cdL 1 cdI).enc))]) hT91 (LkT.at_ ⟨.inr ⟨(by kernel_rfl), rfl⟩, trivial⟩)
  have hT94 : T hp92 (L) := hT940
  exact ⟨⟨Fr 76 [(4, .sl 1 (r88.map (cdL 1 cdI).enc))], hp92⟩, (WkY.trans (WkY.trans WkY.f1 hw93) WkY.f1), .inr rfl, [.sl 1 (r88.map (cdL 1 cdI).enc)], (by kernel_rfl), ⟨rfl, hT94⟩⟩
def cs_ref09_Hosts : Cs (Int × (List (List (List Int))) × Unit) := (csC cdI (csC (cdL 1 (cdL 1 (cdL 1 cdI))) csN))
def er_ref09_Hosts (r : (List (List Int))) : AV := (cdL 1 (cdL 1 cdI)).enc r
def t_ref09_Hosts : List AV → Option AV := told cs_ref09_Hosts (fun a => ref09_Hosts a.1 a.2.1) er_ref09_Hosts
theorem x_ref09_Hosts : XOk 86 t_ref09_Hosts := by
  refine EnvOk.x (E := e_ref09_Hosts) (contract_ok e_ref09_Hosts_ok (fn := Tryd.f86) (c := cb_ref09_Hosts) ?h1 ?h2 ⟨Tryd.call86⟩ cs_ref09_Hosts (fun a => ref09_Hosts a.1 a.2.1) er_ref09_Hosts (fun a => (by show 2 ≤ 76; decide)) ?h3 ?h4) rfl rfl
  case h1 => kernel_rfl
  case h2 => kernel_rfl
  case h3 => intro b; kernel_rfl
  case h4 =>
    intro a b h
    refine Sem.mono (Sem.ofY (ref09_Hosts_sem (L := []) (hp := []) a.1 a.2.1 b h T.nil)) fun e s' hs => ?_
    obtain ⟨h1, ys, h2, h3, -⟩ := hs
    exact ⟨h1, ys, h2, h3⟩
/- slices.Index[[]int,int] -/
noncomputable def e_slices_Index_L_int : Env := E0
theorem e_slices_Index_L_int_ok : EnvOk e_slices_Index_L_int := E0_ok
noncomputable def cb_slices_Index_L_int : Code := codeOf Tryd.f115
def slices_Index_L_int_1 (x0 : (List Int)) (x1 : Int) : Nat → Int → Option ((Unit) ⊕ (Int))
  | 0, _ => none
  | f + 1, c1 =>
    if (decide (c1 < (x0.length : Int))) = true then
    (idx x0 c1).bind fun v3 =>
    if (x1 == v3) = true then
    some (.inr c1)
    else
    slices_Index_L_int_1 x0 x1 f (wr .i64 (c1 + 1))
    else
    some (.inl ())
def slices_Index_L_int (x0 : (List Int)) (x1 : Int) : Option (Int) :=
  (slices_Index_L_int_1 x0 x1 100000 0).bind fun r6 =>
  match r6 with
  | (.inl _w7) =>
    some (-1)
  | (.inr w8) =>
    some w8
def cs_slices_Index_L_int : Cs ((List Int) × Int × Unit) := (csC (cdL 1 cdI) (csC cdI csN))
def er_slices_Index_L_int (r : Int) : AV := cdI.enc r
set_option maxHeartbeats 4000000 in
set_option maxRecDepth 100000 in
theorem slices_Index_L_int_1_ok (x0 : (List Int)) (x1 : Int) : ∀ (f : Nat) (c1 : Int) (r : (Unit) ⊕ (Int)), slices_Index_L_int_1 x0 x1 f c1 = some r → SemN e_slices_Index_L_int ⟨none, false⟩ (pc cb_slices_Index_L_int [1, 0, 1, 0, 0]) f ⟨Fr 19 [(0, .sl 1 (x0.map cdI.enc)), (1, .v (.int .i64 x1)), (7, .v (.int .i64 (x0.length : Int))), (8, .v (.int .i64 c1))], []⟩ (fun e s => match r with
  | (.inl _w) => e = (.exit 0) ∧ Wk e_slices_Index_L_int s ⟨Fr 19 [], []⟩
  | (.inr w) => e = .ret ∧ Wk e_slices_Index_L_int s ⟨Fr 19 [(4, .v (.int .i64 w))], []⟩) := by
  intro f
  induction f with
  | zero => intro c1 r h; cases h
  | succ f ih0 =>
    intro c1 r h
    have ih := fun (c1 : Int) => ih0 c1 r
    unfold slices_Index_L_int_1 at h
    refine SemN.succ ?_
    refine Sem.seq ?_
    refine Sem.runS (s1 := ⟨Fr 19 [(0, .sl 1 (x0.map cdI.enc)), (1, .v (.int .i64 x1)), (7, .v (.int .i64 (x0.length : Int))), (8, .v (.int .i64 c1)), (9, .v (.bool (decide (c1 < (x0.length : Int)))))], []⟩) ?_ ?_
    · refine RunS.segF (n := 19) e_slices_Index_L_int_ok 1 [(0, .sl 1 (x0.map cdI.enc)), (1, .v (.int .i64 x1)), (7, .v (.int .i64 (x0.length : Int))), (8, .v (.int .i64 c1)), (9, .v (.bool (decide (c1 < (x0.length : Int)))))] [] (by kernel_rfl) ?_
      exact RunS.done rfl Wk.f1
    refine Sem.seq ?_
    refine Sem.cond (b := (decide (c1 < (x0.length : Int)))) (by kernel_rfl) (fun hb2 => ?_) (fun hb2 => ?_)
    · rw [if_pos hb2] at h
      refine Sem.skip ?_
      refine Sem.seq ?_
      refine Sem.block ?_
      refine Sem.seq ?_
      refine Sem.runS (s1 := ⟨Fr 19 [(0, .sl 1 (x0.map cdI.enc)), (1, .v (.int .i64 x1)), (5, .v (.int .i64 c1)), (7, .v (.int .i64 (x0.length : Int))), (8, .v (.int .i64 c1))], []⟩) ?_ ?_
      · refine RunS.segF (n := 19) e_slices_Index_L_int_ok 2 [(0, .sl 1 (x0.map cdI.enc)), (1, .v (.int .i64 x1)), (5, .v (.int .i64 c1)), (7, .v (.int .i64 (x0.length : Int))), (8, .v (.int .i64 c1))] [] (by kernel_rfl) ?_
        exact RunS.done rfl Wk.f1
      refine Sem.seq ?_
      obtain ⟨v3, hv3, h⟩ := Option.bind_eq_some_iff.1 h
      refine Sem.runS (s1 := ⟨Fr 19 [(0, .sl 1 (x0.map cdI.enc)), (1, .v (.int .i64 x1)), (5, .v (.int .i64 c1)), (7, .v (.int .i64 (x0.length : Int))), (8, .v (.int .i64 c1)), (16, .v (.bool (x1 == v3)))], []⟩) ?_ ?_
      · refine RunS.segF (n := 19) e_slices_Index_L_int_ok 3 [(0, .sl 1 (x0.map cdI.enc)), (1, .v (.int .i64 x1)), (5, .v (.int .i64 c1)), (7, .v (.int .i64 (x0.length : Int))), (8, .v (.int .i64 c1)), (11, .v (.int .i64 x1)), (12, .sl 1 (x0.map cdI.enc)), (13, .v (.int .i64 c1))] [] (by kernel_rfl) ?_
        refine RunS.one e_slices_Index_L_int_ok 0 rfl (op_q (wantedA_none rfl) rfl (q_indexAddr (a := .sl 1 (x0.map cdI.enc)) (b := .v (.int .i64 c1)) (by kernel_rfl) (by kernel_rfl) (ix_sl (e := cdI.enc) (el := 3) (k := 1) (ki := .i64) (by kernel_rfl) (by kernel_rfl) hv3))) ?_
        refine RunS.segF (n := 19) e_slices_Index_L_int_ok 2 [(0, .sl 1 (x0.map cdI.enc)), (1, .v (.int .i64 x1)), (5, .v (.int .i64 c1)), (7, .v (.int .i64 (x0.length : Int))), (8, .v (.int .i64 c1)), (16, .v (.bool (x1 == v3)))] [] (by kernel_rfl) ?_
        exact RunS.done rfl Wk.f1
      refine Sem.cond (b := (x1 == v3)) (by kernel_rfl) (fun hb4 => ?_) (fun hb4 => ?_)
      · rw [if_pos hb4] at h
        refine Sem.seq ?_
        refine Sem.runS (s1 := ⟨Fr 19 [(4, .v (.int .i64 c1))], []⟩) ?_ ?_
        · refine RunS.segF (n := 19) e_slices_Index_L_int_ok 2 [(4, .v (.int .i64 c1))] [] (by kernel_rfl) ?_
          exact RunS.done rfl Wk.f1
        refine Sem.ret ?_
        have hq := Option.some.inj h; subst hq
        exact ⟨rfl, Wk.f1⟩
      · rw [if_f hb4] at h
        refine Sem.skip ?_
        refine Sem.runS (s1 := ⟨Fr 19 [(0, .sl 1 (x0.map cdI.enc)), (1, .v (.int .i64 x1)), (7, .v (.int .i64 (x0.length : Int))), (8, .v (.int .i64 (wr .i64 (c1 + 1))))], []⟩) ?_ ?_
        · refine RunS.segF (n := 19) e_slices_Index_L_int_ok 2 [(0, .sl 1 (x0.map cdI.enc)), (1, .v (.int .i64 x1)), (7, .v (.int .i64 (x0.length : Int))), (8, .v (.int .i64 (wr .i64 (c1 + 1))))] [] (by kernel_rfl) ?_
          exact RunS.done rfl Wk.f1
        exact SemN.wk (s1 := ⟨Fr 19 [(0, .sl 1 (x0.map cdI.enc)), (1, .v (.int .i64 x1)), (7, .v (.int .i64 (x0.length : Int))), (8, .v (.int .i64 (wr .i64 (c1 + 1))))], []⟩) Wk.f1 (ih (wr .i64 (c1 + 1)) h)
    · rw [if_f hb2] at h
      refine Sem.exit ?_
      have hq := Option.some.inj h; subst hq
      exact ⟨rfl, Wk.f1⟩
set_option maxHeartbeats 4000000 in
set_option maxRecDepth 100000 in
theorem slices_Index_L_int_sem (x0 : (List Int)) (x1 : Int) (r : Int) (h : slices_Index_L_int x0 x1 = some r) : Sem e_slices_Index_L_int ⟨none, false⟩ cb_slices_Index_L_int ⟨Fr 19 (pairs0 0 (cs_slices_Index_L_int.enc (x0, x1, ()))), []⟩ fun e s' => (e = .normal ∨ e = .ret) ∧ ∃ xs, resA e_slices_Index_L_int.P s'.fr s'.hp Tryd.f115.results.toList = some xs ∧ retA xs = er_slices_Index_L_int r := by
  unfold slices_Index_L_int at h
  refine Sem.wkQ (Sem.wk (s1 := ⟨Fr 19 [(0, .sl 1 (x0.map cdI.enc)), (1, .v (.int .i64 x1))], []⟩) Wk.f1 ?_)
  refine Sem.seq ?_
  refine Sem.runS (s1 := ⟨Fr 19 [(0, .sl 1 (x0.map cdI.enc)), (1, .v (.int .i64 x1))], []⟩) ?_ ?_
  · refine RunS.segF (n := 19) e_slices_Index_L_int_ok 1 [(0, .sl 1 (x0.map cdI.enc)), (1, .v (.int .i64 x1))] [] (by kernel_rfl) ?_
    exact RunS.done rfl Wk.f1
  refine Sem.seq ?_
  refine Sem.seq ?_
  refine Sem.runS (s1 := ⟨Fr 19 [(0, .sl 1 (x0.map cdI.enc)), (1, .v (.int .i64 x1)), (7, .v (.int .i64 (x0.length : Int))), (8, .v (.int .i64 0))], []⟩) ?_ ?_
  · refine RunS.segF (n := 19) e_slices_Index_L_int_ok 1 [(0, .sl 1 (x0.map cdI.enc)), (1, .v (.int .i64 x1)), (6, .sl 1 (x0.map cdI.enc))] [] (by kernel_rfl) ?_
    refine RunS.one e_slices_Index_L_int_ok 0 rfl (op_q (wantedA_none rfl) rfl (q_len (a := .sl 1 (x0.map cdI.enc)) (by kernel_rfl) (len_sl (el := 3) (by kernel_rfl)))) ?_
    refine RunS.segF (n := 19) e_slices_Index_L_int_ok 1 [(0, .sl 1 (x0.map cdI.enc)), (1, .v (.int .i64 x1)), (7, .v (.int .i64 (x0.length : Int))), (8, .v (.int .i64 0))] [] (by kernel_rfl) ?_
    exact RunS.done rfl Wk.f1
  refine Sem.block ?_
  obtain ⟨r6, hr6, h⟩ := Option.bind_eq_some_iff.1 h
  refine Sem.loop (n := 100000) ?_
  rcases r6 with w7 | w8
  · try dsimp only at h
    refine Sem.cutN (SemN.wk (s1 := ⟨Fr 19 [(0, .sl 1 (x0.map cdI.enc)), (1, .v (.int .i64 x1)), (7, .v (.int .i64 (x0.length : Int))), (8, .v (.int .i64 0))], []⟩) Wk.f1 (slices_Index_L_int_1_ok x0 x1 _ 0 _ hr6)) ?_
    refine Sem.seq ?_
    refine Sem.runS (s1 := ⟨Fr 19 [(4, .v (.int .i64 (-1)))], []⟩) ?_ ?_
    · refine RunS.segF (n := 19) e_slices_Index_L_int_ok 1 [(4, .v (.int .i64 (-1)))] [] (by kernel_rfl) ?_
      exact RunS.done rfl Wk.f1
    refine Sem.ret ?_
    have hq := Option.some.inj h; subst hq
    exact ⟨⟨Fr 19 [(4, .v (.int .i64 (-1)))], []⟩, Wk.f1, .inr rfl, [.v (.int .i64 (-1))], (by kernel_rfl), (by kernel_rfl)⟩
  · try dsimp only at h
    refine Sem.cutN (SemN.wk (s1 := ⟨Fr 19 [(0, .sl 1 (x0.map cdI.enc)), (1, .v (.int .i64 x1)), (7, .v (.int .i64 (x0.length : Int))), (8, .v (.int .i64 0))], []⟩) Wk.f1 (slices_Index_L_int_1_ok x0 x1 _ 0 _ hr6)) ?_
    have hq := Option.some.inj h; subst hq
    exact ⟨⟨Fr 19 [(4, .v (.int .i64 w8))], []⟩, Wk.f1, .inr rfl, [.v (.int .i64 w8)], (by kernel_rfl), (by kernel_rfl)⟩
def t_slices_Index_L_int : List AV → Option AV := told cs_slices_Index_L_int (fun a => slices_Index_L_int a.1 a.2.1) er_slices_Index_L_int
theorem x_slices_Index_L_int : XOk 115 t_slices_Index_L_int := by
  refine EnvOk.x (E := e_slices_Index_L_int) (contract_ok e_slices_Index_L_int_ok (fn := Tryd.f115) (c := cb_slices_Index_L_int) ?h1 ?h2 ⟨Tryd.call115⟩ cs_slices_Index_L_int (fun a => slices_Index_L_int a.1 a.2.1) er_slices_Index_L_int (fun a => (by show 2 ≤ 19; decide)) ?h3 ?h4) rfl rfl
  case h1 => kernel_rfl
  case h2 => kernel_rfl
  case h3 => intro b; kernel_rfl
  case h4 => exact fun a b h => slices_Index_L_int_sem a.1 a.2.1 b h
/- slices.Contains[[]int,int] -/
noncomputable def e_slices_Contains_L_int : Env := (E0.withX 115 t_slices_Index_L_int)
theorem e_slices_Contains_L_int_ok : EnvOk e_slices_Contains_L_int := (EnvOk.withX E0_ok x_slices_Index_L_int.1 x_slices_Index_L_int.2)
noncomputable def cb_slices_Contains_L_int : Code := codeOf Tryd.f94
def slices_Contains_L_int (x0 : (List Int)) (x1 : Int) : Option (Bool) :=
  (slices_Index_L_int x0 x1).bind fun v1 =>
  some (decide (v1 ≥ 0))
def cs_slices_Contains_L_int : Cs ((List Int) × Int × Unit) := (csC (cdL 1 cdI) (csC cdI csN))
def er_slices_Contains_L_int (r : Bool) : AV := cdB.enc r
set_option maxHeartbeats 4000000 in
set_option maxRecDepth 100000 in
theorem slices_Contains_L_int_sem (x0 : (List Int)) (x1 : Int) (r : Bool) (h : slices_Contains_L_int x0 x1 = some r) : Sem e_slices_Contains_L_int ⟨none, false⟩ cb_slices_Contains_L_int ⟨Fr 9 (pairs0 0 (cs_slices_Contains_L_int.enc (x0, x1, ()))), []⟩ fun e s' => (e = .normal ∨ e = .ret) ∧ ∃ xs, resA e_slices_Contains_L_int.P s'.fr s'.hp Tryd.f94.results.toList = some xs ∧ retA xs = er_slices_Contains_L_int r := by
  unfold slices_Contains_L_int at h
  refine Sem.wkQ (Sem.wk (s1 := ⟨Fr 9 [(0, .sl 1 (x0.map cdI.enc)), (1, .v (.int .i64 x1))], []⟩) Wk.f1 ?_)
  refine Sem.seq ?_
  refine Sem.runS (s1 := ⟨Fr 9 [(0, .sl 1 (x0.map cdI.enc)), (1, .v (.int .i64 x1))], []⟩) ?_ ?_
  · refine RunS.segF (n := 9) e_slices_Contains_L_int_ok 1 [(0, .sl 1 (x0.map cdI.enc)), (1, .v (.int .i64 x1))] [] (by kernel_rfl) ?_
    exact RunS.done rfl Wk.f1
  refine Sem.seq ?_
  obtain ⟨v1, hv1, h⟩ := Option.bind_eq_some_iff.1 h
  refine Sem.runS (s1 := ⟨Fr 9 [(4, .v (.bool (decide (v1 ≥ 0))))], []⟩) ?_ ?_
  · refine RunS.segF (n := 9) e_slices_Contains_L_int_ok 2 [(5, .sl 1 (x0.map cdI.enc)), (6, .v (.int .i64 x1))] [] (by kernel_rfl) ?_
    refine RunS.call e_slices_Contains_L_int_ok (fid := 115) (s := cs_slices_Index_L_int) (F := fun a => slices_Index_L_int a.1 a.2.1) (er := er_slices_Index_L_int) (xs := [.sl 1 (x0.map cdI.enc), .v (.int .i64 x1)]) (a := (x0, x1, ())) rfl (wantedA_none rfl) (by kernel_rfl) (by kernel_rfl) (by kernel_rfl) (by kernel_rfl) (Sns.cons (Sn.enc (c := (cdL 1 cdI)) (v := x0)) (Sns.cons (Sn.enc (c := cdI) (v := x1)) Sns.nil)) (.inl (by kernel_rfl)) hv1 ?_
    refine RunS.segF (n := 9) e_slices_Contains_L_int_ok 2 [(4, .v (.bool (decide (v1 ≥ 0))))] [] (by kernel_rfl) ?_
    exact RunS.done rfl Wk.f1
  refine Sem.ret ?_
  have hq := Option.some.inj h; subst hq
  exact ⟨⟨Fr 9 [(4, .v (.bool (decide (v1 ≥ 0))))], []⟩, Wk.f1, .inr rfl, [.v (.bool (decide (v1 ≥ 0)))], (by kernel_rfl), (by kernel_rfl)⟩
def t_slices_Contains_L_int : List AV → Option AV := told cs_slices_Contains_L_int (fun a => slices_Contains_L_int a.1 a.2.1) er_slices_Contains_L_int
theorem x_slices_Contains_L_int : XOk 94 t_slices_Contains_L_int := by
  refine EnvOk.x (E := e_slices_Contains_L_int) (contract_ok e_slices_Contains_L_int_ok (fn := Tryd.f94) (c := cb_slices_Contains_L_int) ?h1 ?h2 ⟨Tryd.call94⟩ cs_slices_Contains_L_int (fun a => slices_Contains_L_int a.1 a.2.1) er_slices_Contains_L_int (fun a => (by show 2 ≤ 9; decide)) ?h3 ?h4) rfl rfl
  case h1 => kernel_rfl
  case h2 => kernel_rfl
  case h3 => intro b; kernel_rfl
  case h4 => exact fun a b h => slices_Contains_L_int_sem a.1 a.2.1 b h
/- trestle/trestlelaw09.permutation -/
noncomputable def e_law09_permutation : Env := (E0.withX 94 t_slices_Contains_L_int)
theorem e_law09_permutation_ok : EnvOk e_law09_permutation := (EnvOk.withX E0_ok x_slices_Contains_L_int.1 x_slices_Contains_L_int.2)
noncomputable def cb_law09_permutation : Code := codeOf Tryd.f87
def law09_permutation_1 (x0 : (List Int)) (x1 : Int) : Nat → Int → Option ((Unit) ⊕ (Bool))
  | 0, _ => none
  | f + 1, c2 =>
    if (decide (c2 < x1)) = true then
    (slices_Contains_L_int x0 c2).bind fun v4 =>
    if (!v4) = true then
    some (.inr false)
    else
    law09_permutation_1 x0 x1 f (wr .i64 (c2 + 1))
    else
    some (.inl ())
def law09_permutation (x0 : (List Int)) (x1 : Int) : Option (Bool) :=
  if ((x0.length : Int) != x1) = true then
  some false
  else
  (law09_permutation_1 x0 x1 100000 0).bind fun r7 =>
  match r7 with
  | (.inl _w8) =>
    some true
  | (.inr w9) =>
    some w9
def cs_law09_permutation : Cs ((List Int) × Int × Unit) := (csC (cdL 1 cdI) (csC cdI csN))
def er_law09_permutation (r : Bool) : AV := cdB.enc r
set_option maxHeartbeats 4000000 in
set_option maxRecDepth 100000 in
theorem law09_permutation_1_ok (x0 : (List Int)) (x1 : Int) : ∀ (f : Nat) (c2 : Int) (r : (Unit) ⊕ (Bool)), law09_permutation_1 x0 x1 f c2 = some r → SemN e_law09_permutation ⟨none, false⟩ (pc cb_law09_permutation [1, 1, 0, 1, 0, 0]) f ⟨Fr 19 [(0, .sl 1 (x0.map cdI.enc)), (10, .v (.int .i64 x1)), (11, .v (.int .i64 c2))], []⟩ (fun e s => match r with
  | (.inl _w) => e = (.exit 0) ∧ Wk e_law09_permutation s ⟨Fr 19 [], []⟩
  | (.inr w) => e = .ret ∧ Wk e_law09_permutation s ⟨Fr 19 [(4, .v (.bool w))], []⟩) := by
  intro f
  induction f with
  | zero => intro c2 r h; cases h
  | succ f ih0 =>
    intro c2 r h
    have ih := fun (c2 : Int) => ih0 c2 r
    unfold law09_permutation_1 at h
    refine SemN.succ ?_
    refine Sem.seq ?_
    refine Sem.runS (s1 := ⟨Fr 19 [(0, .sl 1 (x0.map cdI.enc)), (10, .v (.int .i64 x1)), (11, .v (.int .i64 c2)), (12, .v (.bool (decide (c2 < x1))))], []⟩) ?_ ?_
    · refine RunS.segF (n := 19) e_law09_permutation_ok 1 [(0, .sl 1 (x0.map cdI.enc)), (10, .v (.int .i64 x1)), (11, .v (.int .i64 c2)), (12, .v (.bool (decide (c2 < x1))))] [] (by kernel_rfl) ?_
      exact RunS.done rfl Wk.f1
    refine Sem.seq ?_
    refine Sem.cond (b := (decide (c2 < x1))) (by kernel_rfl) (fun hb3 => ?_) (fun hb3 => ?_)
    · rw [if_pos hb3] at h
      refine Sem.skip ?_
      refine Sem.seq ?_
      refine Sem.block ?_
      refine Sem.seq ?_
      refine Sem.runS (s1 := ⟨Fr 19 [(0, .sl 1 (x0.map cdI.enc)), (5, .v (.int .i64 c2)), (10, .v (.int .i64 x1)), (11, .v (.int .i64 c2))], []⟩) ?_ ?_
      · refine RunS.segF (n := 19) e_law09_permutation_ok 2 [(0, .sl 1 (x0.map cdI.enc)), (5, .v (.int .i64 c2)), (10, .v (.int .i64 x1)), (11, .v (.int .i64 c2))] [] (by kernel_rfl) ?_
        exact RunS.done rfl Wk.f1
      refine Sem.seq ?_
      obtain ⟨v4, hv4, h⟩ := Option.bind_eq_some_iff.1 h
      refine Sem.runS (s1 := ⟨Fr 19 [(0, .sl 1 (x0.map cdI.enc)), (10, .v (.int .i64 x1)), (11, .v (.int .i64 c2)), (17, .v (.bool (!v4)))], []⟩) ?_ ?_
      · refine RunS.segF (n := 19) e_law09_permutation_ok 2 [(0, .sl 1 (x0.map cdI.enc)), (10, .v (.int .i64 x1)), (11, .v (.int .i64 c2)), (14, .sl 1 (x0.map cdI.enc)), (15, .v (.int .i64 c2))] [] (by kernel_rfl) ?_
        refine RunS.call e_law09_permutation_ok (fid := 94) (s := cs_slices_Contains_L_int) (F := fun a => slices_Contains_L_int a.1 a.2.1) (er := er_slices_Contains_L_int) (xs := [.sl 1 (x0.map cdI.enc), .v (.int .i64 c2)]) (a := (x0, c2, ())) rfl (wantedA_none rfl) (by kernel_rfl) (by kernel_rfl) (by kernel_rfl) (by kernel_rfl) (Sns.cons (Sn.enc (c := (cdL 1 cdI)) (v := x0)) (Sns.cons (Sn.enc (c := cdI) (v := c2)) Sns.nil)) (.inl (by kernel_rfl)) hv4 ?_
        refine RunS.segF (n := 19) e_law09_permutation_ok 1 [(0, .sl 1 (x0.map cdI.enc)), (10, .v (.int .i64 x1)), (11, .v (.int .i64 c2)), (17, .v (.bool (!v4)))] [] (by kernel_rfl) ?_
        exact RunS.done rfl Wk.f1
      refine Sem.cond (b := (!v4)) (by kernel_rfl) (fun hb5 => ?_) (fun hb5 => ?_)
      · rw [if_pos hb5] at h
        refine Sem.seq ?_
        refine Sem.runS (s1 := ⟨Fr 19 [(4, .v (.bool false))], []⟩) ?_ ?_
        · refine RunS.segF (n := 19) e_law09_permutation_ok 1 [(4, .v (.bool false))] [] (by kernel_rfl) ?_
          exact RunS.done rfl Wk.f1
        refine Sem.ret ?_
        have hq := Option.some.inj h; subst hq
        exact ⟨rfl, Wk.f1⟩
      · rw [if_f hb5] at h
        refine Sem.skip ?_
        refine Sem.runS (s1 := ⟨Fr 19 [(0, .sl 1 (x0.map cdI.enc)), (10, .v (.int .i64 x1)), (11, .v (.int .i64 (wr .i64 (c2 + 1))))], []⟩) ?_ ?_
        · refine RunS.segF (n := 19) e_law09_permutation_ok 2 [(0, .sl 1 (x0.map cdI.enc)), (10, .v (.int .i64 x1)), (11, .v (.int .i64 (wr .i64 (c2 + 1))))] [] (by kernel_rfl) ?_
          exact RunS.done rfl Wk.f1
        exact SemN.wk (s1 := ⟨Fr 19 [(0, .sl 1 (x0.map cdI.enc)), (10, .v (.int .i64 x1)), (11, .v (.int .i64 (wr .i64 (c2 + 1))))], []⟩) Wk.f1 (ih (wr .i64 (c2 + 1)) h)
    · rw [if_f hb3] at h
      refine Sem.exit ?_
      have hq := Option.some.inj h; subst hq
      exact ⟨rfl, Wk.f1⟩
set_option maxHeartbeats 4000000 in
set_option maxRecDepth 100000 in
theorem law09_permutation_sem (x0 : (List Int)) (x1 : Int) (r : Bool) (h : law09_permutation x0 x1 = some r) : Sem e_law09_permutation ⟨none, false⟩ cb_law09_permutation ⟨Fr 19 (pairs0 0 (cs_law09_permutation.enc (x0, x1, ()))), []⟩ fun e s' => (e = .normal ∨ e = .ret) ∧ ∃ xs, resA e_law09_permutation.P s'.fr s'.hp Tryd.f87.results.toList = some xs ∧ retA xs = er_law09_permutation r := by
  unfold law09_permutation at h
  refine Sem.wkQ (Sem.wk (s1 := ⟨Fr 19 [(0, .sl 1 (x0.map cdI.enc)), (1, .v (.int .i64 x1))], []⟩) Wk.f1 ?_)
  refine Sem.seq ?_
  refine Sem.runS (s1 := ⟨Fr 19 [(0, .sl 1 (x0.map cdI.enc)), (1, .v (.int .i64 x1))], []⟩) ?_ ?_
  · refine RunS.segF (n := 19) e_law09_permutation_ok 1 [(0, .sl 1 (x0.map cdI.enc)), (1, .v (.int .i64 x1))] [] (by kernel_rfl) ?_
    exact RunS.done rfl Wk.f1
  refine Sem.seq ?_
  refine Sem.seq ?_
  refine Sem.runS (s1 := ⟨Fr 19 [(0, .sl 1 (x0.map cdI.enc)), (1, .v (.int .i64 x1)), (9, .v (.bool ((x0.length : Int) != x1)))], []⟩) ?_ ?_
  · refine RunS.segF (n := 19) e_law09_permutation_ok 1 [(0, .sl 1 (x0.map cdI.enc)), (1, .v (.int .i64 x1)), (6, .sl 1 (x0.map cdI.enc))] [] (by kernel_rfl) ?_
    refine RunS.one e_law09_permutation_ok 0 rfl (op_q (wantedA_none rfl) rfl (q_len (a := .sl 1 (x0.map cdI.enc)) (by kernel_rfl) (len_sl (el := 3) (by kernel_rfl)))) ?_
    refine RunS.segF (n := 19) e_law09_permutation_ok 2 [(0, .sl 1 (x0.map cdI.enc)), (1, .v (.int .i64 x1)), (9, .v (.bool ((x0.length : Int) != x1)))] [] (by kernel_rfl) ?_
    exact RunS.done rfl Wk.f1
  refine Sem.cond (b := ((x0.length : Int) != x1)) (by kernel_rfl) (fun hb1 => ?_) (fun hb1 => ?_)
  · rw [if_pos hb1] at h
    refine Sem.seq ?_
    refine Sem.runS (s1 := ⟨Fr 19 [(4, .v (.bool false))], []⟩) ?_ ?_
    · refine RunS.segF (n := 19) e_law09_permutation_ok 1 [(4, .v (.bool false))] [] (by kernel_rfl) ?_
      exact RunS.done rfl Wk.f1
    refine Sem.ret ?_
    have hq := Option.some.inj h; subst hq
    exact ⟨⟨Fr 19 [(4, .v (.bool false))], []⟩, Wk.f1, .inr rfl, [.v (.bool false)], (by kernel_rfl), (by kernel_rfl)⟩
  · rw [if_f hb1] at h
    refine Sem.skip ?_
    refine Sem.seq ?_
    refine Sem.seq ?_
    refine Sem.runS (s1 := ⟨Fr 19 [(0, .sl 1 (x0.map cdI.enc)), (10, .v (.int .i64 x1)), (11, .v (.int .i64 0))], []⟩) ?_ ?_
    · refine RunS.segF (n := 19) e_law09_permutation_ok 2 [(0, .sl 1 (x0.map cdI.enc)), (10, .v (.int .i64 x1)), (11, .v (.int .i64 0))] [] (by kernel_rfl) ?_
      exact RunS.done rfl Wk.f1
    refine Sem.block ?_
    obtain ⟨r7, hr7, h⟩ := Option.bind_eq_some_iff.1 h
    refine Sem.loop (n := 100000) ?_
    rcases r7 with w8 | w9
    · try dsimp only at h
      refine Sem.cutN (SemN.wk (s1 := ⟨Fr 19 [(0, .sl 1 (x0.map cdI.enc)), (10, .v (.int .i64 x1)), (11, .v (.int .i64 0))], []⟩) Wk.f1 (law09_permutation_1_ok x0 x1 _ 0 _ hr7)) ?_
      refine Sem.seq ?_
      refine Sem.runS (s1 := ⟨Fr 19 [(4, .v (.bool true))], []⟩) ?_ ?_
      · refine RunS.segF (n := 19) e_law09_permutation_ok 1 [(4, .v (.bool true))] [] (by kernel_rfl) ?_
        exact RunS.done rfl Wk.f1
      refine Sem.ret ?_
      have hq := Option.some.inj h; subst hq
      exact ⟨⟨Fr 19 [(4, .v (.bool true))], []⟩, Wk.f1, .inr rfl, [.v (.bool true)], (by kernel_rfl), (by kernel_rfl)⟩
    · try dsimp only at h
      refine Sem.cutN (SemN.wk (s1 := ⟨Fr 19 [(0, .sl 1 (x0.map cdI.enc)), (10, .v (.int .i64 x1)), (11, .v (.int .i64 0))], []⟩) Wk.f1 (law09_permutation_1_ok x0 x1 _ 0 _ hr7)) ?_
      have hq := Option.some.inj h; subst hq
      exact ⟨⟨Fr 19 [(4, .v (.bool w9))], []⟩, Wk.f1, .inr rfl, [.v (.bool w9)], (by kernel_rfl), (by kernel_rfl)⟩
def t_law09_permutation : List AV → Option AV := told cs_law09_permutation (fun a => law09_permutation a.1 a.2.1) er_law09_permutation
theorem x_law09_permutation : XOk 87 t_law09_permutation := by
  refine EnvOk.x (E := e_law09_permutation) (contract_ok e_law09_permutation_ok (fn := Tryd.f87) (c := cb_law09_permutation) ?h1 ?h2 ⟨Tryd.call87⟩ cs_law09_permutation (fun a => law09_permutation a.1 a.2.1) er_law09_permutation (fun a => (by show 2 ≤ 19; decide)) ?h3 ?h4) rfl rfl
  case h1 => kernel_rfl
  case h2 => kernel_rfl
  case h3 => intro b; kernel_rfl
  case h4 => exact fun a b h => law09_permutation_sem a.1 a.2.1 b h
/- trestle/trestlekit.SameInts -/
noncomputable def e_kit_SameInts : Env := E0
theorem e_kit_SameInts_ok : EnvOk e_kit_SameInts := E0_ok
noncomputable def cb_kit_SameInts : Code := codeOf Tryd.f43
def kit_SameInts_1 (x0 : (List Int)) (x1 : (List Int)) : Nat → Int → Option ((Unit) ⊕ (Bool))
  | 0, _ => none
  | f + 1, c2 =>
    if (decide (c2 < (x0.length : Int))) = true then
    (idx x0 c2).bind fun v4 =>
    (idx x1 c2).bind fun v5 =>
    if (v4 != v5) = true then
    some (.inr false)
    else
    kit_SameInts_1 x0 x1 f (wr .i64 (c2 + 1))
    else
    some (.inl ())
def kit_SameInts (x0 : (List Int)) (x1 : (List Int)) : Option (Bool) :=
  if ((x0.length : Int) != (x1.length : Int)) = true then
  some false
  else
  (kit_SameInts_1 x0 x1 100000 0).bind fun r8 =>
  match r8 with
  | (.inl _w9) =>
    some true
  | (.inr w10) =>
    some w10
def cs_kit_SameInts : Cs ((List Int) × (List Int) × Unit) := (csC (cdL 1 cdI) (csC (cdL 1 cdI) csN))
def er_kit_SameInts (r : Bool) : AV := cdB.enc r
set_option maxHeartbeats 4000000 in
set_option maxRecDepth 100000 in
theorem kit_SameInts_1_ok (x0 : (List Int)) (x1 : (List Int)) : ∀ (f : Nat) (c2 : Int) (r : (Unit) ⊕ (Bool)), kit_SameInts_1 x0 x1 f c2 = some r → SemN e_kit_SameInts ⟨none, false⟩ (pc cb_kit_SameInts [1, 1, 0, 1, 0, 0]) f ⟨Fr 26 [(0, .sl 1 (x0.map cdI.enc)), (1, .sl 1 (x1.map cdI.enc)), (5, .v (.int .i64 c2))], []⟩ (fun e s => match r with
  | (.inl _w) => e = (.exit 0) ∧ Wk e_kit_SameInts s ⟨Fr 26 [], []⟩
  | (.inr w) => e = .ret ∧ Wk e_kit_SameInts s ⟨Fr 26 [(4, .v (.bool w))], []⟩) := by
  intro f
  induction f with
  | zero => intro c2 r h; cases h
  | succ f ih0 =>
    intro c2 r h
    have ih := fun (c2 : Int) => ih0 c2 r
    unfold kit_SameInts_1 at h
    refine SemN.succ ?_
    refine Sem.seq ?_
    refine Sem.seq ?_
    refine Sem.runS (s1 := ⟨Fr 26 [(0, .sl 1 (x0.map cdI.enc)), (1, .sl 1 (x1.map cdI.enc)), (5, .v (.int .i64 c2)), (14, .v (.bool (decide (c2 < (x0.length : Int)))))], []⟩) ?_ ?_
    · refine RunS.segF (n := 26) e_kit_SameInts_ok 2 [(0, .sl 1 (x0.map cdI.enc)), (1, .sl 1 (x1.map cdI.enc)), (5, .v (.int .i64 c2)), (11, .v (.int .i64 c2)), (12, .sl 1 (x0.map cdI.enc))] [] (by kernel_rfl) ?_
      refine RunS.one e_kit_SameInts_ok 0 rfl (op_q (wantedA_none rfl) rfl (q_len (a := .sl 1 (x0.map cdI.enc)) (by kernel_rfl) (len_sl (el := 3) (by kernel_rfl)))) ?_
      refine RunS.segF (n := 26) e_kit_SameInts_ok 1 [(0, .sl 1 (x0.map cdI.enc)), (1, .sl 1 (x1.map cdI.enc)), (5, .v (.int .i64 c2)), (14, .v (.bool (decide (c2 < (x0.length : Int)))))] [] (by kernel_rfl) ?_
      exact RunS.done rfl Wk.f1
    refine Sem.cond (b := (decide (c2 < (x0.length : Int)))) (by kernel_rfl) (fun hb3 => ?_) (fun hb3 => ?_)
    · rw [if_pos hb3] at h
      refine Sem.skip ?_
      refine Sem.seq ?_
      refine Sem.block ?_
      refine Sem.seq ?_
      obtain ⟨v4, hv4, h⟩ := Option.bind_eq_some_iff.1 h
      obtain ⟨v5, hv5, h⟩ := Option.bind_eq_some_iff.1 h
      refine Sem.runDS e_kit_SameInts_ok (s1 := ⟨Fr 26 [(0, .sl 1 (x0.map cdI.enc)), (1, .sl 1 (x1.map cdI.enc)), (5, .v (.int .i64 c2)), (25, .v (.bool (v4 != v5)))], []⟩) (by kernel_rfl) ?_ ?_
      · refine RunDS.segF (n := 26) e_kit_SameInts_ok 2 [(0, .sl 1 (x0.map cdI.enc)), (1, .sl 1 (x1.map cdI.enc)), (5, .v (.int .i64 c2)), (17, .sl 1 (x0.map cdI.enc)), (18, .v (.int .i64 c2))] [] (by kernel_rfl) (by kernel_rfl) ?_
        refine RunDS.one e_kit_SameInts_ok rfl (by kernel_rfl) (opd_q (by kernel_rfl) (wantedA_none rfl) rfl (q_indexAddr (a := .sl 1 (x0.map cdI.enc)) (b := .v (.int .i64 c2)) (by kernel_rfl) (by kernel_rfl) (ix_sl (e := cdI.enc) (el := 3) (k := 1) (ki := .i64) (by kernel_rfl) (by kernel_rfl) hv4)) (by kernel_rfl)) ?_
        refine RunDS.segF (n := 26) e_kit_SameInts_ok 3 [(0, .sl 1 (x0.map cdI.enc)), (1, .sl 1 (x1.map cdI.enc)), (5, .v (.int .i64 c2)), (20, .v (.int .i64 v4)), (21, .sl 1 (x1.map cdI.enc)), (22, .v (.int .i64 c2))] [] (by kernel_rfl) (by kernel_rfl) ?_
        refine RunDS.one e_kit_SameInts_ok rfl (by kernel_rfl) (opd_q (by kernel_rfl) (wantedA_none rfl) rfl (q_indexAddr (a := .sl 1 (x1.map cdI.enc)) (b := .v (.int .i64 c2)) (by kernel_rfl) (by kernel_rfl) (ix_sl (e := cdI.enc) (el := 3) (k := 1) (ki := .i64) (by kernel_rfl) (by kernel_rfl) hv5)) (by kernel_rfl)) ?_
        refine RunDS.segF (n := 26) e_kit_SameInts_ok 2 [(0, .sl 1 (x0.map cdI.enc)), (1, .sl 1 (x1.map cdI.enc)), (5, .v (.int .i64 c2)), (25, .v (.bool (v4 != v5)))] [] (by kernel_rfl) (by kernel_rfl) ?_
        exact RunDS.done rfl Wk.f1
      refine Sem.cond (b := (v4 != v5)) (by kernel_rfl) (fun hb6 => ?_) (fun hb6 => ?_)
      · rw [if_pos hb6] at h
        refine Sem.seq ?_
        refine Sem.runS (s1 := ⟨Fr 26 [(4, .v (.bool false))], []⟩) ?_ ?_
        · refine RunS.segF (n := 26) e_kit_SameInts_ok 1 [(4, .v (.bool false))] [] (by kernel_rfl) ?_
          exact RunS.done rfl Wk.f1
        refine Sem.ret ?_
        have hq := Option.some.inj h; subst hq
        exact ⟨rfl, Wk.f1⟩
      · rw [if_f hb6] at h
        refine Sem.skip ?_
        refine Sem.runS (s1 := ⟨Fr 26 [(0, .sl 1 (x0.map cdI.enc)), (1, .sl 1 (x1.map cdI.enc)), (5, .v (.int .i64 (wr .i64 (c2 + 1))))], []⟩) ?_ ?_
        · refine RunS.segF (n := 26) e_kit_SameInts_ok 3 [(0, .sl 1 (x0.map cdI.enc)), (1, .sl 1 (x1.map cdI.enc)), (5, .v (.int .i64 (wr .i64 (c2 + 1))))] [] (by kernel_rfl) ?_
          exact RunS.done rfl Wk.f1
        exact SemN.wk (s1 := ⟨Fr 26 [(0, .sl 1 (x0.map cdI.enc)), (1, .sl 1 (x1.map cdI.enc)), (5, .v (.int .i64 (wr .i64 (c2 + 1))))], []⟩) Wk.f1 (ih (wr .i64 (c2 + 1)) h)
    · rw [if_f hb3] at h
      refine Sem.exit ?_
      have hq := Option.some.inj h; subst hq
      exact ⟨rfl, Wk.f1⟩
set_option maxHeartbeats 4000000 in
set_option maxRecDepth 100000 in
theorem kit_SameInts_sem (x0 : (List Int)) (x1 : (List Int)) (r : Bool) (h : kit_SameInts x0 x1 = some r) : Sem e_kit_SameInts ⟨none, false⟩ cb_kit_SameInts ⟨Fr 26 (pairs0 0 (cs_kit_SameInts.enc (x0, x1, ()))), []⟩ fun e s' => (e = .normal ∨ e = .ret) ∧ ∃ xs, resA e_kit_SameInts.P s'.fr s'.hp Tryd.f43.results.toList = some xs ∧ retA xs = er_kit_SameInts r := by
  unfold kit_SameInts at h
  refine Sem.wkQ (Sem.wk (s1 := ⟨Fr 26 [(0, .sl 1 (x0.map cdI.enc)), (1, .sl 1 (x1.map cdI.enc))], []⟩) Wk.f1 ?_)
  refine Sem.seq ?_
  refine Sem.runS (s1 := ⟨Fr 26 [(0, .sl 1 (x0.map cdI.enc)), (1, .sl 1 (x1.map cdI.enc))], []⟩) ?_ ?_
  · refine RunS.segF (n := 26) e_kit_SameInts_ok 1 [(0, .sl 1 (x0.map cdI.enc)), (1, .sl 1 (x1.map cdI.enc))] [] (by kernel_rfl) ?_
    exact RunS.done rfl Wk.f1
  refine Sem.seq ?_
  refine Sem.seq ?_
  refine Sem.runS (s1 := ⟨Fr 26 [(0, .sl 1 (x0.map cdI.enc)), (1, .sl 1 (x1.map cdI.enc)), (10, .v (.bool ((x0.length : Int) != (x1.length : Int))))], []⟩) ?_ ?_
  · refine RunS.segF (n := 26) e_kit_SameInts_ok 1 [(0, .sl 1 (x0.map cdI.enc)), (1, .sl 1 (x1.map cdI.enc)), (6, .sl 1 (x0.map cdI.enc))] [] (by kernel_rfl) ?_
    refine RunS.one e_kit_SameInts_ok 0 rfl (op_q (wantedA_none rfl) rfl (q_len (a := .sl 1 (x0.map cdI.enc)) (by kernel_rfl) (len_sl (el := 3) (by kernel_rfl)))) ?_
    refine RunS.segF (n := 26) e_kit_SameInts_ok 1 [(0, .sl 1 (x0.map cdI.enc)), (1, .sl 1 (x1.map cdI.enc)), (7, .v (.int .i64 (x0.length : Int))), (8, .sl 1 (x1.map cdI.enc))] [] (by kernel_rfl) ?_
    refine RunS.one e_kit_SameInts_ok 0 rfl (op_q (wantedA_none rfl) rfl (q_len (a := .sl 1 (x1.map cdI.enc)) (by kernel_rfl) (len_sl (el := 3) (by kernel_rfl)))) ?_
    refine RunS.segF (n := 26) e_kit_SameInts_ok 1 [(0, .sl 1 (x0.map cdI.enc)), (1, .sl 1 (x1.map cdI.enc)), (10, .v (.bool ((x0.length : Int) != (x1.length : Int))))] [] (by kernel_rfl) ?_
    exact RunS.done rfl Wk.f1
  refine Sem.cond (b := ((x0.length : Int) != (x1.length : Int))) (by kernel_rfl) (fun hb1 => ?_) (fun hb1 => ?_)
  · rw [if_pos hb1] at h
    refine Sem.seq ?_
    refine Sem.runS (s1 := ⟨Fr 26 [(4, .v (.bool false))], []⟩) ?_ ?_
    · refine RunS.segF (n := 26) e_kit_SameInts_ok 1 [(4, .v (.bool false))] [] (by kernel_rfl) ?_
      exact RunS.done rfl Wk.f1
    refine Sem.ret ?_
    have hq := Option.some.inj h; subst hq
    exact ⟨⟨Fr 26 [(4, .v (.bool false))], []⟩, Wk.f1, .inr rfl, [.v (.bool false)], (by kernel_rfl), (by kernel_rfl)⟩
  · rw [if_f hb1] at h
    refine Sem.skip ?_
    refine Sem.seq ?_
    refine Sem.seq ?_
    refine Sem.runS (s1 := ⟨Fr 26 [(0, .sl 1 (x0.map cdI.enc)), (1, .sl 1 (x1.map cdI.enc)), (5, .v (.int .i64 0))], []⟩) ?_ ?_
    · refine RunS.segF (n := 26) e_kit_SameInts_ok 1 [(0, .sl 1 (x0.map cdI.enc)), (1, .sl 1 (x1.map cdI.enc)), (5, .v (.int .i64 0))] [] (by kernel_rfl) ?_
      exact RunS.done rfl Wk.f1
    refine Sem.block ?_
    obtain ⟨r8, hr8, h⟩ := Option.bind_eq_some_iff.1 h
    refine Sem.loop (n := 100000) ?_
    rcases r8 with w9 | w10
    · try dsimp only at h
      refine Sem.cutN (SemN.wk (s1 := ⟨Fr 26 [(0, .sl 1 (x0.map cdI.enc)), (1, .sl 1 (x1.map cdI.enc)), (5, .v (.int .i64 0))], []⟩) Wk.f1 (kit_SameInts_1_ok x0 x1 _ 0 _ hr8)) ?_
      refine Sem.seq ?_
      refine Sem.runS (s1 := ⟨Fr 26 [(4, .v (.bool true))], []⟩) ?_ ?_
      · refine RunS.segF (n := 26) e_kit_SameInts_ok 1 [(4, .v (.bool true))] [] (by kernel_rfl) ?_
        exact RunS.done rfl Wk.f1
      refine Sem.ret ?_
      have hq := Option.some.inj h; subst hq
      exact ⟨⟨Fr 26 [(4, .v (.bool true))], []⟩, Wk.f1, .inr rfl, [.v (.bool true)], (by kernel_rfl), (by kernel_rfl)⟩
    · try dsimp only at h
      refine Sem.cutN (SemN.wk (s1 := ⟨Fr 26 [(0, .sl 1 (x0.map cdI.enc)), (1, .sl 1 (x1.map cdI.enc)), (5, .v (.int .i64 0))], []⟩) Wk.f1 (kit_SameInts_1_ok x0 x1 _ 0 _ hr8)) ?_
      have hq := Option.some.inj h; subst hq
      exact ⟨⟨Fr 26 [(4, .v (.bool w10))], []⟩, Wk.f1, .inr rfl, [.v (.bool w10)], (by kernel_rfl), (by kernel_rfl)⟩
def t_kit_SameInts : List AV → Option AV := told cs_kit_SameInts (fun a => kit_SameInts a.1 a.2.1) er_kit_SameInts
theorem x_kit_SameInts : XOk 43 t_kit_SameInts := by
  refine EnvOk.x (E := e_kit_SameInts) (contract_ok e_kit_SameInts_ok (fn := Tryd.f43) (c := cb_kit_SameInts) ?h1 ?h2 ⟨Tryd.call43⟩ cs_kit_SameInts (fun a => kit_SameInts a.1 a.2.1) er_kit_SameInts (fun a => (by show 2 ≤ 26; decide)) ?h3 ?h4) rfl rfl
  case h1 => kernel_rfl
  case h2 => kernel_rfl
  case h3 => intro b; kernel_rfl
  case h4 => exact fun a b h => kit_SameInts_sem a.1 a.2.1 b h
/- trestle/trestlekit.SameLists -/
noncomputable def e_kit_SameLists : Env := (E0.withX 43 t_kit_SameInts)
theorem e_kit_SameLists_ok : EnvOk e_kit_SameLists := (EnvOk.withX E0_ok x_kit_SameInts.1 x_kit_SameInts.2)
noncomputable def cb_kit_SameLists : Code := codeOf Tryd.f56
def kit_SameLists_1 (x0 : (List (List Int))) (x1 : (List (List Int))) : Nat → Int → Option ((Unit) ⊕ (Bool))
  | 0, _ => none
  | f + 1, c2 =>
    if (decide (c2 < (x0.length : Int))) = true then
    (idx x0 c2).bind fun v4 =>
    (idx x1 c2).bind fun v5 =>
    (kit_SameInts v4 v5).bind fun v6 =>
    if (!v6) = true then
    some (.inr false)
    else
    kit_SameLists_1 x0 x1 f (wr .i64 (c2 + 1))
    else
    some (.inl ())
def kit_SameLists (x0 : (List (List Int))) (x1 : (List (List Int))) : Option (Bool) :=
  if ((x0.length : Int) != (x1.length : Int)) = true then
  some false
  else
  (kit_SameLists_1 x0 x1 100000 0).bind fun r9 =>
  match r9 with
  | (.inl _w10) =>
    some true
  | (.inr w11) =>
    some w11
def cs_kit_SameLists : Cs ((List (List Int)) × (List (List Int)) × Unit) := (csC (cdL 1 (cdL 1 cdI)) (csC (cdL 1 (cdL 1 cdI)) csN))
def er_kit_SameLists (r : Bool) : AV := cdB.enc r
set_option maxHeartbeats 4000000 in
set_option maxRecDepth 100000 in
theorem kit_SameLists_1_ok (x0 : (List (List Int))) (x1 : (List (List Int))) : ∀ (f : Nat) (c2 : Int) (r : (Unit) ⊕ (Bool)), kit_SameLists_1 x0 x1 f c2 = some r → SemN e_kit_SameLists ⟨none, false⟩ (pc cb_kit_SameLists [1, 1, 0, 1, 0, 0]) f ⟨Fr 27 [(0, .sl 1 (x0.map (cdL 1 cdI).enc)), (1, .sl 1 (x1.map (cdL 1 cdI).enc)), (5, .v (.int .i64 c2))], []⟩ (fun e s => match r with
  | (.inl _w) => e = (.exit 0) ∧ Wk e_kit_SameLists s ⟨Fr 27 [], []⟩
  | (.inr w) => e = .ret ∧ Wk e_kit_SameLists s ⟨Fr 27 [(4, .v (.bool w))], []⟩) := by
  intro f
  induction f with
  | zero => intro c2 r h; cases h
  | succ f ih0 =>
    intro c2 r h
    have ih := fun (c2 : Int) => ih0 c2 r
    unfold kit_SameLists_1 at h
    refine SemN.succ ?_
    refine Sem.seq ?_
    refine Sem.seq ?_
    refine Sem.runS (s1 := ⟨Fr 27 [(0, .sl 1 (x0.map (cdL 1 cdI).enc)), (1, .sl 1 (x1.map (cdL 1 cdI).enc)), (5, .v (.int .i64 c2)), (14, .v (.bool (decide (c2 < (x0.length : Int)))))], []⟩) ?_ ?_
    · refine RunS.segF (n := 27) e_kit_SameLists_ok 2 [(0, .sl 1 (x0.map (cdL 1 cdI).enc)), (1, .sl 1 (x1.map (cdL 1 cdI).enc)), (5, .v (.int .i64 c2)), (11, .v (.int .i64 c2)), (12, .sl 1 (x0.map (cdL 1 cdI).enc))] [] (by kernel_rfl) ?_
      refine RunS.one e_kit_SameLists_ok 0 rfl (op_q (wantedA_none rfl) rfl (q_len (a := .sl 1 (x0.map (cdL 1 cdI).enc)) (by kernel_rfl) (len_sl (el := 31) (by kernel_rfl)))) ?_
      refine RunS.segF (n := 27) e_kit_SameLists_ok 1 [(0, .sl 1 (x0.map (cdL 1 cdI).enc)), (1, .sl 1 (x1.map (cdL 1 cdI).enc)), (5, .v (.int .i64 c2)), (14, .v (.bool (decide (c2 < (x0.length : Int)))))] [] (by kernel_rfl) ?_
      exact RunS.done rfl Wk.f1
    refine Sem.cond (b := (decide (c2 < (x0.length : Int)))) (by kernel_rfl) (fun hb3 => ?_) (fun hb3 => ?_)
    · rw [if_pos hb3] at h
      refine Sem.skip ?_
      refine Sem.seq ?_
      refine Sem.block ?_
      refine Sem.seq ?_
      obtain ⟨v4, hv4, h⟩ := Option.bind_eq_some_iff.1 h
      obtain ⟨v5, hv5, h⟩ := Option.bind_eq_some_iff.1 h
      obtain ⟨v6, hv6, h⟩ := Option.bind_eq_some_iff.1 h
      refine Sem.runDS e_kit_SameLists_ok (s1 := ⟨Fr 27 [(0, .sl 1 (x0.map (cdL 1 cdI).enc)), (1, .sl 1 (x1.map (cdL 1 cdI).enc)), (5, .v (.int .i64 c2)), (26, .v (.bool (!v6)))], []⟩) (by kernel_rfl) ?_ ?_
      · refine RunDS.segF (n := 27) e_kit_SameLists_ok 2 [(0, .sl 1 (x0.map (cdL 1 cdI).enc)), (1, .sl 1 (x1.map (cdL 1 cdI).enc)), (5, .v (.int .i64 c2)), (17, .sl 1 (x0.map (cdL 1 cdI).enc)), (18, .v (.int .i64 c2))] [] (by kernel_rfl) (by kernel_rfl) ?_
        refine RunDS.one e_kit_SameLists_ok rfl (by kernel_rfl) (opd_q (by kernel_rfl) (wantedA_none rfl) rfl (q_indexAddr (a := .sl 1 (x0.map (cdL 1 cdI).enc)) (b := .v (.int .i64 c2)) (by kernel_rfl) (by kernel_rfl) (ix_sl (e := (cdL 1 cdI).enc) (el := 31) (k := 1) (ki := .i64) (by kernel_rfl) (by kernel_rfl) hv4)) (by kernel_rfl)) ?_
        refine RunDS.segF (n := 27) e_kit_SameLists_ok 3 [(0, .sl 1 (x0.map (cdL 1 cdI).enc)), (1, .sl 1 (x1.map (cdL 1 cdI).enc)), (5, .v (.int .i64 c2)), (20, .sl 1 (v4.map cdI.enc)), (21, .sl 1 (x1.map (cdL 1 cdI).enc)), (22, .v (.int .i64 c2))] [] (by kernel_rfl) (by kernel_rfl) ?_
        refine RunDS.one e_kit_SameLists_ok rfl (by kernel_rfl) (opd_q (by kernel_rfl) (wantedA_none rfl) rfl (q_indexAddr (a := .sl 1 (x1.map (cdL 1 cdI).enc)) (b := .v (.int .i64 c2)) (by kernel_rfl) (by kernel_rfl) (ix_sl (e := (cdL 1 cdI).enc) (el := 31) (k := 1) (ki := .i64) (by kernel_rfl) (by kernel_rfl) hv5)) (by kernel_rfl)) ?_
        refine RunDS.segF (n := 27) e_kit_SameLists_ok 1 [(0, .sl 1 (x0.map (cdL 1 cdI).enc)), (1, .sl 1 (x1.map (cdL 1 cdI).enc)), (5, .v (.int .i64 c2)), (20, .sl 1 (v4.map cdI.enc)), (24, .sl 1 (v5.map cdI.enc))] [] (by kernel_rfl) (by kernel_rfl) ?_
        refine RunDS.call e_kit_SameLists_ok (fid := 43) (s := cs_kit_SameInts) (F := fun a => kit_SameInts a.1 a.2.1) (er := er_kit_SameInts) (xs := [.sl 1 (v4.map cdI.enc), .sl 1 (v5.map cdI.enc)]) (a := (v4, v5, ())) rfl (wantedA_none rfl) (by kernel_rfl) (by kernel_rfl) (by kernel_rfl) (Sns.cons (Sn.enc (c := (cdL 1 cdI)) (v := v4)) (Sns.cons (Sn.enc (c := (cdL 1 cdI)) (v := v5)) Sns.nil)) (by kernel_rfl) hv6 ?_
        refine RunDS.segF (n := 27) e_kit_SameLists_ok 1 [(0, .sl 1 (x0.map (cdL 1 cdI).enc)), (1, .sl 1 (x1.map (cdL 1 cdI).enc)), (5, .v (.int .i64 c2)), (26, .v (.bool (!v6)))] [] (by kernel_rfl) (by kernel_rfl) ?_
        exact RunDS.done rfl Wk.f1
      refine Sem.cond (b := (!v6)) (by kernel_rfl) (fun hb7 => ?_) (fun hb7 => ?_)
      · rw [if_pos hb7] at h
        refine Sem.seq ?_
        refine Sem.runS (s1 := ⟨Fr 27 [(4, .v (.bool false))], []⟩) ?_ ?_
        · refine RunS.segF (n := 27) e_kit_SameLists_ok 1 [(4, .v (.bool false))] [] (by kernel_rfl) ?_
          exact RunS.done rfl Wk.f1
        refine Sem.ret ?_
        have hq := Option.some.inj h; subst hq
        exact ⟨rfl, Wk.f1⟩
      · rw [if_f hb7] at h
        refine Sem.skip ?_
        refine Sem.runS (s1 := ⟨Fr 27 [(0, .sl 1 (x0.map (cdL 1 cdI).enc)), (1, .sl 1 (x1.map (cdL 1 cdI).enc)), (5, .v (.int .i64 (wr .i64 (c2 + 1))))], []⟩) ?_ ?_
        · refine RunS.segF (n := 27) e_kit_SameLists_ok 3 [(0, .sl 1 (x0.map (cdL 1 cdI).enc)), (1, .sl 1 (x1.map (cdL 1 cdI).enc)), (5, .v (.int .i64 (wr .i64 (c2 + 1))))] [] (by kernel_rfl) ?_
          exact RunS.done rfl Wk.f1
        exact SemN.wk (s1 := ⟨Fr 27 [(0, .sl 1 (x0.map (cdL 1 cdI).enc)), (1, .sl 1 (x1.map (cdL 1 cdI).enc)), (5, .v (.int .i64 (wr .i64 (c2 + 1))))], []⟩) Wk.f1 (ih (wr .i64 (c2 + 1)) h)
    · rw [if_f hb3] at h
      refine Sem.exit ?_
      have hq := Option.some.inj h; subst hq
      exact ⟨rfl, Wk.f1⟩
set_option maxHeartbeats 4000000 in
set_option maxRecDepth 100000 in
theorem kit_SameLists_sem (x0 : (List (List Int))) (x1 : (List (List Int))) (r : Bool) (h : kit_SameLists x0 x1 = some r) : Sem e_kit_SameLists ⟨none, false⟩ cb_kit_SameLists ⟨Fr 27 (pairs0 0 (cs_kit_SameLists.enc (x0, x1, ()))), []⟩ fun e s' => (e = .normal ∨ e = .ret) ∧ ∃ xs, resA e_kit_SameLists.P s'.fr s'.hp Tryd.f56.results.toList = some xs ∧ retA xs = er_kit_SameLists r := by
  unfold kit_SameLists at h
  refine Sem.wkQ (Sem.wk (s1 := ⟨Fr 27 [(0, .sl 1 (x0.map (cdL 1 cdI).enc)), (1, .sl 1 (x1.map (cdL 1 cdI).enc))], []⟩) Wk.f1 ?_)
  refine Sem.seq ?_
  refine Sem.runS (s1 := ⟨Fr 27 [(0, .sl 1 (x0.map (cdL 1 cdI).enc)), (1, .sl 1 (x1.map (cdL 1 cdI).enc))], []⟩) ?_ ?_
  · refine RunS.segF (n := 27) e_kit_SameLists_ok 1 [(0, .sl 1 (x0.map (cdL 1 cdI).enc)), (1, .sl 1 (x1.map (cdL 1 cdI).enc))] [] (by kernel_rfl) ?_
    exact RunS.done rfl Wk.f1
  refine Sem.seq ?_
  refine Sem.seq ?_
  refine Sem.runS (s1 := ⟨Fr 27 [(0, .sl 1 (x0.map (cdL 1 cdI).enc)), (1, .sl 1 (x1.map (cdL 1 cdI).enc)), (10, .v (.bool ((x0.length : Int) != (x1.length : Int))))], []⟩) ?_ ?_
  · refine RunS.segF (n := 27) e_kit_SameLists_ok 1 [(0, .sl 1 (x0.map (cdL 1 cdI).enc)), (1, .sl 1 (x1.map (cdL 1 cdI).enc)), (6, .sl 1 (x0.map (cdL 1 cdI).enc))] [] (by kernel_rfl) ?_
    refine RunS.one e_kit_SameLists_ok 0 rfl (op_q (wantedA_none rfl) rfl (q_len (a := .sl 1 (x0.map (cdL 1 cdI).enc)) (by kernel_rfl) (len_sl (el := 31) (by kernel_rfl)))) ?_
    refine RunS.segF (n := 27) e_kit_SameLists_ok 1 [(0, .sl 1 (x0.map (cdL 1 cdI).enc)), (1, .sl 1 (x1.map (cdL 1 cdI).enc)), (7, .v (.int .i64 (x0.length : Int))), (8, .sl 1 (x1.map (cdL 1 cdI).enc))] [] (by kernel_rfl) ?_
    refine RunS.one e_kit_SameLists_ok 0 rfl (op_q (wantedA_none rfl) rfl (q_len (a := .sl 1 (x1.map (cdL 1 cdI).enc)) (by kernel_rfl) (len_sl (el := 31) (by kernel_rfl)))) ?_
    refine RunS.segF (n := 27) e_kit_SameLists_ok 1 [(0, .sl 1 (x0.map (cdL 1 cdI).enc)), (1, .sl 1 (x1.map (cdL 1 cdI).enc)), (10, .v (.bool ((x0.length : Int) != (x1.length : Int))))] [] (by kernel_rfl) ?_
    exact RunS.done rfl Wk.f1
  refine Sem.cond (b := ((x0.length : Int) != (x1.length : Int))) (by kernel_rfl) (fun hb1 => ?_) (fun hb1 => ?_)
  · rw [if_pos hb1] at h
    refine Sem.seq ?_
    refine Sem.runS (s1 := ⟨Fr 27 [(4, .v (.bool false))], []⟩) ?_ ?_
    · refine RunS.segF (n := 27) e_kit_SameLists_ok 1 [(4, .v (.bool false))] [] (by kernel_rfl) ?_
      exact RunS.done rfl Wk.f1
    refine Sem.ret ?_
    have hq := Option.some.inj h; subst hq
    exact ⟨⟨Fr 27 [(4, .v (.bool false))], []⟩, Wk.f1, .inr rfl, [.v (.bool false)], (by kernel_rfl), (by kernel_rfl)⟩
  · rw [if_f hb1] at h
    refine Sem.skip ?_
    refine Sem.seq ?_
    refine Sem.seq ?_
    refine Sem.runS (s1 := ⟨Fr 27 [(0, .sl 1 (x0.map (cdL 1 cdI).enc)), (1, .sl 1 (x1.map (cdL 1 cdI).enc)), (5, .v (.int .i64 0))], []⟩) ?_ ?_
    · refine RunS.segF (n := 27) e_kit_SameLists_ok 1 [(0, .sl 1 (x0.map (cdL 1 cdI).enc)), (1, .sl 1 (x1.map (cdL 1 cdI).enc)), (5, .v (.int .i64 0))] [] (by kernel_rfl) ?_
      exact RunS.done rfl Wk.f1
    refine Sem.block ?_
    obtain ⟨r9, hr9, h⟩ := Option.bind_eq_some_iff.1 h
    refine Sem.loop (n := 100000) ?_
    rcases r9 with w10 | w11
    · try dsimp only at h
      refine Sem.cutN (SemN.wk (s1 := ⟨Fr 27 [(0, .sl 1 (x0.map (cdL 1 cdI).enc)), (1, .sl 1 (x1.map (cdL 1 cdI).enc)), (5, .v (.int .i64 0))], []⟩) Wk.f1 (kit_SameLists_1_ok x0 x1 _ 0 _ hr9)) ?_
      refine Sem.seq ?_
      refine Sem.runS (s1 := ⟨Fr 27 [(4, .v (.bool true))], []⟩) ?_ ?_
      · refine RunS.segF (n := 27) e_kit_SameLists_ok 1 [(4, .v (.bool true))] [] (by kernel_rfl) ?_
        exact RunS.done rfl Wk.f1
      refine Sem.ret ?_
      have hq := Option.some.inj h; subst hq
      exact ⟨⟨Fr 27 [(4, .v (.bool true))], []⟩, Wk.f1, .inr rfl, [.v (.bool true)], (by kernel_rfl), (by kernel_rfl)⟩
    · try dsimp only at h
      refine Sem.cutN (SemN.wk (s1 := ⟨Fr 27 [(0, .sl 1 (x0.map (cdL 1 cdI).enc)), (1, .sl 1 (x1.map (cdL 1 cdI).enc)), (5, .v (.int .i64 0))], []⟩) Wk.f1 (kit_SameLists_1_ok x0 x1 _ 0 _ hr9)) ?_
      have hq := Option.some.inj h; subst hq
      exact ⟨⟨Fr 27 [(4, .v (.bool w11))], []⟩, Wk.f1, .inr rfl, [.v (.bool w11)], (by kernel_rfl), (by kernel_rfl)⟩
def t_kit_SameLists : List AV → Option AV := told cs_kit_SameLists (fun a => kit_SameLists a.1 a.2.1) er_kit_SameLists
theorem x_kit_SameLists : XOk 56 t_kit_SameLists := by
  refine EnvOk.x (E := e_kit_SameLists) (contract_ok e_kit_SameLists_ok (fn := Tryd.f56) (c := cb_kit_SameLists) ?h1 ?h2 ⟨Tryd.call56⟩ cs_kit_SameLists (fun a => kit_SameLists a.1 a.2.1) er_kit_SameLists (fun a => (by show 2 ≤ 27; decide)) ?h3 ?h4) rfl rfl
  case h1 => kernel_rfl
  case h2 => kernel_rfl
  case h3 => intro b; kernel_rfl
  case h4 => exact fun a b h => kit_SameLists_sem a.1 a.2.1 b h
/- trestle/trestlelaw09.Same$1 -/
noncomputable def e_law09_Same_1 : Env := (E0.withX 56 t_kit_SameLists)
theorem e_law09_Same_1_ok : EnvOk e_law09_Same_1 := (EnvOk.withX E0_ok x_kit_SameLists.1 x_kit_SameLists.2)
noncomputable def cb_law09_Same_1 : Code := codeOf Tryd.f55
def law09_Same_1 (x0 : (List (List Int))) (x1 : (List (List Int))) : Option (Bool) :=
  (kit_SameLists x0 x1).bind fun v1 =>
  some v1
def cs_law09_Same_1 : Cs ((List (List Int)) × (List (List Int)) × Unit) := (csC (cdL 1 (cdL 1 cdI)) (csC (cdL 1 (cdL 1 cdI)) csN))
def er_law09_Same_1 (r : Bool) : AV := cdB.enc r
set_option maxHeartbeats 4000000 in
set_option maxRecDepth 100000 in
theorem law09_Same_1_sem (x0 : (List (List Int))) (x1 : (List (List Int))) (r : Bool) (h : law09_Same_1 x0 x1 = some r) : Sem e_law09_Same_1 ⟨none, false⟩ cb_law09_Same_1 ⟨Fr 8 (pairs0 0 (cs_law09_Same_1.enc (x0, x1, ()))), []⟩ fun e s' => (e = .normal ∨ e = .ret) ∧ ∃ xs, resA e_law09_Same_1.P s'.fr s'.hp Tryd.f55.results.toList = some xs ∧ retA xs = er_law09_Same_1 r := by
  unfold law09_Same_1 at h
  refine Sem.wkQ (Sem.wk (s1 := ⟨Fr 8 [(0, .sl 1 (x0.map (cdL 1 cdI).enc)), (1, .sl 1 (x1.map (cdL 1 cdI).enc))], []⟩) Wk.f1 ?_)
  refine Sem.seq ?_
  refine Sem.runS (s1 := ⟨Fr 8 [(0, .sl 1 (x0.map (cdL 1 cdI).enc)), (1, .sl 1 (x1.map (cdL 1 cdI).enc))], []⟩) ?_ ?_
  · refine RunS.segF (n := 8) e_law09_Same_1_ok 1 [(0, .sl 1 (x0.map (cdL 1 cdI).enc)), (1, .sl 1 (x1.map (cdL 1 cdI).enc))] [] (by kernel_rfl) ?_
    exact RunS.done rfl Wk.f1
  refine Sem.seq ?_
  obtain ⟨v1, hv1, h⟩ := Option.bind_eq_some_iff.1 h
  refine Sem.runS (s1 := ⟨Fr 8 [(4, .v (.bool v1))], []⟩) ?_ ?_
  · refine RunS.segF (n := 8) e_law09_Same_1_ok 2 [(5, .sl 1 (x0.map (cdL 1 cdI).enc)), (6, .sl 1 (x1.map (cdL 1 cdI).enc))] [] (by kernel_rfl) ?_
    refine RunS.call e_law09_Same_1_ok (fid := 56) (s := cs_kit_SameLists) (F := fun a => kit_SameLists a.1 a.2.1) (er := er_kit_SameLists) (xs := [.sl 1 (x0.map (cdL 1 cdI).enc), .sl 1 (x1.map (cdL 1 cdI).enc)]) (a := (x0, x1, ())) rfl (wantedA_none rfl) (by kernel_rfl) (by kernel_rfl) (by kernel_rfl) (by kernel_rfl) (Sns.cons (Sn.enc (c := (cdL 1 (cdL 1 cdI))) (v := x0)) (Sns.cons (Sn.enc (c := (cdL 1 (cdL 1 cdI))) (v := x1)) Sns.nil)) (.inl (by kernel_rfl)) hv1 ?_
    refine RunS.segF (n := 8) e_law09_Same_1_ok 1 [(4, .v (.bool v1))] [] (by kernel_rfl) ?_
    exact RunS.done rfl Wk.f1
  refine Sem.ret ?_
  have hq := Option.some.inj h; subst hq
  exact ⟨⟨Fr 8 [(4, .v (.bool v1))], []⟩, Wk.f1, .inr rfl, [.v (.bool v1)], (by kernel_rfl), (by kernel_rfl)⟩
def t_law09_Same_1 : List AV → Option AV := told cs_law09_Same_1 (fun a => law09_Same_1 a.1 a.2.1) er_law09_Same_1
theorem x_law09_Same_1 : XOk 55 t_law09_Same_1 := by
  refine EnvOk.x (E := e_law09_Same_1) (contract_ok e_law09_Same_1_ok (fn := Tryd.f55) (c := cb_law09_Same_1) ?h1 ?h2 ⟨Tryd.call55⟩ cs_law09_Same_1 (fun a => law09_Same_1 a.1 a.2.1) er_law09_Same_1 (fun a => (by show 2 ≤ 8; decide)) ?h3 ?h4) rfl rfl
  case h1 => kernel_rfl
  case h2 => kernel_rfl
  case h3 => intro b; kernel_rfl
  case h4 => exact fun a b h => law09_Same_1_sem a.1 a.2.1 b h
/- slices.EqualFunc[[][][]int,[][][]int,[][]int,[][]int] -/
noncomputable def e_slices_EqualFunc_LLL_LLL_LL_LL__law09_Same_1 : Env := (E0.withX 55 t_law09_Same_1)
theorem e_slices_EqualFunc_LLL_LLL_LL_LL__law09_Same_1_ok : EnvOk e_slices_EqualFunc_LLL_LLL_LL_LL__law09_Same_1 := (EnvOk.withX E0_ok x_law09_Same_1.1 x_law09_Same_1.2)
noncomputable def cb_slices_EqualFunc_LLL_LLL_LL_LL__law09_Same_1 : Code := codeOf Tryd.f54
def slices_EqualFunc_LLL_LLL_LL_LL__law09_Same_1_1 (x0 : (List (List (List Int)))) (x1 : (List (List (List Int)))) : Nat → Int → Option ((Unit) ⊕ (Bool))
  | 0, _ => none
  | f + 1, c2 =>
    if (decide (c2 < (x0.length : Int))) = true then
    (idx x0 c2).bind fun v4 =>
    (idx x1 c2).bind fun v5 =>
    (law09_Same_1 v4 v5).bind fun v6 =>
    if (!v6) = true then
    some (.inr false)
    else
    slices_EqualFunc_LLL_LLL_LL_LL__law09_Same_1_1 x0 x1 f (wr .i64 (c2 + 1))
    else
    some (.inl ())
def slices_EqualFunc_LLL_LLL_LL_LL__law09_Same_1 (x0 : (List (List (List Int)))) (x1 : (List (List (List Int)))) : Option (Bool) :=
  if ((x0.length : Int) != (x1.length : Int)) = true then
  some false
  else
  (slices_EqualFunc_LLL_LLL_LL_LL__law09_Same_1_1 x0 x1 100000 0).bind fun r9 =>
  match r9 with
  | (.inl _w10) =>
    some true
  | (.inr w11) =>
    some w11
def er_slices_EqualFunc_LLL_LLL_LL_LL__law09_Same_1 (r : Bool) : AV := cdB.enc r
set_option maxHeartbeats 4000000 in
set_option maxRecDepth 100000 in
theorem slices_EqualFunc_LLL_LLL_LL_LL__law09_Same_1_1_ok (x0 : (List (List (List Int)))) (x1 : (List (List (List Int)))) : ∀ (f : Nat) (c2 : Int) (r : (Unit) ⊕ (Bool)), slices_EqualFunc_LLL_LLL_LL_LL__law09_Same_1_1 x0 x1 f c2 = some r → SemN e_slices_EqualFunc_LLL_LLL_LL_LL__law09_Same_1 ⟨none, false⟩ (pc cb_slices_EqualFunc_LLL_LLL_LL_LL__law09_Same_1 [1, 1, 0, 1, 0, 0]) f ⟨Fr 32 [(1, .sl 1 (x1.map (cdL 1 (cdL 1 cdI)).enc)), (2, .fn 55 [] []), (15, .sl 1 (x0.map (cdL 1 (cdL 1 cdI)).enc)), (16, .v (.int .i64 (x0.length : Int))), (17, .v (.int .i64 c2))], []⟩ (fun e s => match r with
  | (.inl _w) => e = (.exit 0) ∧ Wk e_slices_EqualFunc_LLL_LLL_LL_LL__law09_Same_1 s ⟨Fr 32 [], []⟩
  | (.inr w) => e = .ret ∧ Wk e_slices_EqualFunc_LLL_LLL_LL_LL__law09_Same_1 s ⟨Fr 32 [(6, .v (.bool w))], []⟩) := by
  intro f
  induction f with
  | zero => intro c2 r h; cases h
  | succ f ih0 =>
    intro c2 r h
    have ih := fun (c2 : Int) => ih0 c2 r
    unfold slices_EqualFunc_LLL_LLL_LL_LL__law09_Same_1_1 at h
    refine SemN.succ ?_
    refine Sem.seq ?_
    refine Sem.runS (s1 := ⟨Fr 32 [(1, .sl 1 (x1.map (cdL 1 (cdL 1 cdI)).enc)), (2, .fn 55 [] []), (15, .sl 1 (x0.map (cdL 1 (cdL 1 cdI)).enc)), (16, .v (.int .i64 (x0.length : Int))), (17, .v (.int .i64 c2)), (18, .v (.bool (decide (c2 < (x0.length : Int)))))], []⟩) ?_ ?_
    · refine RunS.segF (n := 32) e_slices_EqualFunc_LLL_LLL_LL_LL__law09_Same_1_ok 1 [(1, .sl 1 (x1.map (cdL 1 (cdL 1 cdI)).enc)), (2, .fn 55 [] []), (15, .sl 1 (x0.map (cdL 1 (cdL 1 cdI)).enc)), (16, .v (.int .i64 (x0.length : Int))), (17, .v (.int .i64 c2)), (18, .v (.bool (decide (c2 < (x0.length : Int)))))] [] (by kernel_rfl) ?_
      exact RunS.done rfl Wk.f1
    refine Sem.seq ?_
    refine Sem.cond (b := (decide (c2 < (x0.length : Int)))) (by kernel_rfl) (fun hb3 => ?_) (fun hb3 => ?_)
    · rw [if_pos hb3] at h
      refine Sem.skip ?_
      refine Sem.seq ?_
      refine Sem.block ?_
      refine Sem.seq ?_
      obtain ⟨v4, hv4, h⟩ := Option.bind_eq_some_iff.1 h
      refine Sem.runS (s1 := ⟨Fr 32 [(1, .sl 1 (x1.map (cdL 1 (cdL 1 cdI)).enc)), (2, .fn 55 [] []), (7, .v (.int .i64 c2)), (8, .sl 1 (v4.map (cdL 1 cdI).enc)), (15, .sl 1 (x0.map (cdL 1 (cdL 1 cdI)).enc)), (16, .v (.int .i64 (x0.length : Int))), (17, .v (.int .i64 c2))], []⟩) ?_ ?_
      · refine RunS.segF (n := 32) e_slices_EqualFunc_LLL_LLL_LL_LL__law09_Same_1_ok 1 [(1, .sl 1 (x1.map (cdL 1 (cdL 1 cdI)).enc)), (2, .fn 55 [] []), (15, .sl 1 (x0.map (cdL 1 (cdL 1 cdI)).enc)), (16, .v (.int .i64 (x0.length : Int))), (17, .v (.int .i64 c2)), (19, .v (.int .i64 c2))] [] (by kernel_rfl) ?_
        refine RunS.one e_slices_EqualFunc_LLL_LLL_LL_LL__law09_Same_1_ok 0 rfl (op_q (wantedA_none rfl) rfl (q_indexAddr (a := .sl 1 (x0.map (cdL 1 (cdL 1 cdI)).enc)) (b := .v (.int .i64 c2)) (by kernel_rfl) (by kernel_rfl) (ix_sl (e := (cdL 1 (cdL 1 cdI)).enc) (el := 50) (k := 1) (ki := .i64) (by kernel_rfl) (by kernel_rfl) hv4))) ?_
        refine RunS.segF (n := 32) e_slices_EqualFunc_LLL_LLL_LL_LL__law09_Same_1_ok 3 [(1, .sl 1 (x1.map (cdL 1 (cdL 1 cdI)).enc)), (2, .fn 55 [] []), (7, .v (.int .i64 c2)), (8, .sl 1 (v4.map (cdL 1 cdI).enc)), (15, .sl 1 (x0.map (cdL 1 (cdL 1 cdI)).enc)), (16, .v (.int .i64 (x0.length : Int))), (17, .v (.int .i64 c2))] [] (by kernel_rfl) ?_
        exact RunS.done rfl Wk.f1
      refine Sem.seq ?_
      obtain ⟨v5, hv5, h⟩ := Option.bind_eq_some_iff.1 h
      refine Sem.runS (s1 := ⟨Fr 32 [(1, .sl 1 (x1.map (cdL 1 (cdL 1 cdI)).enc)), (2, .fn 55 [] []), (8, .sl 1 (v4.map (cdL 1 cdI).enc)), (9, .sl 1 (v5.map (cdL 1 cdI).enc)), (15, .sl 1 (x0.map (cdL 1 (cdL 1 cdI)).enc)), (16, .v (.int .i64 (x0.length : Int))), (17, .v (.int .i64 c2))], []⟩) ?_ ?_
      · refine RunS.segF (n := 32) e_slices_EqualFunc_LLL_LLL_LL_LL__law09_Same_1_ok 2 [(1, .sl 1 (x1.map (cdL 1 (cdL 1 cdI)).enc)), (2, .fn 55 [] []), (8, .sl 1 (v4.map (cdL 1 cdI).enc)), (15, .sl 1 (x0.map (cdL 1 (cdL 1 cdI)).enc)), (16, .v (.int .i64 (x0.length : Int))), (17, .v (.int .i64 c2)), (22, .sl 1 (x1.map (cdL 1 (cdL 1 cdI)).enc)), (23, .v (.int .i64 c2))] [] (by kernel_rfl) ?_
        refine RunS.one e_slices_EqualFunc_LLL_LLL_LL_LL__law09_Same_1_ok 0 rfl (op_q (wantedA_none rfl) rfl (q_indexAddr (a := .sl 1 (x1.map (cdL 1 (cdL 1 cdI)).enc)) (b := .v (.int .i64 c2)) (by kernel_rfl) (by kernel_rfl) (ix_sl (e := (cdL 1 (cdL 1 cdI)).enc) (el := 50) (k := 1) (ki := .i64) (by kernel_rfl) (by kernel_rfl) hv5))) ?_
        refine RunS.segF (n := 32) e_slices_EqualFunc_LLL_LLL_LL_LL__law09_Same_1_ok 2 [(1, .sl 1 (x1.map (cdL 1 (cdL 1 cdI)).enc)), (2, .fn 55 [] []), (8, .sl 1 (v4.map (cdL 1 cdI).enc)), (9, .sl 1 (v5.map (cdL 1 cdI).enc)), (15, .sl 1 (x0.map (cdL 1 (cdL 1 cdI)).enc)), (16, .v (.int .i64 (x0.length : Int))), (17, .v (.int .i64 c2))] [] (by kernel_rfl) ?_
        exact RunS.done rfl Wk.f1
      refine Sem.seq ?_
      obtain ⟨v6, hv6, h⟩ := Option.bind_eq_some_iff.1 h
      refine Sem.runS (s1 := ⟨Fr 32 [(1, .sl 1 (x1.map (cdL 1 (cdL 1 cdI)).enc)), (2, .fn 55 [] []), (15, .sl 1 (x0.map (cdL 1 (cdL 1 cdI)).enc)), (16, .v (.int .i64 (x0.length : Int))), (17, .v (.int .i64 c2)), (30, .v (.bool (!v6)))], []⟩) ?_ ?_
      · refine RunS.segF (n := 32) e_slices_EqualFunc_LLL_LLL_LL_LL__law09_Same_1_ok 3 [(1, .sl 1 (x1.map (cdL 1 (cdL 1 cdI)).enc)), (2, .fn 55 [] []), (15, .sl 1 (x0.map (cdL 1 (cdL 1 cdI)).enc)), (16, .v (.int .i64 (x0.length : Int))), (17, .v (.int .i64 c2)), (26, .fn 55 [] []), (27, .sl 1 (v4.map (cdL 1 cdI).enc)), (28, .sl 1 (v5.map (cdL 1 cdI).enc))] [] (by kernel_rfl) ?_
        refine RunS.call e_slices_EqualFunc_LLL_LLL_LL_LL__law09_Same_1_ok (fid := 55) (s := cs_law09_Same_1) (F := fun a => law09_Same_1 a.1 a.2.1) (er := er_law09_Same_1) (xs := [.sl 1 (v4.map (cdL 1 cdI).enc), .sl 1 (v5.map (cdL 1 cdI).enc)]) (a := (v4, v5, ())) rfl (wantedA_none rfl) (by kernel_rfl) (by kernel_rfl) (by kernel_rfl) (by kernel_rfl) (Sns.cons (Sn.enc (c := (cdL 1 (cdL 1 cdI))) (v := v4)) (Sns.cons (Sn.enc (c := (cdL 1 (cdL 1 cdI))) (v := v5)) Sns.nil)) (.inl (by kernel_rfl)) hv6 ?_
        refine RunS.segF (n := 32) e_slices_EqualFunc_LLL_LLL_LL_LL__law09_Same_1_ok 1 [(1, .sl 1 (x1.map (cdL 1 (cdL 1 cdI)).enc)), (2, .fn 55 [] []), (15, .sl 1 (x0.map (cdL 1 (cdL 1 cdI)).enc)), (16, .v (.int .i64 (x0.length : Int))), (17, .v (.int .i64 c2)), (30, .v (.bool (!v6)))] [] (by kernel_rfl) ?_
        exact RunS.done rfl Wk.f1
      refine Sem.cond (b := (!v6)) (by kernel_rfl) (fun hb7 => ?_) (fun hb7 => ?_)
      · rw [if_pos hb7] at h
        refine Sem.seq ?_
        refine Sem.runS (s1 := ⟨Fr 32 [(6, .v (.bool false))], []⟩) ?_ ?_
        · refine RunS.segF (n := 32) e_slices_EqualFunc_LLL_LLL_LL_LL__law09_Same_1_ok 1 [(6, .v (.bool false))] [] (by kernel_rfl) ?_
          exact RunS.done rfl Wk.f1
        refine Sem.ret ?_
        have hq := Option.some.inj h; subst hq
        exact ⟨rfl, Wk.f1⟩
      · rw [if_f hb7] at h
        refine Sem.skip ?_
        refine Sem.runS (s1 := ⟨Fr 32 [(1, .sl 1 (x1.map (cdL 1 (cdL 1 cdI)).enc)), (2, .fn 55 [] []), (15, .sl 1 (x0.map (cdL 1 (cdL 1 cdI)).enc)), (16, .v (.int .i64 (x0.length : Int))), (17, .v (.int .i64 (wr .i64 (c2 + 1))))], []⟩) ?_ ?_
        · refine RunS.segF (n := 32) e_slices_EqualFunc_LLL_LLL_LL_LL__law09_Same_1_ok 2 [(1, .sl 1 (x1.map (cdL 1 (cdL 1 cdI)).enc)), (2, .fn 55 [] []), (15, .sl 1 (x0.map (cdL 1 (cdL 1 cdI)).enc)), (16, .v (.int .i64 (x0.length : Int))), (17, .v (.int .i64 (wr .i64 (c2 + 1))))] [] (by kernel_rfl) ?_
          exact RunS.done rfl Wk.f1
        exact SemN.wk (s1 := ⟨Fr 32 [(1, .sl 1 (x1.map (cdL 1 (cdL 1 cdI)).enc)), (2, .fn 55 [] []), (15, .sl 1 (x0.map (cdL 1 (cdL 1 cdI)).enc)), (16, .v (.int .i64 (x0.length : Int))), (17, .v (.int .i64 (wr .i64 (c2 + 1))))], []⟩) Wk.f1 (ih (wr .i64 (c2 + 1)) h)
    · rw [if_f hb3] at h
      refine Sem.exit ?_
      have hq := Option.some.inj h; subst hq
      exact ⟨rfl, Wk.f1⟩
set_option maxHeartbeats 4000000 in
set_option maxRecDepth 100000 in
theorem slices_EqualFunc_LLL_LLL_LL_LL__law09_Same_1_sem (x0 : (List (List (List Int)))) (x1 : (List (List (List Int)))) (r : Bool) (h : slices_EqualFunc_LLL_LLL_LL_LL__law09_Same_1 x0 x1 = some r) : Sem e_slices_EqualFunc_LLL_LLL_LL_LL__law09_Same_1 ⟨none, false⟩ cb_slices_EqualFunc_LLL_LLL_LL_LL__law09_Same_1 ⟨Fr 32 (pairs0 0 [.sl 1 (x0.map (cdL 1 (cdL 1 cdI)).enc), .sl 1 (x1.map (cdL 1 (cdL 1 cdI)).enc), .fn 55 [] []]), []⟩ fun e s' => (e = .normal ∨ e = .ret) ∧ ∃ xs, resA e_slices_EqualFunc_LLL_LLL_LL_LL__law09_Same_1.P s'.fr s'.hp Tryd.f54.results.toList = some xs ∧ (retA xs = er_slices_EqualFunc_LLL_LLL_LL_LL__law09_Same_1 r ∧ s'.hp = []) := by
  unfold slices_EqualFunc_LLL_LLL_LL_LL__law09_Same_1 at h
  refine Sem.wkQ (Sem.wk (s1 := ⟨Fr 32 [(0, .sl 1 (x0.map (cdL 1 (cdL 1 cdI)).enc)), (1, .sl 1 (x1.map (cdL 1 (cdL 1 cdI)).enc)), (2, .fn 55 [] [])], []⟩) Wk.f1 ?_)
  refine Sem.seq ?_
  refine Sem.runS (s1 := ⟨Fr 32 [(0, .sl 1 (x0.map (cdL 1 (cdL 1 cdI)).enc)), (1, .sl 1 (x1.map (cdL 1 (cdL 1 cdI)).enc)), (2, .fn 55 [] [])], []⟩) ?_ ?_
  · refine RunS.segF (n := 32) e_slices_EqualFunc_LLL_LLL_LL_LL__law09_Same_1_ok 1 [(0, .sl 1 (x0.map (cdL 1 (cdL 1 cdI)).enc)), (1, .sl 1 (x1.map (cdL 1 (cdL 1 cdI)).enc)), (2, .fn 55 [] [])] [] (by kernel_rfl) ?_
    exact RunS.done rfl Wk.f1
  refine Sem.seq ?_
  refine Sem.seq ?_
  refine Sem.runS (s1 := ⟨Fr 32 [(0, .sl 1 (x0.map (cdL 1 (cdL 1 cdI)).enc)), (1, .sl 1 (x1.map (cdL 1 (cdL 1 cdI)).enc)), (2, .fn 55 [] []), (14, .v (.bool ((x0.length : Int) != (x1.length : Int))))], []⟩) ?_ ?_
  · refine RunS.segF (n := 32) e_slices_EqualFunc_LLL_LLL_LL_LL__law09_Same_1_ok 1 [(0, .sl 1 (x0.map (cdL 1 (cdL 1 cdI)).enc)), (1, .sl 1 (x1.map (cdL 1 (cdL 1 cdI)).enc)), (2, .fn 55 [] []), (10, .sl 1 (x0.map (cdL 1 (cdL 1 cdI)).enc))] [] (by kernel_rfl) ?_
    refine RunS.one e_slices_EqualFunc_LLL_LLL_LL_LL__law09_Same_1_ok 0 rfl (op_q (wantedA_none rfl) rfl (q_len (a := .sl 1 (x0.map (cdL 1 (cdL 1 cdI)).enc)) (by kernel_rfl) (len_sl (el := 50) (by kernel_rfl)))) ?_
    refine RunS.segF (n := 32) e_slices_EqualFunc_LLL_LLL_LL_LL__law09_Same_1_ok 1 [(0, .sl 1 (x0.map (cdL 1 (cdL 1 cdI)).enc)), (1, .sl 1 (x1.map (cdL 1 (cdL 1 cdI)).enc)), (2, .fn 55 [] []), (11, .v (.int .i64 (x0.length : Int))), (12, .sl 1 (x1.map (cdL 1 (cdL 1 cdI)).enc))] [] (by kernel_rfl) ?_
    refine RunS.one e_slices_EqualFunc_LLL_LLL_LL_LL__law09_Same_1_ok 0 rfl (op_q (wantedA_none rfl) rfl (q_len (a := .sl 1 (x1.map (cdL 1 (cdL 1 cdI)).enc)) (by kernel_rfl) (len_sl (el := 50) (by kernel_rfl)))) ?_
    refine RunS.segF (n := 32) e_slices_EqualFunc_LLL_LLL_LL_LL__law09_Same_1_ok 1 [(0, .sl 1 (x0.map (cdL 1 (cdL 1 cdI)).enc)), (1, .sl 1 (x1.map (cdL 1 (cdL 1 cdI)).enc)), (2, .fn 55 [] []), (14, .v (.bool ((x0.length : Int) != (x1.length : Int))))] [] (by kernel_rfl) ?_
    exact RunS.done rfl Wk.f1
  refine Sem.cond (b := ((x0.length : Int) != (x1.length : Int))) (by kernel_rfl) (fun hb1 => ?_) (fun hb1 => ?_)
  · rw [if_pos hb1] at h
    refine Sem.seq ?_
    refine Sem.runS (s1 := ⟨Fr 32 [(6, .v (.bool false))], []⟩) ?_ ?_
    · refine RunS.segF (n := 32) e_slices_EqualFunc_LLL_LLL_LL_LL__law09_Same_1_ok 1 [(6, .v (.bool false))] [] (by kernel_rfl) ?_
      exact RunS.done rfl Wk.f1
    refine Sem.ret ?_
    have hq := Option.some.inj h; subst hq
    exact ⟨⟨Fr 32 [(6, .v (.bool false))], []⟩, Wk.f1, .inr rfl, [.v (.bool false)], (by kernel_rfl), ⟨(by kernel_rfl), rfl⟩⟩
  · rw [if_f hb1] at h
    refine Sem.skip ?_
    refine Sem.seq ?_
    refine Sem.seq ?_
    refine Sem.runS (s1 := ⟨Fr 32 [(1, .sl 1 (x1.map (cdL 1 (cdL 1 cdI)).enc)), (2, .fn 55 [] []), (15, .sl 1 (x0.map (cdL 1 (cdL 1 cdI)).enc)), (16, .v (.int .i64 (x0.length : Int))), (17, .v (.int .i64 0))], []⟩) ?_ ?_
    · refine RunS.segF (n := 32) e_slices_EqualFunc_LLL_LLL_LL_LL__law09_Same_1_ok 1 [(1, .sl 1 (x1.map (cdL 1 (cdL 1 cdI)).enc)), (2, .fn 55 [] []), (15, .sl 1 (x0.map (cdL 1 (cdL 1 cdI)).enc))] [] (by kernel_rfl) ?_
      refine RunS.one e_slices_EqualFunc_LLL_LLL_LL_LL__law09_Same_1_ok 0 rfl (op_q (wantedA_none rfl) rfl (q_len (a := .sl 1 (x0.map (cdL 1 (cdL 1 cdI)).enc)) (by kernel_rfl) (len_sl (el := 50) (by kernel_rfl)))) ?_
      refine RunS.segF (n := 32) e_slices_EqualFunc_LLL_LLL_LL_LL__law09_Same_1_ok 1 [(1, .sl 1 (x1.map (cdL 1 (cdL 1 cdI)).enc)), (2, .fn 55 [] []), (15, .sl 1 (x0.map (cdL 1 (cdL 1 cdI)).enc)), (16, .v (.int .i64 (x0.length : Int))), (17, .v (.int .i64 0))] [] (by kernel_rfl) ?_
      exact RunS.done rfl Wk.f1
    refine Sem.block ?_
    obtain ⟨r9, hr9, h⟩ := Option.bind_eq_some_iff.1 h
    refine Sem.loop (n := 100000) ?_
    rcases r9 with w10 | w11
    · try dsimp only at h
      refine Sem.cutN (SemN.wk (s1 := ⟨Fr 32 [(1, .sl 1 (x1.map (cdL 1 (cdL 1 cdI)).enc)), (2, .fn 55 [] []), (15, .sl 1 (x0.map (cdL 1 (cdL 1 cdI)).enc)), (16, .v (.int .i64 (x0.length : Int))), (17, .v (.int .i64 0))], []⟩) Wk.f1 (slices_EqualFunc_LLL_LLL_LL_LL__law09_Same_1_1_ok x0 x1 _ 0 _ hr9)) ?_
      refine Sem.seq ?_
      refine Sem.runS (s1 := ⟨Fr 32 [(6, .v (.bool true))], []⟩) ?_ ?_
      · refine RunS.segF (n := 32) e_slices_EqualFunc_LLL_LLL_LL_LL__law09_Same_1_ok 1 [(6, .v (.bool true))] [] (by kernel_rfl) ?_
        exact RunS.done rfl Wk.f1
      refine Sem.ret ?_
      have hq := Option.some.inj h; subst hq
      exact ⟨⟨Fr 32 [(6, .v (.bool true))], []⟩, Wk.f1, .inr rfl, [.v (.bool true)], (by kernel_rfl), ⟨(by kernel_rfl), rfl⟩⟩
    · try dsimp only at h
      refine Sem.cutN (SemN.wk (s1 := ⟨Fr 32 [(1, .sl 1 (x1.map (cdL 1 (cdL 1 cdI)).enc)), (2, .fn 55 [] []), (15, .sl 1 (x0.map (cdL 1 (cdL 1 cdI)).enc)), (16, .v (.int .i64 (x0.length : Int))), (17, .v (.int .i64 0))], []⟩) Wk.f1 (slices_EqualFunc_LLL_LLL_LL_LL__law09_Same_1_1_ok x0 x1 _ 0 _ hr9)) ?_
      have hq := Option.some.inj h; subst hq
      exact ⟨⟨Fr 32 [(6, .v (.bool w11))], []⟩, Wk.f1, .inr rfl, [.v (.bool w11)], (by kernel_rfl), ⟨(by kernel_rfl), rfl⟩⟩
theorem s_slices_EqualFunc_LLL_LLL_LL_LL__law09_Same_1 (x0 : (List (List (List Int)))) (x1 : (List (List (List Int)))) (r : Bool) (h : slices_EqualFunc_LLL_LLL_LL_LL__law09_Same_1 x0 x1 = some r) : SOk 54 [.sl 1 (x0.map (cdL 1 (cdL 1 cdI)).enc), .sl 1 (x1.map (cdL 1 (cdL 1 cdI)).enc), .fn 55 [] []] (fun x h' => x = er_slices_EqualFunc_LLL_LLL_LL_LL__law09_Same_1 r ∧ h' = []) :=
  sok_of_sem e_slices_EqualFunc_LLL_LLL_LL_LL__law09_Same_1_ok rfl rfl (fn := Tryd.f54) (c := cb_slices_EqualFunc_LLL_LLL_LL_LL__law09_Same_1) (by kernel_rfl) (by kernel_rfl) ⟨Tryd.call54⟩ (by show 3 ≤ 32; decide) (slices_EqualFunc_LLL_LLL_LL_LL__law09_Same_1_sem x0 x1 r h)
/- trestle/trestlelaw09.Same -/
noncomputable def e_law09_Same : Env := E0
theorem e_law09_Same_ok : EnvOk e_law09_Same := E0_ok
noncomputable def cb_law09_Same : Code := codeOf Tryd.f18
def law09_Same (x0 : (List (List (List Int)))) (x1 : (List (List (List Int)))) : Option (Bool) :=
  (slices_EqualFunc_LLL_LLL_LL_LL__law09_Same_1 x0 x1).bind fun v1 =>
  some v1
def cs_law09_Same : Cs ((List (List (List Int))) × (List (List (List Int))) × Unit) := (csC (cdL 1 (cdL 1 (cdL 1 cdI))) (csC (cdL 1 (cdL 1 (cdL 1 cdI))) csN))
def er_law09_Same (r : Bool) : AV := cdB.enc r
set_option maxHeartbeats 4000000 in
set_option maxRecDepth 100000 in
theorem law09_Same_sem (x0 : (List (List (List Int)))) (x1 : (List (List (List Int)))) (r : Bool) (h : law09_Same x0 x1 = some r) : Sem e_law09_Same ⟨none, false⟩ cb_law09_Same ⟨Fr 8 (pairs0 0 (cs_law09_Same.enc (x0, x1, ()))), []⟩ fun e s' => (e = .normal ∨ e = .ret) ∧ ∃ xs, resA e_law09_Same.P s'.fr s'.hp Tryd.f18.results.toList = some xs ∧ retA xs = er_law09_Same r := by
  unfold law09_Same at h
  refine Sem.wkQ (Sem.wk (s1 := ⟨Fr 8 [(0, .sl 1 (x0.map (cdL 1 (cdL 1 cdI)).enc)), (1, .sl 1 (x1.map (cdL 1 (cdL 1 cdI)).enc))], []⟩) Wk.f1 ?_)
  refine Sem.seq ?_
  refine Sem.runS (s1 := ⟨Fr 8 [(0, .sl 1 (x0.map (cdL 1 (cdL 1 cdI)).enc)), (1, .sl 1 (x1.map (cdL 1 (cdL 1 cdI)).enc))], []⟩) ?_ ?_
  · refine RunS.segF (n := 8) e_law09_Same_ok 1 [(0, .sl 1 (x0.map (cdL 1 (cdL 1 cdI)).enc)), (1, .sl 1 (x1.map (cdL 1 (cdL 1 cdI)).enc))] [] (by kernel_rfl) ?_
    exact RunS.done rfl Wk.f1
  refine Sem.seq ?_
  obtain ⟨v1, hv1, h⟩ := Option.bind_eq_some_iff.1 h
  refine Sem.runS (s1 := ⟨Fr 8 [(4, .v (.bool v1))], []⟩) ?_ ?_
  · refine RunS.segF (n := 8) e_law09_Same_ok 2 [(5, .sl 1 (x0.map (cdL 1 (cdL 1 cdI)).enc)), (6, .sl 1 (x1.map (cdL 1 (cdL 1 cdI)).enc))] [] (by kernel_rfl) ?_
    refine RunS.callS rfl rfl (s_slices_EqualFunc_LLL_LLL_LL_LL__law09_Same_1 x0 x1 _ hv1) rfl (wantedA_none rfl) (by kernel_rfl) (xs := [.sl 1 (x0.map (cdL 1 (cdL 1 cdI)).enc), .sl 1 (x1.map (cdL 1 (cdL 1 cdI)).enc), .fn 55 [] []]) (by kernel_rfl) (by kernel_rfl) (by rintro x h' ⟨rfl, rfl⟩; exact ⟨rfl, rfl⟩) ?_
    rintro x h' ⟨rfl, rfl⟩
    refine RunS.segF (n := 8) e_law09_Same_ok 1 [(4, .v (.bool v1))] [] (by kernel_rfl) ?_
    exact RunS.done rfl Wk.f1
  refine Sem.ret ?_
  have hq := Option.some.inj h; subst hq
  exact ⟨⟨Fr 8 [(4, .v (.bool v1))], []⟩, Wk.f1, .inr rfl, [.v (.bool v1)], (by kernel_rfl), (by kernel_rfl)⟩
def t_law09_Same : List AV → Option AV := told cs_law09_Same (fun a => law09_Same a.1 a.2.1) er_law09_Same
theorem x_law09_Same : XOk 18 t_law09_Same := by
  refine EnvOk.x (E := e_law09_Same) (contract_ok e_law09_Same_ok (fn := Tryd.f18) (c := cb_law09_Same) ?h1 ?h2 ⟨Tryd.call18⟩ cs_law09_Same (fun a => law09_Same a.1 a.2.1) er_law09_Same (fun a => (by show 2 ≤ 8; decide)) ?h3 ?h4) rfl rfl
  case h1 => kernel_rfl
  case h2 => kernel_rfl
  case h3 => intro b; kernel_rfl
  case h4 => exact fun a b h => law09_Same_sem a.1 a.2.1 b h
/- slices.Equal[[]int,int] -/
noncomputable def e_slices_Equal_L_int : Env := E0
theorem e_slices_Equal_L_int_ok : EnvOk e_slices_Equal_L_int := E0_ok
noncomputable def cb_slices_Equal_L_int : Code := codeOf Tryd.f23
def slices_Equal_L_int_1 (x0 : (List Int)) (x1 : (List Int)) : Nat → Int → Option ((Unit) ⊕ (Bool))
  | 0, _ => none
  | f + 1, c2 =>
    if (decide (c2 < (x0.length : Int))) = true then
    (idx x0 c2).bind fun v4 =>
    (idx x1 c2).bind fun v5 =>
    if (v4 != v5) = true then
    some (.inr false)
    else
    slices_Equal_L_int_1 x0 x1 f (wr .i64 (c2 + 1))
    else
    some (.inl ())
def slices_Equal_L_int (x0 : (List Int)) (x1 : (List Int)) : Option (Bool) :=
  if ((x0.length : Int) != (x1.length : Int)) = true then
  some false
  else
  (slices_Equal_L_int_1 x0 x1 100000 0).bind fun r8 =>
  match r8 with
  | (.inl _w9) =>
    some true
  | (.inr w10) =>
    some w10
def cs_slices_Equal_L_int : Cs ((List Int) × (List Int) × Unit) := (csC (cdL 1 cdI) (csC (cdL 1 cdI) csN))
def er_slices_Equal_L_int (r : Bool) : AV := cdB.enc r
set_option maxHeartbeats 4000000 in
set_option maxRecDepth 100000 in
theorem slices_Equal_L_int_1_ok (x0 : (List Int)) (x1 : (List Int)) : ∀ (f : Nat) (c2 : Int) (r : (Unit) ⊕ (Bool)), slices_Equal_L_int_1 x0 x1 f c2 = some r → SemN e_slices_Equal_L_int ⟨none, false⟩ (pc cb_slices_Equal_L_int [1, 1, 0, 1, 0, 0]) f ⟨Fr 26 [(0, .sl 1 (x0.map cdI.enc)), (1, .sl 1 (x1.map cdI.enc)), (12, .v (.int .i64 (x0.length : Int))), (13, .v (.int .i64 c2))], []⟩ (fun e s => match r with
  | (.inl _w) => e = (.exit 0) ∧ Wk e_slices_Equal_L_int s ⟨Fr 26 [], []⟩
  | (.inr w) => e = .ret ∧ Wk e_slices_Equal_L_int s ⟨Fr 26 [(4, .v (.bool w))], []⟩) := by
  intro f
  induction f with
  | zero => intro c2 r h; cases h
  | succ f ih0 =>
    intro c2 r h
    have ih := fun (c2 : Int) => ih0 c2 r
    unfold slices_Equal_L_int_1 at h
    refine SemN.succ ?_
    refine Sem.seq ?_
    refine Sem.runS (s1 := ⟨Fr 26 [(0, .sl 1 (x0.map cdI.enc)), (1, .sl 1 (x1.map cdI.enc)), (12, .v (.int .i64 (x0.length : Int))), (13, .v (.int .i64 c2)), (14, .v (.bool (decide (c2 < (x0.length : Int)))))], []⟩) ?_ ?_
    · refine RunS.segF (n := 26) e_slices_Equal_L_int_ok 1 [(0, .sl 1 (x0.map cdI.enc)), (1, .sl 1 (x1.map cdI.enc)), (12, .v (.int .i64 (x0.length : Int))), (13, .v (.int .i64 c2)), (14, .v (.bool (decide (c2 < (x0.length : Int)))))] [] (by kernel_rfl) ?_
      exact RunS.done rfl Wk.f1
    refine Sem.seq ?_
    refine Sem.cond (b := (decide (c2 < (x0.length : Int)))) (by kernel_rfl) (fun hb3 => ?_) (fun hb3 => ?_)
    · rw [if_pos hb3] at h
      refine Sem.skip ?_
      refine Sem.seq ?_
      refine Sem.block ?_
      refine Sem.seq ?_
      refine Sem.runS (s1 := ⟨Fr 26 [(0, .sl 1 (x0.map cdI.enc)), (1, .sl 1 (x1.map cdI.enc)), (5, .v (.int .i64 c2)), (12, .v (.int .i64 (x0.length : Int))), (13, .v (.int .i64 c2))], []⟩) ?_ ?_
      · refine RunS.segF (n := 26) e_slices_Equal_L_int_ok 2 [(0, .sl 1 (x0.map cdI.enc)), (1, .sl 1 (x1.map cdI.enc)), (5, .v (.int .i64 c2)), (12, .v (.int .i64 (x0.length : Int))), (13, .v (.int .i64 c2))] [] (by kernel_rfl) ?_
        exact RunS.done rfl Wk.f1
      refine Sem.seq ?_
      obtain ⟨v4, hv4, h⟩ := Option.bind_eq_some_iff.1 h
      obtain ⟨v5, hv5, h⟩ := Option.bind_eq_some_iff.1 h
      refine Sem.runDS e_slices_Equal_L_int_ok (s1 := ⟨Fr 26 [(0, .sl 1 (x0.map cdI.enc)), (1, .sl 1 (x1.map cdI.enc)), (12, .v (.int .i64 (x0.length : Int))), (13, .v (.int .i64 c2)), (24, .v (.bool (v4 != v5)))], []⟩) (by kernel_rfl) ?_ ?_
      · refine RunDS.segF (n := 26) e_slices_Equal_L_int_ok 2 [(0, .sl 1 (x0.map cdI.enc)), (1, .sl 1 (x1.map cdI.enc)), (5, .v (.int .i64 c2)), (12, .v (.int .i64 (x0.length : Int))), (13, .v (.int .i64 c2)), (16, .sl 1 (x0.map cdI.enc)), (17, .v (.int .i64 c2))] [] (by kernel_rfl) (by kernel_rfl) ?_
        refine RunDS.one e_slices_Equal_L_int_ok rfl (by kernel_rfl) (opd_q (by kernel_rfl) (wantedA_none rfl) rfl (q_indexAddr (a := .sl 1 (x0.map cdI.enc)) (b := .v (.int .i64 c2)) (by kernel_rfl) (by kernel_rfl) (ix_sl (e := cdI.enc) (el := 3) (k := 1) (ki := .i64) (by kernel_rfl) (by kernel_rfl) hv4)) (by kernel_rfl)) ?_
        refine RunDS.segF (n := 26) e_slices_Equal_L_int_ok 3 [(0, .sl 1 (x0.map cdI.enc)), (1, .sl 1 (x1.map cdI.enc)), (12, .v (.int .i64 (x0.length : Int))), (13, .v (.int .i64 c2)), (19, .v (.int .i64 v4)), (20, .sl 1 (x1.map cdI.enc)), (21, .v (.int .i64 c2))] [] (by kernel_rfl) (by kernel_rfl) ?_
        refine RunDS.one e_slices_Equal_L_int_ok rfl (by kernel_rfl) (opd_q (by kernel_rfl) (wantedA_none rfl) rfl (q_indexAddr (a := .sl 1 (x1.map cdI.enc)) (b := .v (.int .i64 c2)) (by kernel_rfl) (by kernel_rfl) (ix_sl (e := cdI.enc) (el := 3) (k := 1) (ki := .i64) (by kernel_rfl) (by kernel_rfl) hv5)) (by kernel_rfl)) ?_
        refine RunDS.segF (n := 26) e_slices_Equal_L_int_ok 2 [(0, .sl 1 (x0.map cdI.enc)), (1, .sl 1 (x1.map cdI.enc)), (12, .v (.int .i64 (x0.length : Int))), (13, .v (.int .i64 c2)), (24, .v (.bool (v4 != v5)))] [] (by kernel_rfl) (by kernel_rfl) ?_
        exact RunDS.done rfl Wk.f1
      refine Sem.cond (b := (v4 != v5)) (by kernel_rfl) (fun hb6 => ?_) (fun hb6 => ?_)
      · rw [if_pos hb6] at h
        refine Sem.seq ?_
        refine Sem.runS (s1 := ⟨Fr 26 [(4, .v (.bool false))], []⟩) ?_ ?_
        · refine RunS.segF (n := 26) e_slices_Equal_L_int_ok 1 [(4, .v (.bool false))] [] (by kernel_rfl) ?_
          exact RunS.done rfl Wk.f1
        refine Sem.ret ?_
        have hq := Option.some.inj h; subst hq
        exact ⟨rfl, Wk.f1⟩
      · rw [if_f hb6] at h
        refine Sem.skip ?_
        refine Sem.runS (s1 := ⟨Fr 26 [(0, .sl 1 (x0.map cdI.enc)), (1, .sl 1 (x1.map cdI.enc)), (12, .v (.int .i64 (x0.length : Int))), (13, .v (.int .i64 (wr .i64 (c2 + 1))))], []⟩) ?_ ?_
        · refine RunS.segF (n := 26) e_slices_Equal_L_int_ok 2 [(0, .sl 1 (x0.map cdI.enc)), (1, .sl 1 (x1.map cdI.enc)), (12, .v (.int .i64 (x0.length : Int))), (13, .v (.int .i64 (wr .i64 (c2 + 1))))] [] (by kernel_rfl) ?_
          exact RunS.done rfl Wk.f1
        exact SemN.wk (s1 := ⟨Fr 26 [(0, .sl 1 (x0.map cdI.enc)), (1, .sl 1 (x1.map cdI.enc)), (12, .v (.int .i64 (x0.length : Int))), (13, .v (.int .i64 (wr .i64 (c2 + 1))))], []⟩) Wk.f1 (ih (wr .i64 (c2 + 1)) h)
    · rw [if_f hb3] at h
      refine Sem.exit ?_
      have hq := Option.some.inj h; subst hq
      exact ⟨rfl, Wk.f1⟩
set_option maxHeartbeats 4000000 in
set_option maxRecDepth 100000 in
theorem slices_Equal_L_int_sem (x0 : (List Int)) (x1 : (List Int)) (r : Bool) (h : slices_Equal_L_int x0 x1 = some r) : Sem e_slices_Equal_L_int ⟨none, false⟩ cb_slices_Equal_L_int ⟨Fr 26 (pairs0 0 (cs_slices_Equal_L_int.enc (x0, x1, ()))), []⟩ fun e s' => (e = .normal ∨ e = .ret) ∧ ∃ xs, resA e_slices_Equal_L_int.P s'.fr s'.hp Tryd.f23.results.toList = some xs ∧ retA xs = er_slices_Equal_L_int r := by
  unfold slices_Equal_L_int at h
  refine Sem.wkQ (Sem.wk (s1 := ⟨Fr 26 [(0, .sl 1 (x0.map cdI.enc)), (1, .sl 1 (x1.map cdI.enc))], []⟩) Wk.f1 ?_)
  refine Sem.seq ?_
  refine Sem.runS (s1 := ⟨Fr 26 [(0, .sl 1 (x0.map cdI.enc)), (1, .sl 1 (x1.map cdI.enc))], []⟩) ?_ ?_
  · refine RunS.segF (n := 26) e_slices_Equal_L_int_ok 1 [(0, .sl 1 (x0.map cdI.enc)), (1, .sl 1 (x1.map cdI.enc))] [] (by kernel_rfl) ?_
    exact RunS.done rfl Wk.f1
  refine Sem.seq ?_
  refine Sem.seq ?_
  refine Sem.runS (s1 := ⟨Fr 26 [(0, .sl 1 (x0.map cdI.enc)), (1, .sl 1 (x1.map cdI.enc)), (10, .v (.bool ((x0.length : Int) != (x1.length : Int))))], []⟩) ?_ ?_
  · refine RunS.segF (n := 26) e_slices_Equal_L_int_ok 1 [(0, .sl 1 (x0.map cdI.enc)), (1, .sl 1 (x1.map cdI.enc)), (6, .sl 1 (x0.map cdI.enc))] [] (by kernel_rfl) ?_
    refine RunS.one e_slices_Equal_L_int_ok 0 rfl (op_q (wantedA_none rfl) rfl (q_len (a := .sl 1 (x0.map cdI.enc)) (by kernel_rfl) (len_sl (el := 3) (by kernel_rfl)))) ?_
    refine RunS.segF (n := 26) e_slices_Equal_L_int_ok 1 [(0, .sl 1 (x0.map cdI.enc)), (1, .sl 1 (x1.map cdI.enc)), (7, .v (.int .i64 (x0.length : Int))), (8, .sl 1 (x1.map cdI.enc))] [] (by kernel_rfl) ?_
    refine RunS.one e_slices_Equal_L_int_ok 0 rfl (op_q (wantedA_none rfl) rfl (q_len (a := .sl 1 (x1.map cdI.enc)) (by kernel_rfl) (len_sl (el := 3) (by kernel_rfl)))) ?_
    refine RunS.segF (n := 26) e_slices_Equal_L_int_ok 1 [(0, .sl 1 (x0.map cdI.enc)), (1, .sl 1 (x1.map cdI.enc)), (10, .v (.bool ((x0.length : Int) != (x1.length : Int))))] [] (by kernel_rfl) ?_
    exact RunS.done rfl Wk.f1
  refine Sem.cond (b := ((x0.length : Int) != (x1.length : Int))) (by kernel_rfl) (fun hb1 => ?_) (fun hb1 => ?_)
  · rw [if_pos hb1] at h
    refine Sem.seq ?_
    refine Sem.runS (s1 := ⟨Fr 26 [(4, .v (.bool false))], []⟩) ?_ ?_
    · refine RunS.segF (n := 26) e_slices_Equal_L_int_ok 1 [(4, .v (.bool false))] [] (by kernel_rfl) ?_
      exact RunS.done rfl Wk.f1
    refine Sem.ret ?_
    have hq := Option.some.inj h; subst hq
    exact ⟨⟨Fr 26 [(4, .v (.bool false))], []⟩, Wk.f1, .inr rfl, [.v (.bool false)], (by kernel_rfl), (by kernel_rfl)⟩
  · rw [if_f hb1] at h
    refine Sem.skip ?_
    refine Sem.seq ?_
    refine Sem.seq ?_
    refine Sem.runS (s1 := ⟨Fr 26 [(0, .sl 1 (x0.map cdI.enc)), (1, .sl 1 (x1.map cdI.enc)), (12, .v (.int .i64 (x0.length : Int))), (13, .v (.int .i64 0))], []⟩) ?_ ?_
    · refine RunS.segF (n := 26) e_slices_Equal_L_int_ok 1 [(0, .sl 1 (x0.map cdI.enc)), (1, .sl 1 (x1.map cdI.enc)), (11, .sl 1 (x0.map cdI.enc))] [] (by kernel_rfl) ?_
      refine RunS.one e_slices_Equal_L_int_ok 0 rfl (op_q (wantedA_none rfl) rfl (q_len (a := .sl 1 (x0.map cdI.enc)) (by kernel_rfl) (len_sl (el := 3) (by kernel_rfl)))) ?_
      refine RunS.segF (n := 26) e_slices_Equal_L_int_ok 1 [(0, .sl 1 (x0.map cdI.enc)), (1, .sl 1 (x1.map cdI.enc)), (12, .v (.int .i64 (x0.length : Int))), (13, .v (.int .i64 0))] [] (by kernel_rfl) ?_
      exact RunS.done rfl Wk.f1
    refine Sem.block ?_
    obtain ⟨r8, hr8, h⟩ := Option.bind_eq_some_iff.1 h
    refine Sem.loop (n := 100000) ?_
    rcases r8 with w9 | w10
    · try dsimp only at h
      refine Sem.cutN (SemN.wk (s1 := ⟨Fr 26 [(0, .sl 1 (x0.map cdI.enc)), (1, .sl 1 (x1.map cdI.enc)), (12, .v (.int .i64 (x0.length : Int))), (13, .v (.int .i64 0))], []⟩) Wk.f1 (slices_Equal_L_int_1_ok x0 x1 _ 0 _ hr8)) ?_
      refine Sem.seq ?_
      refine Sem.runS (s1 := ⟨Fr 26 [(4, .v (.bool true))], []⟩) ?_ ?_
      · refine RunS.segF (n := 26) e_slices_Equal_L_int_ok 1 [(4, .v (.bool true))] [] (by kernel_rfl) ?_
        exact RunS.done rfl Wk.f1
      refine Sem.ret ?_
      have hq := Option.some.inj h; subst hq
      exact ⟨⟨Fr 26 [(4, .v (.bool true))], []⟩, Wk.f1, .inr rfl, [.v (.bool true)], (by kernel_rfl), (by kernel_rfl)⟩
    · try dsimp only at h
      refine Sem.cutN (SemN.wk (s1 := ⟨Fr 26 [(0, .sl 1 (x0.map cdI.enc)), (1, .sl 1 (x1.map cdI.enc)), (12, .v (.int .i64 (x0.length : Int))), (13, .v (.int .i64 0))], []⟩) Wk.f1 (slices_Equal_L_int_1_ok x0 x1 _ 0 _ hr8)) ?_
      have hq := Option.some.inj h; subst hq
      exact ⟨⟨Fr 26 [(4, .v (.bool w10))], []⟩, Wk.f1, .inr rfl, [.v (.bool w10)], (by kernel_rfl), (by kernel_rfl)⟩
def t_slices_Equal_L_int : List AV → Option AV := told cs_slices_Equal_L_int (fun a => slices_Equal_L_int a.1 a.2.1) er_slices_Equal_L_int
theorem x_slices_Equal_L_int : XOk 23 t_slices_Equal_L_int := by
  refine EnvOk.x (E := e_slices_Equal_L_int) (contract_ok e_slices_Equal_L_int_ok (fn := Tryd.f23) (c := cb_slices_Equal_L_int) ?h1 ?h2 ⟨Tryd.call23⟩ cs_slices_Equal_L_int (fun a => slices_Equal_L_int a.1 a.2.1) er_slices_Equal_L_int (fun a => (by show 2 ≤ 26; decide)) ?h3 ?h4) rfl rfl
  case h1 => kernel_rfl
  case h2 => kernel_rfl
  case h3 => intro b; kernel_rfl
  case h4 => exact fun a b h => slices_Equal_L_int_sem a.1 a.2.1 b h
/- trestle/evening.clone -/
noncomputable def e_evening_clone_d : Env := E0
theorem e_evening_clone_d_ok : EnvOk e_evening_clone_d := E0_ok
noncomputable def cb_evening_clone_d : Code := codeOf Tryd.f79
def evening_clone_d_2 (v6 : (List (List Int))) : Nat → Int → (List (List Int)) → Option (((List (List Int))))
  | 0, _, _ => none
  | f + 1, c8, c10 =>
    if (decide (c8 < (v6.length : Int))) = true then
    (idx v6 c8).bind fun v12 =>
    if (capOk 8 v12.length) = true then
    if (capOk 24 (c10.length + ([v12] : List (List Int)).length)) = true then
    evening_clone_d_2 v6 f (wr .i64 (c8 + 1)) (c10 ++ ([v12] : List (List Int)))
    else none
    else none
    else
    some c10
def evening_clone_d_1 (x0 : (List (List (List Int)))) : Nat → Int → (List (List (List Int))) → Option (((List (List (List Int)))))
  | 0, _, _ => none
  | f + 1, c2, c4 =>
    if (decide (c2 < (x0.length : Int))) = true then
    (idx x0 c2).bind fun v6 =>
    (evening_clone_d_2 v6 100000 0 ([] : (List (List Int)))).bind fun r31 =>
    if (capOk 24 (c4.length + ([r31] : List (List (List Int))).length)) = true then
    evening_clone_d_1 x0 f (wr .i64 (c2 + 1)) (c4 ++ ([r31] : List (List (List Int))))
    else none
    else
    some c4
def evening_clone_d (x0 : (List (List (List Int)))) : Option ((List (List (List Int)))) :=
  (evening_clone_d_1 x0 100000 0 ([] : (List (List (List Int))))).bind fun r48 =>
  some r48
set_option maxHeartbeats 4000000 in
set_option maxRecDepth 100000 in
theorem evening_clone_d_2_ok {L : List Asn} (v6 : (List (List Int))) (x0 : (List (List (List Int)))) (c2 : Int) (e3 : AV) (c4 : (List (List (List Int)))) : ∀ (f : Nat) (c8 : Int) (c10 : (List (List Int))) (r : ((List (List Int)))), evening_clone_d_2 v6 f c8 c10 = some r → ∀ (e9 : AV) (hp : Hp), T hp ((own_ (ocL 1 50 (ocL 1 31 (ocL 1 3 (ocV cdI)))) e3 c4) :: (own_ (ocL 1 31 (ocL 1 3 (ocV cdI))) e9 c10) :: L) → SemYN e_evening_clone_d ⟨none, false⟩ (pc cb_evening_clone_d [1, 1, 0, 1, 0, 0, 1, 1, 0, 0, 1, 1, 0, 1, 0, 0]) f ⟨Fr 33 [(3, e3), (6, e9), (9, .sl 1 (x0.map (cdL 1 (cdL 1 cdI)).enc)), (10, .v (.int .i64 (x0.length : Int))), (11, .v (.int .i64 c2)), (15, .sl 1 (v6.map (cdL 1 cdI).enc)), (16, .v (.int .i64 (v6.length : Int))), (17, .v (.int .i64 c8))], hp⟩ (fun e s => e = (.exit 2) ∧ ∃ s2, (∃ (e28 : AV) (h' : Hp), T h' ((own_ (ocL 1 50 (ocL 1 31 (ocL 1 3 (ocV cdI)))) e3 c4) :: (own_ (ocL 1 31 (ocL 1 3 (ocV cdI))) e28 r) :: L) ∧ s2 = ⟨Fr 33 [(3, e3), (6, e28), (9, .sl 1 (x0.map (cdL 1 (cdL 1 cdI)).enc)), (10, .v (.int .i64 (x0.length : Int))), (11, .v (.int .i64 c2))], h'⟩) ∧ WkY e_evening_clone_d s s2) := by
  intro f
  induction f with
  | zero => intro c8 c10 r h; cases h
  | succ f ih0 =>
    intro c8 c10 r h e9 hp hT
    unfold evening_clone_d_2 at h
    refine SemYN.succ ?_
    refine SemY.seq ?_
    refine SemY.regionL ?_
    refine RunL.segF (n := 33) e_evening_clone_d_ok 1 [(3, e3), (6, e9), (9, .sl 1 (x0.map (cdL 1 (cdL 1 cdI)).enc)), (10, .v (.int .i64 (x0.length : Int))), (11, .v (.int .i64 c2)), (15, .sl 1 (v6.map (cdL 1 cdI).enc)), (16, .v (.int .i64 (v6.length : Int))), (17, .v (.int .i64 c8)), (18, .v (.bool (decide (c8 < (v6.length : Int)))))] hp (by kernel_rfl) ?_
    refine RunL.done rfl (SemY.fr (l' := [(3, e3), (6, e9), (9, .sl 1 (x0.map (cdL 1 (cdL 1 cdI)).enc)), (10, .v (.int .i64 (x0.length : Int))), (11, .v (.int .i64 c2)), (15, .sl 1 (v6.map (cdL 1 cdI).enc)), (16, .v (.int .i64 (v6.length : Int))), (17, .v (.int .i64 c8)), (18, .v (.bool (decide (c8 < (v6.length : Int)))))]) (by kernel_rfl) ?_)
    refine SemY.seq ?_
    refine SemY.cond (b := (decide (c8 < (v6.length : Int)))) (by kernel_rfl) (fun hb11 => ?_) (fun hb11 => ?_)
    · rw [if_pos hb11] at h
      refine SemY.skip ?_
      refine SemY.seq ?_
      refine SemY.block ?_
      refine SemY.seq ?_
      refine SemY.regionL ?_
      obtain ⟨v12, hv12, h⟩ := Option.bind_eq_some_iff.1 h
      refine RunL.one e_evening_clone_d_ok 0 rfl (op_q (wantedA_none rfl) rfl (q_indexAddr (a := .sl 1 (v6.map (cdL 1 cdI).enc)) (b := .v (.int .i64 c8)) (by kernel_rfl) (by kernel_rfl) (ix_sl (e := (cdL 1 cdI).enc) (el := 31) (k := 1) (ki := .i64) (by kernel_rfl) (by kernel_rfl) hv12))) ?_
      refine RunL.segF (n := 33) e_evening_clone_d_ok 2 [(3, e3), (6, e9), (8, .sl 1 (v12.map cdI.enc)), (9, .sl 1 (x0.map (cdL 1 (cdL 1 cdI)).enc)), (10, .v (.int .i64 (x0.length : Int))), (11, .v (.int .i64 c2)), (15, .sl 1 (v6.map (cdL 1 cdI).enc)), (16, .v (.int .i64 (v6.length : Int))), (17, .v (.int .i64 c8))] hp (by kernel_rfl) ?_
      refine RunL.done rfl (SemY.fr (l' := [(3, e3), (6, e9), (8, .sl 1 (v12.map cdI.enc)), (9, .sl 1 (x0.map (cdL 1 (cdL 1 cdI)).enc)), (10, .v (.int .i64 (x0.length : Int))), (11, .v (.int .i64 c2)), (15, .sl 1 (v6.map (cdL 1 cdI).enc)), (16, .v (.int .i64 (v6.length : Int))), (17, .v (.int .i64 c8))]) (by kernel_rfl) ?_)
      refine SemY.regionL ?_
      refine RunL.segF (n := 33) e_evening_clone_d_ok 2 [(3, e3), (9, .sl 1 (x0.map (cdL 1 (cdL 1 cdI)).enc)), (10, .v (.int .i64 (x0.length : Int))), (11, .v (.int .i64 c2)), (15, .sl 1 (v6.map (cdL 1 cdI).enc)), (16, .v (.int .i64 (v6.length : Int))), (17, .v (.int .i64 c8)), (21, e9), (22, .sl 1 (v12.map cdI.enc))] hp (by kernel_rfl) ?_
      by_cases hk13 : (capOk 8 v12.length) = true
      case neg => rw [if_neg hk13] at h; cases h
      rw [if_pos hk13] at h
      refine RunL.callS rfl rfl (s_clone v12 hk13) rfl (wantedA_none rfl) (by kernel_rfl) (xs := [.sl 1 (v12.map cdI.enc)]) (by kernel_rfl) (Sees.cons (SeeV.enc (c := cdL 1 cdI)) Sees.nil) clone_flat ?_
      intro x h' hO; obtain ⟨e14, hp15, e14q, hp15q, hT160⟩ := clone_own hT hO; rw [← e14q, ← hp15q]
      have hT16 : T hp15 ((own_ (ocL 1 3 (ocV cdI)) e14 v12) :: (own_ (ocL 1 50 (ocL 1 31 (ocL 1 3 (ocV cdI)))) e3 c4) :: (own_ (ocL 1 31 (ocL 1 3 (ocV cdI))) e9 c10) :: L) := hT160
      obtain ⟨e20, hp17, hb18, hT190⟩ := lit_ownB (P := Tryd.prog) (bytes := 24) (k := 1) (t := 31) (ty := 50) (xs := ([v12] : List (List Int))) (n := 1) fit_L (els_cons ((els_nil (o := (ocL 1 3 (ocV cdI))) hT16).front 1 rfl)) rfl (by kernel_rfl) (by kernel_rfl) (by kernel_rfl)
      have hT19 : T hp17 ((own_ (ocL 1 31 (ocL 1 3 (ocV cdI))) e20 ([v12] : List (List Int))) :: (own_ (ocL 1 50 (ocL 1 31 (ocL 1 3 (ocV cdI)))) e3 c4) :: (own_ (ocL 1 31 (ocL 1 3 (ocV cdI))) e9 c10) :: L) := hT190
      refine RunL.one e_evening_clone_d_ok 0 rfl (op_n (wantedA_none rfl) rfl (by kernel_rfl) (n_lit (xs := enumA 0 [e14]) (by kernel_rfl) hb18)) ?_
      by_cases hk25 : (capOk 24 (c10.length + ([v12] : List (List Int)).length)) = true
      case neg => rw [if_neg hk25] at h; cases h
      rw [if_pos hk25] at h
      have hT26 : T hp17 ((own_ (ocL 1 31 (ocL 1 3 (ocV cdI))) e9 c10) :: (own_ (ocL 1 31 (ocL 1 3 (ocV cdI))) e20 ([v12] : List (List Int))) :: (own_ (ocL 1 50 (ocL 1 31 (ocL 1 3 (ocV cdI)))) e3 c4) :: L) := ((hT19.front 0 rfl).front 2 rfl)
      obtain ⟨e24, hp21, hb22, hT230⟩ := app_ownB (P := Tryd.prog) (ty := 50) (ty2 := 50) (bytes := 24) hT26 (by kernel_rfl) (by kernel_rfl) hk25
      have hT23 : T hp21 ((own_ (ocL 1 31 (ocL 1 3 (ocV cdI))) e24 (c10 ++ ([v12] : List (List Int)))) :: (own_ (ocL 1 50 (ocL 1 31 (ocL 1 3 (ocV cdI)))) e3 c4) :: L) := hT230
      refine RunL.one e_evening_clone_d_ok 0 rfl (op_w (wantedA_none rfl) rfl (by kernel_rfl) (by kernel_rfl) (w_append (a := e9) (b := e20) (by kernel_rfl) (by kernel_rfl) hb22)) ?_
      refine RunL.segF (n := 33) e_evening_clone_d_ok 1 [(3, e3), (6, e24), (9, .sl 1 (x0.map (cdL 1 (cdL 1 cdI)).enc)), (10, .v (.int .i64 (x0.length : Int))), (11, .v (.int .i64 c2)), (15, .sl 1 (v6.map (cdL 1 cdI).enc)), (16, .v (.int .i64 (v6.length : Int))), (17, .v (.int .i64 c8))] hp21 (by kernel_rfl) ?_
      refine RunL.done rfl (SemY.fr (l' := [(3, e3), (6, e24), (9, .sl 1 (x0.map (cdL 1 (cdL 1 cdI)).enc)), (10, .v (.int .i64 (x0.length : Int))), (11, .v (.int .i64 c2)), (15, .sl 1 (v6.map (cdL 1 cdI).enc)), (16, .v (.int .i64 (v6.length : Int))), (17, .v (.int .i64 c8))]) (by kernel_rfl) ?_)
      refine SemY.regionL ?_
      refine RunL.segF (n := 33) e_evening_clone_d_ok 2 [(3, e3), (6, e24), (9, .sl 1 (x0.map (cdL 1 (cdL 1 cdI)).enc)), (10, .v (.int .i64 (x0.length : Int))), (11, .v (.int .i64 c2)), (15, .sl 1 (v6.map (cdL 1 cdI).enc)), (16, .v (.int .i64 (v6.length : Int))), (17, .v (.int .i64 (wr .i64 (c8 + 1))))] hp21 (by kernel_rfl) ?_
      refine RunL.done rfl ?_
      have hT27 : T hp21 ((own_ (ocL 1 50 (ocL 1 31 (ocL 1 3 (ocV cdI)))) e3 c4) :: (own_ (ocL 1 31 (ocL 1 3 (ocV cdI))) e24 (c10 ++ ([v12] : List (List Int)))) :: L) := (hT23.front 1 rfl)
      exact SemYN.wk WkY.f1 (ih0 (wr .i64 (c8 + 1)) (c10 ++ ([v12] : List (List Int))) _ h e24 hp21 hT27)
    · rw [if_f hb11] at h
      refine SemY.exit ?_
      have hq := Option.some.inj h; subst hq
      exact ⟨rfl, _, ⟨e9, hp, hT, rfl⟩, WkY.f1⟩
set_option maxHeartbeats 4000000 in
set_option maxRecDepth 100000 in
theorem evening_clone_d_1_ok {L : List Asn} (x0 : (List (List (List Int)))) : ∀ (f : Nat) (c2 : Int) (c4 : (List (List (List Int)))) (r : ((List (List (List Int))))), evening_clone_d_1 x0 f c2 c4 = some r → ∀ (e3 : AV) (hp : Hp), T hp ((own_ (ocL 1 50 (ocL 1 31 (ocL 1 3 (ocV cdI)))) e3 c4) :: L) → SemYN e_evening_clone_d ⟨none, false⟩ (pc cb_evening_clone_d [1, 1, 0, 1, 0, 0]) f ⟨Fr 33 [(3, e3), (9, .sl 1 (x0.map (cdL 1 (cdL 1 cdI)).enc)), (10, .v (.int .i64 (x0.length : Int))), (11, .v (.int .i64 c2))], hp⟩ (fun e s => e = (.exit 0) ∧ ∃ s2, (∃ (e46 : AV) (h' : Hp), T h' ((own_ (ocL 1 50 (ocL 1 31 (ocL 1 3 (ocV cdI)))) e46 r) :: L) ∧ s2 = ⟨Fr 33 [(3, e46)], h'⟩) ∧ WkY e_evening_clone_d s s2) := by
  intro f
  induction f with
  | zero => intro c2 c4 r h; cases h
  | succ f ih0 =>
    intro c2 c4 r h e3 hp hT
    unfold evening_clone_d_1 at h
    refine SemYN.succ ?_
    refine SemY.seq ?_
    refine SemY.regionL ?_
    refine RunL.segF (n := 33) e_evening_clone_d_ok 1 [(3, e3), (9, .sl 1 (x0.map (cdL 1 (cdL 1 cdI)).enc)), (10, .v (.int .i64 (x0.length : Int))), (11, .v (.int .i64 c2)), (12, .v (.bool (decide (c2 < (x0.length : Int)))))] hp (by kernel_rfl) ?_
    refine RunL.done rfl (SemY.fr (l' := [(3, e3), (9, .sl 1 (x0.map (cdL 1 (cdL 1 cdI)).enc)), (10, .v (.int .i64 (x0.length : Int))), (11, .v (.int .i64 c2)), (12, .v (.bool (decide (c2 < (x0.length : Int)))))]) (by kernel_rfl) ?_)
    refine SemY.seq ?_
    refine SemY.cond (b := (decide (c2 < (x0.length : Int)))) (by kernel_rfl) (fun hb5 => ?_) (fun hb5 => ?_)
    · rw [if_pos hb5] at h
      refine SemY.skip ?_
      refine SemY.seq ?_
      refine SemY.block ?_
      refine SemY.seq ?_
      refine SemY.regionL ?_
      obtain ⟨v6, hv6, h⟩ := Option.bind_eq_some_iff.1 h
      refine RunL.one e_evening_clone_d_ok 0 rfl (op_q (wantedA_none rfl) rfl (q_indexAddr (a := .sl 1 (x0.map (cdL 1 (cdL 1 cdI)).enc)) (b := .v (.int .i64 c2)) (by kernel_rfl) (by kernel_rfl) (ix_sl (e := (cdL 1 (cdL 1 cdI)).enc) (el := 50) (k := 1) (ki := .i64) (by kernel_rfl) (by kernel_rfl) hv6))) ?_
      refine RunL.segF (n := 33) e_evening_clone_d_ok 2 [(3, e3), (5, .sl 1 (v6.map (cdL 1 cdI).enc)), (9, .sl 1 (x0.map (cdL 1 (cdL 1 cdI)).enc)), (10, .v (.int .i64 (x0.length : Int))), (11, .v (.int .i64 c2))] hp (by kernel_rfl) ?_
      refine RunL.done rfl (SemY.fr (l' := [(3, e3), (5, .sl 1 (v6.map (cdL 1 cdI).enc)), (9, .sl 1 (x0.map (cdL 1 (cdL 1 cdI)).enc)), (10, .v (.int .i64 (x0.length : Int))), (11, .v (.int .i64 c2))]) (by kernel_rfl) ?_)
      refine SemY.seq ?_
      refine SemY.regionL ?_
      refine RunL.segF (n := 33) e_evening_clone_d_ok 1 [(3, e3), (5, .sl 1 (v6.map (cdL 1 cdI).enc)), (6, .e0), (9, .sl 1 (x0.map (cdL 1 (cdL 1 cdI)).enc)), (10, .v (.int .i64 (x0.length : Int))), (11, .v (.int .i64 c2))] hp (by kernel_rfl) ?_
      refine RunL.done rfl (SemY.fr (l' := [(3, e3), (5, .sl 1 (v6.map (cdL 1 cdI).enc)), (6, .e0), (9, .sl 1 (x0.map (cdL 1 (cdL 1 cdI)).enc)), (10, .v (.int .i64 (x0.length : Int))), (11, .v (.int .i64 c2))]) (by kernel_rfl) ?_)
      refine SemY.seq ?_
      refine SemY.seq ?_
      refine SemY.regionL ?_
      refine RunL.segF (n := 33) e_evening_clone_d_ok 1 [(3, e3), (6, .e0), (9, .sl 1 (x0.map (cdL 1 (cdL 1 cdI)).enc)), (10, .v (.int .i64 (x0.length : Int))), (11, .v (.int .i64 c2)), (15, .sl 1 (v6.map (cdL 1 cdI).enc))] hp (by kernel_rfl) ?_
      refine RunL.one e_evening_clone_d_ok 0 rfl (op_q (wantedA_none rfl) rfl (q_len (a := .sl 1 (v6.map (cdL 1 cdI).enc)) (by kernel_rfl) (len_sl (el := 31) (by kernel_rfl)))) ?_
      refine RunL.segF (n := 33) e_evening_clone_d_ok 1 [(3, e3), (6, .e0), (9, .sl 1 (x0.map (cdL 1 (cdL 1 cdI)).enc)), (10, .v (.int .i64 (x0.length : Int))), (11, .v (.int .i64 c2)), (15, .sl 1 (v6.map (cdL 1 cdI).enc)), (16, .v (.int .i64 (v6.length : Int))), (17, .v (.int .i64 0))] hp (by kernel_rfl) ?_
      refine RunL.done rfl (SemY.fr (l' := [(3, e3), (6, .e0), (9, .sl 1 (x0.map (cdL 1 (cdL 1 cdI)).enc)), (10, .v (.int .i64 (x0.length : Int))), (11, .v (.int .i64 c2)), (15, .sl 1 (v6.map (cdL 1 cdI).enc)), (16, .v (.int .i64 (v6.length : Int))), (17, .v (.int .i64 0))]) (by kernel_rfl) ?_)
      refine SemY.block ?_
      have hT7 : T hp ((own_ (ocL 1 31 (ocL 1 3 (ocV cdI))) .e0 ([] : (List (List Int)))) :: (own_ (ocL 1 50 (ocL 1 31 (ocL 1 3 (ocV cdI)))) e3 c4) :: L) := (T.e0 (o := (ocL 1 3 (ocV cdI))) hT)
      have hT30 : T hp ((own_ (ocL 1 50 (ocL 1 31 (ocL 1 3 (ocV cdI)))) e3 c4) :: (own_ (ocL 1 31 (ocL 1 3 (ocV cdI))) .e0 ([] : (List (List Int)))) :: L) := (hT7.front 1 rfl)
      refine SemY.loop (n := 100000) ?_
      obtain ⟨r31, hr31, h⟩ := Option.bind_eq_some_iff.1 h
      refine SemYN.cutT (SemYN.wk WkY.f1 (evening_clone_d_2_ok v6 x0 c2 e3 c4 _ 0 ([] : (List (List Int))) _ hr31 .e0 hp hT30)) ?_
      rintro _ ⟨e32, hp33, hT34, rfl⟩
      refine SemY.regionL ?_
      refine RunL.segF (n := 33) e_evening_clone_d_ok 2 [(9, .sl 1 (x0.map (cdL 1 (cdL 1 cdI)).enc)), (10, .v (.int .i64 (x0.length : Int))), (11, .v (.int .i64 c2)), (27, e3), (28, e32)] hp33 (by kernel_rfl) ?_
      have hT39 : T hp33 ((own_ (ocL 1 31 (ocL 1 3 (ocV cdI))) e32 r31) :: (own_ (ocL 1 50 (ocL 1 31 (ocL 1 3 (ocV cdI)))) e3 c4) :: L) := (hT34.front 1 rfl)
      obtain ⟨e38, hp35, hb36, hT370⟩ := lit_ownB (P := Tryd.prog) (bytes := 24) (k := 1) (t := 50) (ty := 22) (xs := ([r31] : List (List (List Int)))) (n := 1) fit_L (els_cons ((els_nil (o := (ocL 1 31 (ocL 1 3 (ocV cdI)))) hT39).front 1 rfl)) rfl (by kernel_rfl) (by kernel_rfl) (by kernel_rfl)
      have hT37 : T hp35 ((own_ (ocL 1 50 (ocL 1 31 (ocL 1 3 (ocV cdI)))) e38 ([r31] : List (List (List Int)))) :: (own_ (ocL 1 50 (ocL 1 31 (ocL 1 3 (ocV cdI)))) e3 c4) :: L) := hT370
      refine RunL.one e_evening_clone_d_ok 0 rfl (op_n (wantedA_none rfl) rfl (by kernel_rfl) (n_lit (xs := enumA 0 [e32]) (by kernel_rfl) hb36)) ?_
      by_cases hk44 : (capOk 24 (c4.length + ([r31] : List (List (List Int))).length)) = true
      case neg => rw [if_neg hk44] at h; cases h
      rw [if_pos hk44] at h
      have hT45 : T hp35 ((own_ (ocL 1 50 (ocL 1 31 (ocL 1 3 (ocV cdI)))) e3 c4) :: (own_ (ocL 1 50 (ocL 1 31 (ocL 1 3 (ocV cdI)))) e38 ([r31] : List (List (List Int)))) :: L) := ((hT37.front 0 rfl).front 1 rfl)
      obtain ⟨e43, hp40, hb41, hT420⟩ := app_ownB (P := Tryd.prog) (ty := 22) (ty2 := 22) (bytes := 24) hT45 (by kernel_rfl) (by kernel_rfl) hk44
      have hT42 : T hp40 ((own_ (ocL 1 50 (ocL 1 31 (ocL 1 3 (ocV cdI)))) e43 (c4 ++ ([r31] : List (List (List Int))))) :: L) := hT420
      refine RunL.one e_evening_clone_d_ok 0 rfl (op_w (wantedA_none rfl) rfl (by kernel_rfl) (by kernel_rfl) (w_append (a := e3) (b := e38) (by kernel_rfl) (by kernel_rfl) hb41)) ?_
      refine RunL.segF (n := 33) e_evening_clone_d_ok 1 [(3, e43), (9, .sl 1 (x0.map (cdL 1 (cdL 1 cdI)).enc)), (10, .v (.int .i64 (x0.length : Int))), (11, .v (.int .i64 c2))] hp40 (by kernel_rfl) ?_
      refine RunL.done rfl (SemY.fr (l' := [(3, e43), (9, .sl 1 (x0.map (cdL 1 (cdL 1 cdI)).enc)), (10, .v (.int .i64 (x0.length : Int))), (11, .v (.int .i64 c2))]) (by kernel_rfl) ?_)
      refine SemY.regionL ?_
      refine RunL.segF (n := 33) e_evening_clone_d_ok 2 [(3, e43), (9, .sl 1 (x0.map (cdL 1 (cdL 1 cdI)).enc)), (10, .v (.int .i64 (x0.length : Int))), (11, .v (.int .i64 (wr .i64 (c2 + 1))))] hp40 (by kernel_rfl) ?_
      refine RunL.done rfl ?_
      exact SemYN.wk WkY.f1 (ih0 (wr .i64 (c2 + 1)) (c4 ++ ([r31] : List (List (List Int)))) _ h e43 hp40 hT42)
    · rw [if_f hb5] at h
      refine SemY.exit ?_
      have hq := Option.some.inj h; subst hq
      exact ⟨rfl, _, ⟨e3, hp, hT, rfl⟩, WkY.f1⟩
set_option maxHeartbeats 4000000 in
set_option maxRecDepth 100000 in
theorem evening_clone_d_sem {L : List Asn} {hp : Hp} (x0 : (List (List (List Int)))) (r : (List (List (List Int)))) (h : evening_clone_d x0 = some r) (hT : T hp (L)) : SemY e_evening_clone_d ⟨none, false⟩ cb_evening_clone_d ⟨Fr 33 (pairs0 0 [.sl 1 (x0.map (cdL 1 (cdL 1 cdI)).enc)]), hp⟩ fun x s' => (x = .normal ∨ x = .ret) ∧ ∃ ys, resA e_evening_clone_d.P s'.fr s'.hp Tryd.f79.results.toList = some ys ∧ (fun v h' => ∃ (z0 : AV), v = z0 ∧ T h' ((own_ (ocL 1 50 (ocL 1 31 (ocL 1 3 (ocV cdI)))) z0 r) :: L)) (retA ys) s'.hp := by
  unfold evening_clone_d at h
  refine SemY.wkQ (SemY.wk (s1 := ⟨Fr 33 [(0, .sl 1 (x0.map (cdL 1 (cdL 1 cdI)).enc))], hp⟩) WkY.f1 ?_)
  refine SemY.seq ?_
  refine SemY.regionL ?_
  refine RunL.segF (n := 33) e_evening_clone_d_ok 1 [(0, .sl 1 (x0.map (cdL 1 (cdL 1 cdI)).enc))] hp (by kernel_rfl) ?_
  refine RunL.done rfl (SemY.fr (l' := [(0, .sl 1 (x0.map (cdL 1 (cdL 1 cdI)).enc))]) (by kernel_rfl) ?_)
  refine SemY.seq ?_
  refine SemY.regionL ?_
  refine RunL.segF (n := 33) e_evening_clone_d_ok 1 [(0, .sl 1 (x0.map (cdL 1 (cdL 1 cdI)).enc)), (3, .e0)] hp (by kernel_rfl) ?_
  refine RunL.done rfl (SemY.fr (l' := [(0, .sl 1 (x0.map (cdL 1 (cdL 1 cdI)).enc)), (3, .e0)]) (by kernel_rfl) ?_)
  refine SemY.seq ?_
  refine SemY.seq ?_
  refine SemY.regionL ?_
  refine RunL.segF (n := 33) e_evening_clone_d_ok 1 [(3, .e0), (9, .sl 1 (x0.map (cdL 1 (cdL 1 cdI)).enc))] hp (by kernel_rfl) ?_
  refine RunL.one e_evening_clone_d_ok 0 rfl (op_q (wantedA_none rfl) rfl (q_len (a := .sl 1 (x0.map (cdL 1 (cdL 1 cdI)).enc)) (by kernel_rfl) (len_sl (el := 50) (by kernel_rfl)))) ?_
  refine RunL.segF (n := 33) e_evening_clone_d_ok 1 [(3, .e0), (9, .sl 1 (x0.map (cdL 1 (cdL 1 cdI)).enc)), (10, .v (.int .i64 (x0.length : Int))), (11, .v (.int .i64 0))] hp (by kernel_rfl) ?_
  refine RunL.done rfl (SemY.fr (l' := [(3, .e0), (9, .sl 1 (x0.map (cdL 1 (cdL 1 cdI)).enc)), (10, .v (.int .i64 (x0.length : Int))), (11, .v (.int .i64 0))]) (by kernel_rfl) ?_)
  refine SemY.block ?_
  have hT1 : T hp ((own_ (ocL 1 50 (ocL 1 31 (ocL 1 3 (ocV cdI)))) .e0 ([] : (List (List (List Int))))) :: L) := (T.e0 (o := (ocL 1 31 (ocL 1 3 (ocV cdI)))) hT)
  refine SemY.loop (n := 100000) ?_
  obtain ⟨r48, hr48, h⟩ := Option.bind_eq_some_iff.1 h
  refine SemYN.cutT (SemYN.wk WkY.f1 (evening_clone_d_1_ok x0 _ 0 ([] : (List (List (List Int)))) _ hr48 .e0 hp hT1)) ?_
  rintro _ ⟨e49, hp50, hT51, rfl⟩
  refine SemY.seq ?_
  refine SemY.regionL ?_
  refine RunL.segF (n := 33) e_evening_clone_d_ok 2 [(2, e49)] hp50 (by kernel_rfl) ?_
  refine RunL.done rfl (SemY.fr (l' := [(2, e49)]) (by kernel_rfl) ?_)
  refine SemY.ret ?_
  have hq := Option.some.inj h; subst hq
  exact ⟨⟨Fr 33 [(2, e49)], hp50⟩, WkY.f1, .inr rfl, [e49], (by kernel_rfl), ⟨e49, rfl, hT51⟩⟩
end Go.Proofs.YtcmgmkepodbpkaaDoor
