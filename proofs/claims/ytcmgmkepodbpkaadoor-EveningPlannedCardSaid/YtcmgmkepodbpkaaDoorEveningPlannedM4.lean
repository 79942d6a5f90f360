/- Lemmas for the proof. -/
import Derived.Test.YtcmgmkepodbpkaaDoorEveningPlannedM1
import Derived.Test.YtcmgmkepodbpkaaDoorEveningPlannedM2
import Derived.Test.YtcmgmkepodbpkaaDoorEveningPlannedM3
namespace Go.Proofs.YtcmgmkepodbpkaaDoor
open Go.RowKit
/- trestle/evening.Plan -/
noncomputable def e_evening_Plan : Env := ((E0.withX 67 t_evening_fit).withX 70 t_evening_choose)
theorem e_evening_Plan_ok : EnvOk e_evening_Plan := (EnvOk.withX (EnvOk.withX E0_ok x_evening_fit.1 x_evening_fit.2) x_evening_choose.1 x_evening_choose.2)
noncomputable def cb_evening_Plan : Code := codeOf Tryd.f21
noncomputable def e_evening_Plan_k1 : Env := E0
theorem e_evening_Plan_k1_ok : EnvOk e_evening_Plan_k1 := E0_ok
noncomputable def cb_evening_Plan_k1 : Code := codeOf Tryd.f68
def evening_Plan_k1 (y0 : Int) : Option (Int × Int × (List Int)) :=
  if (mkOk 8 (wr .i64 (y0 * y0))) = true then
  some (y0, y0, (List.replicate (wr .i64 (y0 * y0)).toNat (0 : Int)))
  else none
set_option maxHeartbeats 4000000 in
set_option maxRecDepth 100000 in
theorem evening_Plan_k1_sem (y0 : Int) (r : Int × Int × (List Int)) (h : evening_Plan_k1 y0 = some r) : SemY e_evening_Plan_k1 ⟨none, false⟩ cb_evening_Plan_k1 ⟨Fr 9 (pairs0 0 [.v (.int .i64 y0)]), []⟩ fun x s' => (x = .normal ∨ x = .ret) ∧ ∃ ys, resA e_evening_Plan_k1.P s'.fr s'.hp Tryd.f68.results.toList = some ys ∧ (retA ys = .ag [.v (.int .i64 r.1), .rf 1 0 r.2.2.length r.2.2.length] ∧ s'.hp = [some ⟨2, 94, [.ag [.v (.int .i64 r.2.1), .rf 1 0 r.2.2.length r.2.2.length]], false⟩, some ⟨1, 3, (r.2.2.map cdI.enc), false⟩]) := by
  unfold evening_Plan_k1 at h
  refine SemY.seq ?_
  refine SemY.region ?_
  refine RunY.segF (n := 9) e_evening_Plan_k1_ok 1 [(0, .v (.int .i64 y0)), (2, .pt 0 0 0)] [some ⟨2, 94, [.ag [.v (.int .i64 0), .e0]], false⟩] (by kernel_rfl) ?_
  refine RunY.done rfl (SemY.fr (l' := [(0, .v (.int .i64 y0)), (2, .pt 0 0 0)]) (by kernel_rfl) ?_)
  refine SemY.seq ?_
  refine SemY.region ?_
  refine RunY.segF (n := 9) e_evening_Plan_k1_ok 4 [(2, .pt 0 0 0), (3, .v (.int .i64 y0)), (6, .v (.int .i64 (wr .i64 (y0 * y0))))] [some ⟨2, 94, [.ag [.v (.int .i64 0), .e0]], false⟩] (by kernel_rfl) ?_
  by_cases hk1 : (mkOk 8 (wr .i64 (y0 * y0))) = true
  case neg => rw [if_neg hk1] at h; cases h
  rw [if_pos hk1] at h
  refine RunY.one e_evening_Plan_k1_ok 0 rfl (op_n (wantedA_none rfl) rfl (by kernel_rfl) (n_make (x := .v (.int .i64 (wr .i64 (y0 * y0)))) (y := .v (.int .i64 (wr .i64 (y0 * y0)))) (by kernel_rfl) (by kernel_rfl) (make_B (c := cdI) (z := (0 : Int)) (k := 1) (bytes := 8) (el := 3) (by kernel_rfl) (by kernel_rfl) hk1))) ?_
  refine RunY.segF (n := 9) e_evening_Plan_k1_ok 2 [(2, .pt 0 0 0)] [some ⟨2, 94, [.ag [.v (.int .i64 y0), .rf 1 0 (List.replicate (wr .i64 (y0 * y0)).toNat (0 : Int)).length (List.replicate (wr .i64 (y0 * y0)).toNat (0 : Int)).length]], false⟩, some ⟨1, 3, ((List.replicate (wr .i64 (y0 * y0)).toNat (0 : Int)).map cdI.enc), false⟩] (by kernel_rfl) ?_
  refine RunY.done rfl (SemY.fr (l' := [(2, .pt 0 0 0)]) (by kernel_rfl) ?_)
  refine SemY.ret ?_
  have hq := Option.some.inj h; subst hq
  exact ⟨.inr rfl, [.ag [.v (.int .i64 y0), .rf 1 0 (List.replicate (wr .i64 (y0 * y0)).toNat (0 : Int)).length (List.replicate (wr .i64 (y0 * y0)).toNat (0 : Int)).length]], (by kernel_rfl), (by kernel_rfl), (by kernel_rfl)⟩
def evening_Plan_3 (x0 : Int) (x1 : (List Int)) (x2 : Int) (v6 : Int × Int × (List Int)) (c97 : (List Int)) (c98 : (List (List (List Int)))) (c99 : Int) (c146 : (List (List Int))) (c147 : Int) (v149 : Int) : Nat → (List Int) → (List Int) → Int → Option (((List Int) × (List Int)))
  | 0, _, _, _ => none
  | f + 1, c168, c169, c170 =>
    if (decide (c170 < v149)) = true then
    (evening_choose (v6.1, c97) c169 c168).bind fun v172 =>
    (idx c168 v172).bind fun v173 =>
    if (capOk 8 (c169.length + 1)) = true then
    (del1 c168 v172 (wr .i64 (v172 + 1))).bind fun v175 =>
    evening_Plan_3 x0 x1 x2 v6 c97 c98 c99 c146 c147 v149 f v175 (c169 ++ [v173]) (wr .i64 (c170 + 1))
    else none
    else
    some (c168, c169)
def evening_Plan_2 (x0 : Int) (x1 : (List Int)) (x2 : Int) (v6 : Int × Int × (List Int)) (c97 : (List Int)) (c98 : (List (List (List Int)))) (c99 : Int) : Nat → (List Int) → (List (List Int)) → Int → Option (((List (List Int))))
  | 0, _, _, _ => none
  | f + 1, c145, c146, c147 =>
    if (decide (c147 < (x1.length : Int))) = true then
    (idx x1 c147).bind fun v149 =>
    (evening_Plan_3 x0 x1 x2 v6 c97 c98 c99 c146 c147 v149 100000 c145 [] 0).bind fun r178 =>
    if (capOk 24 (c146.length + 1)) = true then
    evening_Plan_2 x0 x1 x2 v6 c97 c98 c99 f r178.1 (c146 ++ [r178.2]) (wr .i64 (c147 + 1))
    else none
    else
    some c146
noncomputable def e_evening_Plan_k2 : Env := E0
theorem e_evening_Plan_k2_ok : EnvOk e_evening_Plan_k2 := E0_ok
noncomputable def cb_evening_Plan_k2 : Code := codeOf Tryd.f72
def evening_Plan_k2 (y0 : Int) (y1 : (List Int)) (y2 : (List (List (List Int)))) (y3 : (List (List Int))) : Option ((List (List Int))) :=
  some y3
set_option maxHeartbeats 4000000 in
set_option maxRecDepth 100000 in
theorem evening_Plan_k2_sem (y0 : Int) (y1 : (List Int)) (y2 : (List (List (List Int)))) (y3 : (List (List Int))) (r : (List (List Int))) (h : evening_Plan_k2 y0 y1 y2 y3 = some r) : SemY e_evening_Plan_k2 ⟨none, false⟩ cb_evening_Plan_k2 ⟨Fr 4 (pairs0 0 [.sl 1 (y3.map (cdL 1 cdI).enc)]), [some ⟨2, 94, [.ag [.v (.int .i64 y0), .rf 1 0 y1.length y1.length]], false⟩, some ⟨1, 3, (y1.map cdI.enc), false⟩, mk 1 50 (y2.map (cdL 1 (cdL 1 cdI)).enc), none]⟩ fun x s' => (x = .normal ∨ x = .ret) ∧ ∃ ys, resA e_evening_Plan_k2.P s'.fr s'.hp Tryd.f72.results.toList = some ys ∧ (retA ys = .fn 108 [] [.pt 4 0 0] ∧ s'.hp = [some ⟨2, 94, [.ag [.v (.int .i64 y0), .rf 1 0 y1.length y1.length]], false⟩, some ⟨1, 3, (y1.map cdI.enc), false⟩, mk 1 50 (y2.map (cdL 1 (cdL 1 cdI)).enc), none, some ⟨1, 50, [.sl 1 (r.map (cdL 1 cdI).enc)], false⟩]) := by
  unfold evening_Plan_k2 at h
  refine SemY.seq ?_
  refine SemY.region ?_
  refine RunY.segF (n := 4) e_evening_Plan_k2_ok 2 [(1, .pt 4 0 0)] [some ⟨2, 94, [.ag [.v (.int .i64 y0), .rf 1 0 y1.length y1.length]], false⟩, some ⟨1, 3, (y1.map cdI.enc), false⟩, mk 1 50 (y2.map (cdL 1 (cdL 1 cdI)).enc), none, some ⟨1, 50, [.sl 1 (y3.map (cdL 1 cdI).enc)], false⟩] (by kernel_rfl) ?_
  refine RunY.done rfl (SemY.fr (l' := [(1, .pt 4 0 0)]) (by kernel_rfl) ?_)
  refine SemY.seq ?_
  refine SemY.region ?_
  refine RunY.segF (n := 4) e_evening_Plan_k2_ok 2 [(2, .fn 108 [] [.pt 4 0 0])] [some ⟨2, 94, [.ag [.v (.int .i64 y0), .rf 1 0 y1.length y1.length]], false⟩, some ⟨1, 3, (y1.map cdI.enc), false⟩, mk 1 50 (y2.map (cdL 1 (cdL 1 cdI)).enc), none, some ⟨1, 50, [.sl 1 (y3.map (cdL 1 cdI).enc)], false⟩] (by kernel_rfl) ?_
  refine RunY.done rfl (SemY.fr (l' := [(2, .fn 108 [] [.pt 4 0 0])]) (by kernel_rfl) ?_)
  refine SemY.ret ?_
  have hq := Option.some.inj h; subst hq
  exact ⟨.inr rfl, [.fn 108 [] [.pt 4 0 0]], (by kernel_rfl), (by kernel_rfl), (by kernel_rfl)⟩
noncomputable def e_evening_Plan_k3 : Env := E0
theorem e_evening_Plan_k3_ok : EnvOk e_evening_Plan_k3 := E0_ok
noncomputable def cb_evening_Plan_k3 : Code := codeOf Tryd.f108
noncomputable def cx_evening_Plan_k3 (y2 : (List (List (List Int)))) (y4 : Int) (y5 : (List Int)) (y6 : (List (List Int))) (y7 : Int) (y8 : Int) : Cx := ⟨some ⟨4, Fr 86 [(0, .v (.int .i64 y4)), (1, .sl 1 (y5.map cdI.enc)), (8, .pt 0 0 0), (9, hd 2 (y2.map (cdL 1 (cdL 1 cdI)).enc)), (11, .sl 1 (y6.map (cdL 1 cdI).enc)), (32, .v (.int .i64 y7)), (33, .v (.int .i64 y8)), (69, .fn 108 [] [.pt 3 0 0])], [70, 71], asgOf (pc cb_evening_Plan [1, 1, 1, 1, 0, 1, 0, 0, 1, 1, 0, 0, 1, 1, 1, 0, 1, 0]), bdyOf (pc cb_evening_Plan [1, 1, 1, 1, 0, 1, 0, 0, 1, 1, 0, 0, 1, 1, 1, 0, 1, 0])⟩, false⟩
noncomputable def e_evening_Plan_k3_y_k1 : Env := E0
theorem e_evening_Plan_k3_y_k1_ok : EnvOk e_evening_Plan_k3_y_k1 := E0_ok
noncomputable def cb_evening_Plan_k3_y_k1 : Code := codeOf Tryd.f73
def evening_Plan_k3_y_k1 (y0 : Int) (y1 : (List Int)) (y2 : (List (List (List Int)))) (y3 : (List (List Int))) (y4 : Int) (y5 : Int) (y6 : Int) : Option (Int) :=
  (idx y1 (wr .i64 ((wr .i64 (y5 * y4)) + y6))).bind fun v1 =>
  some y4
set_option maxHeartbeats 4000000 in
set_option maxRecDepth 100000 in
theorem evening_Plan_k3_y_k1_sem (y0 : Int) (y1 : (List Int)) (y2 : (List (List (List Int)))) (y3 : (List (List Int))) (y4 : Int) (y5 : Int) (y6 : Int) (r : Int) (h : evening_Plan_k3_y_k1 y0 y1 y2 y3 y4 y5 y6 = some r) : SemY e_evening_Plan_k3_y_k1 ⟨none, false⟩ cb_evening_Plan_k3_y_k1 ⟨Fr 16 (pairs0 0 [.ag [.v (.int .i64 y4), .rf 1 0 y1.length y1.length], .v (.int .i64 y5), .v (.int .i64 y6)]), [some ⟨2, 94, [.ag [.v (.int .i64 y0), .rf 1 0 y1.length y1.length]], false⟩, some ⟨1, 3, (y1.map cdI.enc), false⟩, mk 1 50 (y2.map (cdL 1 (cdL 1 cdI)).enc), some ⟨1, 50, [.sl 1 (y3.map (cdL 1 cdI).enc)], false⟩, none]⟩ fun x s' => (x = .normal ∨ x = .ret) ∧ ∃ ys, resA e_evening_Plan_k3_y_k1.P s'.fr s'.hp Tryd.f73.results.toList = some ys ∧ (retA ys = .pt 1 ((wr .i64 ((wr .i64 (y5 * y4)) + y6)).toNat) 0 ∧ s'.hp = [some ⟨2, 94, [.ag [.v (.int .i64 y0), .rf 1 0 y1.length y1.length]], false⟩, some ⟨1, 3, (y1.map cdI.enc), false⟩, mk 1 50 (y2.map (cdL 1 (cdL 1 cdI)).enc), some ⟨1, 50, [.sl 1 (y3.map (cdL 1 cdI).enc)], false⟩, none, some ⟨2, 94, [.ag [.v (.int .i64 r), .rf 1 0 y1.length y1.length]], false⟩]) := by
  unfold evening_Plan_k3_y_k1 at h
  refine SemY.seq ?_
  refine SemY.region ?_
  refine RunY.segF (n := 16) e_evening_Plan_k3_y_k1_ok 2 [(1, .v (.int .i64 y5)), (2, .v (.int .i64 y6)), (3, .pt 5 0 0)] [some ⟨2, 94, [.ag [.v (.int .i64 y0), .rf 1 0 y1.length y1.length]], false⟩, some ⟨1, 3, (y1.map cdI.enc), false⟩, mk 1 50 (y2.map (cdL 1 (cdL 1 cdI)).enc), some ⟨1, 50, [.sl 1 (y3.map (cdL 1 cdI).enc)], false⟩, none, some ⟨2, 94, [.ag [.v (.int .i64 y4), .rf 1 0 y1.length y1.length]], false⟩] (by kernel_rfl) ?_
  refine RunY.done rfl (SemY.fr (l' := [(1, .v (.int .i64 y5)), (2, .v (.int .i64 y6)), (3, .pt 5 0 0)]) (by kernel_rfl) ?_)
  refine SemY.seq ?_
  refine SemY.region ?_
  refine RunY.segF (n := 16) e_evening_Plan_k3_y_k1_ok 8 [(8, .rf 1 0 y1.length y1.length), (14, .v (.int .i64 (wr .i64 ((wr .i64 (y5 * y4)) + y6))))] [some ⟨2, 94, [.ag [.v (.int .i64 y0), .rf 1 0 y1.length y1.length]], false⟩, some ⟨1, 3, (y1.map cdI.enc), false⟩, mk 1 50 (y2.map (cdL 1 (cdL 1 cdI)).enc), some ⟨1, 50, [.sl 1 (y3.map (cdL 1 cdI).enc)], false⟩, none, some ⟨2, 94, [.ag [.v (.int .i64 y4), .rf 1 0 y1.length y1.length]], false⟩] (by kernel_rfl) ?_
  obtain ⟨v1, hv1, h⟩ := Option.bind_eq_some_iff.1 h
  refine RunY.one e_evening_Plan_k3_y_k1_ok 0 rfl (op_q (wantedA_none rfl) rfl (q_indexAddr (a := .rf 1 0 y1.length y1.length) (b := .v (.int .i64 (wr .i64 ((wr .i64 (y5 * y4)) + y6)))) (by kernel_rfl) (by kernel_rfl) (ix_rl (e := cdI.enc) (xs := y1) (t' := 3) (el := 3) (k := 1) (ki := .i64) (by kernel_rfl) (by kernel_rfl) (by kernel_rfl) hv1))) ?_
  refine RunY.segF (n := 16) e_evening_Plan_k3_y_k1_ok 1 [(6, .pt 1 ((wr .i64 ((wr .i64 (y5 * y4)) + y6)).toNat) 0)] [some ⟨2, 94, [.ag [.v (.int .i64 y0), .rf 1 0 y1.length y1.length]], false⟩, some ⟨1, 3, (y1.map cdI.enc), false⟩, mk 1 50 (y2.map (cdL 1 (cdL 1 cdI)).enc), some ⟨1, 50, [.sl 1 (y3.map (cdL 1 cdI).enc)], false⟩, none, some ⟨2, 94, [.ag [.v (.int .i64 y4), .rf 1 0 y1.length y1.length]], false⟩] (by kernel_rfl) ?_
  refine RunY.done rfl (SemY.fr (l' := [(6, .pt 1 ((wr .i64 ((wr .i64 (y5 * y4)) + y6)).toNat) 0)]) (by kernel_rfl) ?_)
  refine SemY.ret ?_
  have hq := Option.some.inj h; subst hq
  exact ⟨.inr rfl, [.pt 1 ((wr .i64 ((wr .i64 (y5 * y4)) + y6)).toNat) 0], (by kernel_rfl), (by kernel_rfl), (by kernel_rfl)⟩
def evening_Plan_k3_y (y0 : Int) (y1 : (List Int)) (y2 : (List (List (List Int)))) (y3 : (List (List Int))) (y4 : Int) (y5 : (List Int)) (y6 : (List (List Int))) (y7 : Int) (y8 : Int) (y9 : Int) (y10 : Int) : Option ((List Int)) :=
  (evening_Plan_k3_y_k1 y0 y1 y2 y3 y0 y9 y10).bind fun v1 =>
  (idx y1 (wr .i64 ((wr .i64 (y9 * y0)) + y10))).bind fun v2 =>
  some (y1.set ((wr .i64 ((wr .i64 (y9 * y0)) + y10)).toNat) (wr .i64 (v2 + 1)))
set_option maxHeartbeats 4000000 in
set_option maxRecDepth 100000 in
theorem evening_Plan_k3_y_sem (y0 : Int) (y1 : (List Int)) (y2 : (List (List (List Int)))) (y3 : (List (List Int))) (y4 : Int) (y5 : (List Int)) (y6 : (List (List Int))) (y7 : Int) (y8 : Int) (y9 : Int) (y10 : Int) (r : (List Int)) (h : evening_Plan_k3_y y0 y1 y2 y3 y4 y5 y6 y7 y8 y9 y10 = some r) : SemY e_evening_Plan ⟨none, true⟩ (asgOf (pc cb_evening_Plan [1, 1, 1, 1, 0, 1, 0, 0, 1, 1, 0, 0, 1, 1, 1, 0, 1, 0])) ⟨Fr 86 [(71, .v (.int .i64 y10)), (70, .v (.int .i64 y9)), (0, .v (.int .i64 y4)), (1, .sl 1 (y5.map cdI.enc)), (8, .pt 0 0 0), (9, hd 2 (y2.map (cdL 1 (cdL 1 cdI)).enc)), (11, .sl 1 (y6.map (cdL 1 cdI).enc)), (32, .v (.int .i64 y7)), (33, .v (.int .i64 y8)), (69, .fn 108 [] [.pt 3 0 0])], [some ⟨2, 94, [.ag [.v (.int .i64 y0), .rf 1 0 y1.length y1.length]], false⟩, some ⟨1, 3, (y1.map cdI.enc), false⟩, mk 1 50 (y2.map (cdL 1 (cdL 1 cdI)).enc), some ⟨1, 50, [.sl 1 (y3.map (cdL 1 cdI).enc)], false⟩, none]⟩ fun e s1 => e = .normal ∧ SemY e_evening_Plan ⟨none, true⟩ (bdyOf (pc cb_evening_Plan [1, 1, 1, 1, 0, 1, 0, 0, 1, 1, 0, 0, 1, 1, 1, 0, 1, 0])) s1 fun e s2 => e = .normal ∧ s2.hp = [some ⟨2, 94, [.ag [.v (.int .i64 y0), .rf 1 0 r.length r.length]], false⟩, some ⟨1, 3, (r.map cdI.enc), false⟩, mk 1 50 (y2.map (cdL 1 (cdL 1 cdI)).enc), some ⟨1, 50, [.sl 1 (y3.map (cdL 1 cdI).enc)], false⟩, none] := by
  unfold evening_Plan_k3_y at h
  refine SemY.seq ?_
  refine SemY.region ?_
  refine RunY.segF (n := 86) e_evening_Plan_ok 1 [(8, .pt 0 0 0), (16, .v (.int .i64 y9)), (71, .v (.int .i64 y10))] [some ⟨2, 94, [.ag [.v (.int .i64 y0), .rf 1 0 y1.length y1.length]], false⟩, some ⟨1, 3, (y1.map cdI.enc), false⟩, mk 1 50 (y2.map (cdL 1 (cdL 1 cdI)).enc), some ⟨1, 50, [.sl 1 (y3.map (cdL 1 cdI).enc)], false⟩, none] (by kernel_rfl) ?_
  refine RunY.done rfl (SemY.fr (l' := [(8, .pt 0 0 0), (16, .v (.int .i64 y9)), (71, .v (.int .i64 y10))]) (by kernel_rfl) ?_)
  refine SemY.region ?_
  refine RunY.segF (n := 86) e_evening_Plan_ok 1 [(8, .pt 0 0 0), (16, .v (.int .i64 y9)), (17, .v (.int .i64 y10))] [some ⟨2, 94, [.ag [.v (.int .i64 y0), .rf 1 0 y1.length y1.length]], false⟩, some ⟨1, 3, (y1.map cdI.enc), false⟩, mk 1 50 (y2.map (cdL 1 (cdL 1 cdI)).enc), some ⟨1, 50, [.sl 1 (y3.map (cdL 1 cdI).enc)], false⟩, none] (by kernel_rfl) ?_
  refine RunY.done rfl ?_
  refine ⟨rfl, ?_⟩
  refine SemY.block ?_
  refine SemY.region ?_
  refine RunY.segF (n := 86) e_evening_Plan_ok 3 [(72, .ag [.v (.int .i64 y0), .rf 1 0 y1.length y1.length]), (73, .v (.int .i64 y9)), (74, .v (.int .i64 y10))] [some ⟨2, 94, [.ag [.v (.int .i64 y0), .rf 1 0 y1.length y1.length]], false⟩, some ⟨1, 3, (y1.map cdI.enc), false⟩, mk 1 50 (y2.map (cdL 1 (cdL 1 cdI)).enc), some ⟨1, 50, [.sl 1 (y3.map (cdL 1 cdI).enc)], false⟩, none] (by kernel_rfl) ?_
  obtain ⟨v1, hv1, h⟩ := Option.bind_eq_some_iff.1 h
  obtain ⟨v2, hv2, h⟩ := Option.bind_eq_some_iff.1 h
  refine RunY.inl (fid := 73) (caps := []) (xs := [.ag [.v (.int .i64 y0), .rf 1 0 y1.length y1.length], .v (.int .i64 y9), .v (.int .i64 y10)]) (fn := Tryd.f73) (Out := fun x h' => x = .pt 1 ((wr .i64 ((wr .i64 (y9 * y0)) + y10)).toNat) 0 ∧ h' = [some ⟨2, 94, [.ag [.v (.int .i64 y0), .rf 1 0 y1.length y1.length]], false⟩, some ⟨1, 3, (y1.map cdI.enc), false⟩, mk 1 50 (y2.map (cdL 1 (cdL 1 cdI)).enc), some ⟨1, 50, [.sl 1 (y3.map (cdL 1 cdI).enc)], false⟩, none, some ⟨2, 94, [.ag [.v (.int .i64 v1), .rf 1 0 y1.length y1.length]], false⟩]) rfl rfl e_evening_Plan_k3_y_k1_ok rfl rfl 5 (by kernel_rfl) rfl (wantedA_none rfl) (by kernel_rfl) (by kernel_rfl) (by kernel_rfl) (by kernel_rfl) (by show 3 ≤ 16; decide) (evening_Plan_k3_y_k1_sem y0 y1 y2 y3 y0 y9 y10 _ hv1) ?_
  rintro x h' ⟨rfl, rfl⟩
  refine ⟨[some ⟨2, 94, [.ag [.v (.int .i64 y0), .rf 1 0 y1.length y1.length]], false⟩, some ⟨1, 3, (y1.map cdI.enc), false⟩, mk 1 50 (y2.map (cdL 1 (cdL 1 cdI)).enc), some ⟨1, 50, [.sl 1 (y3.map (cdL 1 cdI).enc)], false⟩, none], by kernel_rfl, ⟨⟨_, rfl, bu_d⟩, ⟨_, rfl, bu_own⟩, ⟨_, rfl, bu_mk⟩, ⟨_, rfl, bu_d⟩, ⟨_, rfl, bu_none⟩, trivial⟩, ⟨by kernel_rfl, by kernel_rfl⟩, ?_⟩
  refine RunY.segF (n := 86) e_evening_Plan_ok 1 [(75, .pt 1 ((wr .i64 ((wr .i64 (y9 * y0)) + y10)).toNat) 0), (76, .pt 1 ((wr .i64 ((wr .i64 (y9 * y0)) + y10)).toNat) 0)] [some ⟨2, 94, [.ag [.v (.int .i64 y0), .rf 1 0 y1.length y1.length]], false⟩, some ⟨1, 3, (y1.map cdI.enc), false⟩, mk 1 50 (y2.map (cdL 1 (cdL 1 cdI)).enc), some ⟨1, 50, [.sl 1 (y3.map (cdL 1 cdI).enc)], false⟩, none] (by kernel_rfl) ?_
  refine RunY.one e_evening_Plan_ok 0 rfl (op_q (wantedA_none rfl) rfl (q_load (p := .pt 1 ((wr .i64 ((wr .i64 (y9 * y0)) + y10)).toNat) 0) (by kernel_rfl) (ld_blk (B := ⟨1, 3, (y1.map cdI.enc), false⟩) (m := 1) (g := false) (e := cdI.enc) (xs := y1) (by kernel_rfl) (by kernel_rfl) (by kernel_rfl) rfl (idx_at hv2).2 (by kernel_rfl)))) ?_
  refine RunY.segF (n := 86) e_evening_Plan_ok 2 [(78, .v (.int .i64 (wr .i64 (v2 + 1)))), (79, .pt 1 ((wr .i64 ((wr .i64 (y9 * y0)) + y10)).toNat) 0)] [some ⟨2, 94, [.ag [.v (.int .i64 y0), .rf 1 0 y1.length y1.length]], false⟩, some ⟨1, 3, (y1.map cdI.enc), false⟩, mk 1 50 (y2.map (cdL 1 (cdL 1 cdI)).enc), some ⟨1, 50, [.sl 1 (y3.map (cdL 1 cdI).enc)], false⟩, none] (by kernel_rfl) ?_
  refine RunY.store e_evening_Plan_ok (y := .pt 1 ((wr .i64 ((wr .i64 (y9 * y0)) + y10)).toNat) 0) (z := .v (.int .i64 (wr .i64 (v2 + 1)))) rfl (wantedA_none rfl) (by kernel_rfl) (by kernel_rfl) (st_blk (t' := 3) (k := 1) (e := cdI.enc) (xs := y1) (v := v2) (v' := (wr .i64 (v2 + 1))) (by kernel_rfl) (idx_at hv2).2 (by kernel_rfl) (by kernel_rfl) (by kernel_rfl)) ?_
  refine RunY.done rfl ?_
  have hq := Option.some.inj h; subst hq
  exact ⟨rfl, Eq.trans (b := [some ⟨2, 94, [.ag [.v (.int .i64 y0), .rf 1 0 y1.length y1.length]], false⟩, some ⟨1, 3, ((y1.set ((wr .i64 ((wr .i64 (y9 * y0)) + y10)).toNat) (wr .i64 (v2 + 1))).map cdI.enc), false⟩, mk 1 50 (y2.map (cdL 1 (cdL 1 cdI)).enc), some ⟨1, 50, [.sl 1 (y3.map (cdL 1 cdI).enc)], false⟩, none]) (by kernel_rfl) (by simp only [List.length_set])⟩
def evening_Plan_k3_3 (y0 : Int) (y2 : (List (List (List Int)))) (y3 : (List (List Int))) (y4 : Int) (y5 : (List Int)) (y6 : (List (List Int))) (y7 : Int) (y8 : Int) (c186 : Int) (v189 : (List Int)) (c222 : Int) (v225 : Int) : Nat → Int → (List Int) → Option (((List Int)))
  | 0, _, _ => none
  | f + 1, c239, c240 =>
    if (decide (c239 < (v189.length : Int))) = true then
    (idx v189 c239).bind fun v242 =>
    if (c222 != c239) = true then
    (evening_Plan_k3_y y0 c240 y2 y3 y4 y5 y6 y7 y8 v225 v242).bind fun v243 =>
    evening_Plan_k3_3 y0 y2 y3 y4 y5 y6 y7 y8 c186 v189 c222 v225 f (wr .i64 (c239 + 1)) v243
    else
    evening_Plan_k3_3 y0 y2 y3 y4 y5 y6 y7 y8 c186 v189 c222 v225 f (wr .i64 (c239 + 1)) c240
    else
    some c240
def evening_Plan_k3_2 (y0 : Int) (y2 : (List (List (List Int)))) (y3 : (List (List Int))) (y4 : Int) (y5 : (List Int)) (y6 : (List (List Int))) (y7 : Int) (y8 : Int) (c186 : Int) (v189 : (List Int)) : Nat → Int → (List Int) → Option (((List Int)))
  | 0, _, _ => none
  | f + 1, c222, c223 =>
    if (decide (c222 < (v189.length : Int))) = true then
    (idx v189 c222).bind fun v225 =>
    (evening_Plan_k3_3 y0 y2 y3 y4 y5 y6 y7 y8 c186 v189 c222 v225 100000 0 c223).bind fun r246 =>
    evening_Plan_k3_2 y0 y2 y3 y4 y5 y6 y7 y8 c186 v189 f (wr .i64 (c222 + 1)) r246
    else
    some c223
def evening_Plan_k3_1 (y0 : Int) (y2 : (List (List (List Int)))) (y3 : (List (List Int))) (y4 : Int) (y5 : (List Int)) (y6 : (List (List Int))) (y7 : Int) (y8 : Int) : Nat → Int → (List Int) → Option (((List Int)))
  | 0, _, _ => none
  | f + 1, c186, c187 =>
    if (decide (c186 < (y3.length : Int))) = true then
    (idx y3 c186).bind fun v189 =>
    (evening_Plan_k3_2 y0 y2 y3 y4 y5 y6 y7 y8 c186 v189 100000 0 c187).bind fun r248 =>
    evening_Plan_k3_1 y0 y2 y3 y4 y5 y6 y7 y8 f (wr .i64 (c186 + 1)) r248
    else
    some c187
def evening_Plan_k3 (y0 : Int) (y1 : (List Int)) (y2 : (List (List (List Int)))) (y3 : (List (List Int))) (y4 : Int) (y5 : (List Int)) (y6 : (List (List Int))) (y7 : Int) (y8 : Int) : Option ((List Int)) :=
  (evening_Plan_k3_1 y0 y2 y3 y4 y5 y6 y7 y8 100000 0 y1).bind fun r250 =>
  some r250
set_option maxHeartbeats 4000000 in
set_option maxRecDepth 100000 in
theorem evening_Plan_k3_3_ok (y0 : Int) (y2 : (List (List (List Int)))) (y3 : (List (List Int))) (y4 : Int) (y5 : (List Int)) (y6 : (List (List Int))) (y7 : Int) (y8 : Int) (c186 : Int) (v189 : (List Int)) (c222 : Int) (v225 : Int) : ∀ (f : Nat) (c239 : Int) (c240 : (List Int)) (r : ((List Int))), evening_Plan_k3_3 y0 y2 y3 y4 y5 y6 y7 y8 c186 v189 c222 v225 f c239 c240 = some r → SemYN e_evening_Plan_k3 (cx_evening_Plan_k3 y2 y4 y5 y6 y7 y8) (pc cb_evening_Plan_k3 [1, 0, 0, 1, 1, 0, 0, 1, 1, 0, 0, 1, 1, 0, 0, 1, 1, 0, 0]) f ⟨Fr 42 [(0, .yl 4), (4, .sl 1 (v189.map cdI.enc)), (5, .v (.int .i64 c222)), (6, .v (.int .i64 v225)), (9, .sl 1 (y3.map (cdL 1 cdI).enc)), (10, .v (.int .i64 (y3.length : Int))), (11, .v (.int .i64 c186)), (15, .sl 1 (v189.map cdI.enc)), (16, .v (.int .i64 (v189.length : Int))), (17, .v (.int .i64 c222)), (22, .sl 1 (v189.map cdI.enc)), (23, .v (.int .i64 (v189.length : Int))), (24, .v (.int .i64 c239))], [some ⟨2, 94, [.ag [.v (.int .i64 y0), .rf 1 0 c240.length c240.length]], false⟩, some ⟨1, 3, (c240.map cdI.enc), false⟩, mk 1 50 (y2.map (cdL 1 (cdL 1 cdI)).enc), some ⟨1, 50, [.sl 1 (y3.map (cdL 1 cdI).enc)], false⟩, none]⟩ (fun e s => e = (.exit 4) ∧ WkY e_evening_Plan_k3 s ⟨Fr 42 [(0, .yl 4), (4, .sl 1 (v189.map cdI.enc)), (9, .sl 1 (y3.map (cdL 1 cdI).enc)), (10, .v (.int .i64 (y3.length : Int))), (11, .v (.int .i64 c186)), (15, .sl 1 (v189.map cdI.enc)), (16, .v (.int .i64 (v189.length : Int))), (17, .v (.int .i64 c222))], [some ⟨2, 94, [.ag [.v (.int .i64 y0), .rf 1 0 r.length r.length]], false⟩, some ⟨1, 3, (r.map cdI.enc), false⟩, mk 1 50 (y2.map (cdL 1 (cdL 1 cdI)).enc), some ⟨1, 50, [.sl 1 (y3.map (cdL 1 cdI).enc)], false⟩, none]⟩) := by
  intro f
  induction f with
  | zero => intro c239 c240 r h; cases h
  | succ f ih0 =>
    intro c239 c240 r h
    have ih := fun (c239 : Int) (c240 : (List Int)) => ih0 c239 c240 r
    unfold evening_Plan_k3_3 at h
    refine SemYN.succ ?_
    refine SemY.seq ?_
    refine SemY.region ?_
    refine RunY.segF (n := 42) e_evening_Plan_k3_ok 1 [(0, .yl 4), (4, .sl 1 (v189.map cdI.enc)), (5, .v (.int .i64 c222)), (6, .v (.int .i64 v225)), (9, .sl 1 (y3.map (cdL 1 cdI).enc)), (10, .v (.int .i64 (y3.length : Int))), (11, .v (.int .i64 c186)), (15, .sl 1 (v189.map cdI.enc)), (16, .v (.int .i64 (v189.length : Int))), (17, .v (.int .i64 c222)), (22, .sl 1 (v189.map cdI.enc)), (23, .v (.int .i64 (v189.length : Int))), (24, .v (.int .i64 c239)), (25, .v (.bool (decide (c239 < (v189.length : Int)))))] [some ⟨2, 94, [.ag [.v (.int .i64 y0), .rf 1 0 c240.length c240.length]], false⟩, some ⟨1, 3, (c240.map cdI.enc), false⟩, mk 1 50 (y2.map (cdL 1 (cdL 1 cdI)).enc), some ⟨1, 50, [.sl 1 (y3.map (cdL 1 cdI).enc)], false⟩, none] (by kernel_rfl) ?_
    refine RunY.done rfl (SemY.fr (l' := [(0, .yl 4), (4, .sl 1 (v189.map cdI.enc)), (5, .v (.int .i64 c222)), (6, .v (.int .i64 v225)), (9, .sl 1 (y3.map (cdL 1 cdI).enc)), (10, .v (.int .i64 (y3.length : Int))), (11, .v (.int .i64 c186)), (15, .sl 1 (v189.map cdI.enc)), (16, .v (.int .i64 (v189.length : Int))), (17, .v (.int .i64 c222)), (22, .sl 1 (v189.map cdI.enc)), (23, .v (.int .i64 (v189.length : Int))), (24, .v (.int .i64 c239)), (25, .v (.bool (decide (c239 < (v189.length : Int)))))]) (by kernel_rfl) ?_)
    refine SemY.seq ?_
    refine SemY.cond (b := (decide (c239 < (v189.length : Int)))) (by kernel_rfl) (fun hb241 => ?_) (fun hb241 => ?_)
    · rw [if_pos hb241] at h
      refine SemY.skip ?_
      refine SemY.seq ?_
      refine SemY.block ?_
      refine SemY.seq ?_
      refine SemY.region ?_
      refine RunY.segF (n := 42) e_evening_Plan_k3_ok 1 [(0, .yl 4), (4, .sl 1 (v189.map cdI.enc)), (5, .v (.int .i64 c222)), (6, .v (.int .i64 v225)), (9, .sl 1 (y3.map (cdL 1 cdI).enc)), (10, .v (.int .i64 (y3.length : Int))), (11, .v (.int .i64 c186)), (15, .sl 1 (v189.map cdI.enc)), (16, .v (.int .i64 (v189.length : Int))), (17, .v (.int .i64 c222)), (22, .sl 1 (v189.map cdI.enc)), (23, .v (.int .i64 (v189.length : Int))), (24, .v (.int .i64 c239)), (26, .v (.int .i64 c239))] [some ⟨2, 94, [.ag [.v (.int .i64 y0), .rf 1 0 c240.length c240.length]], false⟩, some ⟨1, 3, (c240.map cdI.enc), false⟩, mk 1 50 (y2.map (cdL 1 (cdL 1 cdI)).enc), some ⟨1, 50, [.sl 1 (y3.map (cdL 1 cdI).enc)], false⟩, none] (by kernel_rfl) ?_
      obtain ⟨v242, hv242, h⟩ := Option.bind_eq_some_iff.1 h
      refine RunY.one e_evening_Plan_k3_ok 0 rfl (op_q (wantedA_none rfl) rfl (q_indexAddr (a := .sl 1 (v189.map cdI.enc)) (b := .v (.int .i64 c239)) (by kernel_rfl) (by kernel_rfl) (ix_sl (e := cdI.enc) (el := 3) (k := 1) (ki := .i64) (by kernel_rfl) (by kernel_rfl) hv242))) ?_
      refine RunY.segF (n := 42) e_evening_Plan_k3_ok 3 [(0, .yl 4), (4, .sl 1 (v189.map cdI.enc)), (5, .v (.int .i64 c222)), (6, .v (.int .i64 v225)), (7, .v (.int .i64 c239)), (8, .v (.int .i64 v242)), (9, .sl 1 (y3.map (cdL 1 cdI).enc)), (10, .v (.int .i64 (y3.length : Int))), (11, .v (.int .i64 c186)), (15, .sl 1 (v189.map cdI.enc)), (16, .v (.int .i64 (v189.length : Int))), (17, .v (.int .i64 c222)), (22, .sl 1 (v189.map cdI.enc)), (23, .v (.int .i64 (v189.length : Int))), (24, .v (.int .i64 c239))] [some ⟨2, 94, [.ag [.v (.int .i64 y0), .rf 1 0 c240.length c240.length]], false⟩, some ⟨1, 3, (c240.map cdI.enc), false⟩, mk 1 50 (y2.map (cdL 1 (cdL 1 cdI)).enc), some ⟨1, 50, [.sl 1 (y3.map (cdL 1 cdI).enc)], false⟩, none] (by kernel_rfl) ?_
      refine RunY.done rfl (SemY.fr (l' := [(0, .yl 4), (4, .sl 1 (v189.map cdI.enc)), (5, .v (.int .i64 c222)), (6, .v (.int .i64 v225)), (7, .v (.int .i64 c239)), (8, .v (.int .i64 v242)), (9, .sl 1 (y3.map (cdL 1 cdI).enc)), (10, .v (.int .i64 (y3.length : Int))), (11, .v (.int .i64 c186)), (15, .sl 1 (v189.map cdI.enc)), (16, .v (.int .i64 (v189.length : Int))), (17, .v (.int .i64 c222)), (22, .sl 1 (v189.map cdI.enc)), (23, .v (.int .i64 (v189.length : Int))), (24, .v (.int .i64 c239))]) (by kernel_rfl) ?_)
      refine SemY.seq ?_
      refine SemY.region ?_
      refine RunY.segF (n := 42) e_evening_Plan_k3_ok 4 [(0, .yl 4), (4, .sl 1 (v189.map cdI.enc)), (5, .v (.int .i64 c222)), (6, .v (.int .i64 v225)), (8, .v (.int .i64 v242)), (9, .sl 1 (y3.map (cdL 1 cdI).enc)), (10, .v (.int .i64 (y3.length : Int))), (11, .v (.int .i64 c186)), (15, .sl 1 (v189.map cdI.enc)), (16, .v (.int .i64 (v189.length : Int))), (17, .v (.int .i64 c222)), (22, .sl 1 (v189.map cdI.enc)), (23, .v (.int .i64 (v189.length : Int))), (24, .v (.int .i64 c239)), (32, .v (.bool (c222 != c239)))] [some ⟨2, 94, [.ag [.v (.int .i64 y0), .rf 1 0 c240.length c240.length]], false⟩, some ⟨1, 3, (c240.map cdI.enc), false⟩, mk 1 50 (y2.map (cdL 1 (cdL 1 cdI)).enc), some ⟨1, 50, [.sl 1 (y3.map (cdL 1 cdI).enc)], false⟩, none] (by kernel_rfl) ?_
      rcases Bool.eq_false_or_eq_true (c222 != c239) with hc244 | hc244
      · rw [if_pos hc244] at h
        rw [hc244]
        refine RunY.segF (n := 42) e_evening_Plan_k3_ok 3 [(0, .yl 4), (4, .sl 1 (v189.map cdI.enc)), (5, .v (.int .i64 c222)), (6, .v (.int .i64 v225)), (9, .sl 1 (y3.map (cdL 1 cdI).enc)), (10, .v (.int .i64 (y3.length : Int))), (11, .v (.int .i64 c186)), (15, .sl 1 (v189.map cdI.enc)), (16, .v (.int .i64 (v189.length : Int))), (17, .v (.int .i64 c222)), (22, .sl 1 (v189.map cdI.enc)), (23, .v (.int .i64 (v189.length : Int))), (24, .v (.int .i64 c239)), (32, .v (.bool true)), (33, .yl 4), (34, .v (.int .i64 v225)), (35, .v (.int .i64 v242))] [some ⟨2, 94, [.ag [.v (.int .i64 y0), .rf 1 0 c240.length c240.length]], false⟩, some ⟨1, 3, (c240.map cdI.enc), false⟩, mk 1 50 (y2.map (cdL 1 (cdL 1 cdI)).enc), some ⟨1, 50, [.sl 1 (y3.map (cdL 1 cdI).enc)], false⟩, none] (by kernel_rfl) ?_
        obtain ⟨v243, hv243, h⟩ := Option.bind_eq_some_iff.1 h
        refine RunY.yield (K1 := fun h' => h' = [some ⟨2, 94, [.ag [.v (.int .i64 y0), .rf 1 0 v243.length v243.length]], false⟩, some ⟨1, 3, (v243.map cdI.enc), false⟩, mk 1 50 (y2.map (cdL 1 (cdL 1 cdI)).enc), some ⟨1, 50, [.sl 1 (y3.map (cdL 1 cdI).enc)], false⟩, none]) rfl rfl (eb := e_evening_Plan) rfl rfl rfl rfl rfl (by kernel_rfl) (by kernel_rfl) (xs := [.v (.int .i64 v225), .v (.int .i64 v242)]) (by kernel_rfl) rfl rfl (evening_Plan_k3_y_sem y0 c240 y2 y3 y4 y5 y6 y7 y8 v225 v242 _ hv243) ?_
        rintro h' rfl
        refine RunY.segF (n := 42) e_evening_Plan_k3_ok 2 [(0, .yl 4), (4, .sl 1 (v189.map cdI.enc)), (5, .v (.int .i64 c222)), (6, .v (.int .i64 v225)), (9, .sl 1 (y3.map (cdL 1 cdI).enc)), (10, .v (.int .i64 (y3.length : Int))), (11, .v (.int .i64 c186)), (15, .sl 1 (v189.map cdI.enc)), (16, .v (.int .i64 (v189.length : Int))), (17, .v (.int .i64 c222)), (22, .sl 1 (v189.map cdI.enc)), (23, .v (.int .i64 (v189.length : Int))), (24, .v (.int .i64 c239)), (33, .yl 4), (34, .v (.int .i64 v225)), (35, .v (.int .i64 v242)), (36, .v (.bool true)), (37, .v (.bool false)), (38, .v (.bool false))] [some ⟨2, 94, [.ag [.v (.int .i64 y0), .rf 1 0 v243.length v243.length]], false⟩, some ⟨1, 3, (v243.map cdI.enc), false⟩, mk 1 50 (y2.map (cdL 1 (cdL 1 cdI)).enc), some ⟨1, 50, [.sl 1 (y3.map (cdL 1 cdI).enc)], false⟩, none] (by kernel_rfl) ?_
        refine RunY.done rfl (SemY.fr (l' := [(0, .yl 4), (4, .sl 1 (v189.map cdI.enc)), (5, .v (.int .i64 c222)), (6, .v (.int .i64 v225)), (9, .sl 1 (y3.map (cdL 1 cdI).enc)), (10, .v (.int .i64 (y3.length : Int))), (11, .v (.int .i64 c186)), (15, .sl 1 (v189.map cdI.enc)), (16, .v (.int .i64 (v189.length : Int))), (17, .v (.int .i64 c222)), (22, .sl 1 (v189.map cdI.enc)), (23, .v (.int .i64 (v189.length : Int))), (24, .v (.int .i64 c239)), (33, .yl 4), (34, .v (.int .i64 v225)), (35, .v (.int .i64 v242)), (36, .v (.bool true)), (37, .v (.bool false)), (38, .v (.bool false))]) (by kernel_rfl) ?_)
        refine SemY.cond_false (by kernel_rfl) ?_
        refine SemY.skip ?_
        refine SemY.region ?_
        refine RunY.segF (n := 42) e_evening_Plan_k3_ok 2 [(0, .yl 4), (4, .sl 1 (v189.map cdI.enc)), (5, .v (.int .i64 c222)), (6, .v (.int .i64 v225)), (9, .sl 1 (y3.map (cdL 1 cdI).enc)), (10, .v (.int .i64 (y3.length : Int))), (11, .v (.int .i64 c186)), (15, .sl 1 (v189.map cdI.enc)), (16, .v (.int .i64 (v189.length : Int))), (17, .v (.int .i64 c222)), (22, .sl 1 (v189.map cdI.enc)), (23, .v (.int .i64 (v189.length : Int))), (24, .v (.int .i64 (wr .i64 (c239 + 1)))), (33, .yl 4), (34, .v (.int .i64 v225)), (35, .v (.int .i64 v242)), (36, .v (.bool true)), (37, .v (.bool false))] [some ⟨2, 94, [.ag [.v (.int .i64 y0), .rf 1 0 v243.length v243.length]], false⟩, some ⟨1, 3, (v243.map cdI.enc), false⟩, mk 1 50 (y2.map (cdL 1 (cdL 1 cdI)).enc), some ⟨1, 50, [.sl 1 (y3.map (cdL 1 cdI).enc)], false⟩, none] (by kernel_rfl) ?_
        refine RunY.done rfl ?_
        exact SemYN.wk (s1 := ⟨Fr 42 [(0, .yl 4), (4, .sl 1 (v189.map cdI.enc)), (5, .v (.int .i64 c222)), (6, .v (.int .i64 v225)), (9, .sl 1 (y3.map (cdL 1 cdI).enc)), (10, .v (.int .i64 (y3.length : Int))), (11, .v (.int .i64 c186)), (15, .sl 1 (v189.map cdI.enc)), (16, .v (.int .i64 (v189.length : Int))), (17, .v (.int .i64 c222)), (22, .sl 1 (v189.map cdI.enc)), (23, .v (.int .i64 (v189.length : Int))), (24, .v (.int .i64 (wr .i64 (c239 + 1))))], [some ⟨2, 94, [.ag [.v (.int .i64 y0), .rf 1 0 v243.length v243.length]], false⟩, some ⟨1, 3, (v243.map cdI.enc), false⟩, mk 1 50 (y2.map (cdL 1 (cdL 1 cdI)).enc), some ⟨1, 50, [.sl 1 (y3.map (cdL 1 cdI).enc)], false⟩, none]⟩) (WkY.fr (by kernel_rfl)) (ih (wr .i64 (c239 + 1)) v243 h)
      · rw [if_f hc244] at h
        rw [hc244]
        refine RunY.segF (n := 42) e_evening_Plan_k3_ok 6 [(0, .yl 4), (4, .sl 1 (v189.map cdI.enc)), (5, .v (.int .i64 c222)), (6, .v (.int .i64 v225)), (9, .sl 1 (y3.map (cdL 1 cdI).enc)), (10, .v (.int .i64 (y3.length : Int))), (11, .v (.int .i64 c186)), (15, .sl 1 (v189.map cdI.enc)), (16, .v (.int .i64 (v189.length : Int))), (17, .v (.int .i64 c222)), (22, .sl 1 (v189.map cdI.enc)), (23, .v (.int .i64 (v189.length : Int))), (24, .v (.int .i64 c239)), (33, .tp []), (34, .tp []), (35, .tp []), (36, .tp []), (37, .tp []), (38, .v (.bool false))] [some ⟨2, 94, [.ag [.v (.int .i64 y0), .rf 1 0 c240.length c240.length]], false⟩, some ⟨1, 3, (c240.map cdI.enc), false⟩, mk 1 50 (y2.map (cdL 1 (cdL 1 cdI)).enc), some ⟨1, 50, [.sl 1 (y3.map (cdL 1 cdI).enc)], false⟩, none] (by kernel_rfl) ?_
        refine RunY.done rfl (SemY.fr (l' := [(0, .yl 4), (4, .sl 1 (v189.map cdI.enc)), (5, .v (.int .i64 c222)), (6, .v (.int .i64 v225)), (9, .sl 1 (y3.map (cdL 1 cdI).enc)), (10, .v (.int .i64 (y3.length : Int))), (11, .v (.int .i64 c186)), (15, .sl 1 (v189.map cdI.enc)), (16, .v (.int .i64 (v189.length : Int))), (17, .v (.int .i64 c222)), (22, .sl 1 (v189.map cdI.enc)), (23, .v (.int .i64 (v189.length : Int))), (24, .v (.int .i64 c239)), (33, .tp []), (34, .tp []), (35, .tp []), (36, .tp []), (37, .tp []), (38, .v (.bool false))]) (by kernel_rfl) ?_)
        refine SemY.cond_false (by kernel_rfl) ?_
        refine SemY.skip ?_
        refine SemY.region ?_
        refine RunY.segF (n := 42) e_evening_Plan_k3_ok 2 [(0, .yl 4), (4, .sl 1 (v189.map cdI.enc)), (5, .v (.int .i64 c222)), (6, .v (.int .i64 v225)), (9, .sl 1 (y3.map (cdL 1 cdI).enc)), (10, .v (.int .i64 (y3.length : Int))), (11, .v (.int .i64 c186)), (15, .sl 1 (v189.map cdI.enc)), (16, .v (.int .i64 (v189.length : Int))), (17, .v (.int .i64 c222)), (22, .sl 1 (v189.map cdI.enc)), (23, .v (.int .i64 (v189.length : Int))), (24, .v (.int .i64 (wr .i64 (c239 + 1)))), (33, .tp []), (34, .tp []), (35, .tp []), (36, .tp []), (37, .tp [])] [some ⟨2, 94, [.ag [.v (.int .i64 y0), .rf 1 0 c240.length c240.length]], false⟩, some ⟨1, 3, (c240.map cdI.enc), false⟩, mk 1 50 (y2.map (cdL 1 (cdL 1 cdI)).enc), some ⟨1, 50, [.sl 1 (y3.map (cdL 1 cdI).enc)], false⟩, none] (by kernel_rfl) ?_
        refine RunY.done rfl ?_
        exact SemYN.wk (s1 := ⟨Fr 42 [(0, .yl 4), (4, .sl 1 (v189.map cdI.enc)), (5, .v (.int .i64 c222)), (6, .v (.int .i64 v225)), (9, .sl 1 (y3.map (cdL 1 cdI).enc)), (10, .v (.int .i64 (y3.length : Int))), (11, .v (.int .i64 c186)), (15, .sl 1 (v189.map cdI.enc)), (16, .v (.int .i64 (v189.length : Int))), (17, .v (.int .i64 c222)), (22, .sl 1 (v189.map cdI.enc)), (23, .v (.int .i64 (v189.length : Int))), (24, .v (.int .i64 (wr .i64 (c239 + 1))))], [some ⟨2, 94, [.ag [.v (.int .i64 y0), .rf 1 0 c240.length c240.length]], false⟩, some ⟨1, 3, (c240.map cdI.enc), false⟩, mk 1 50 (y2.map (cdL 1 (cdL 1 cdI)).enc), some ⟨1, 50, [.sl 1 (y3.map (cdL 1 cdI).enc)], false⟩, none]⟩) (WkY.fr (by kernel_rfl)) (ih (wr .i64 (c239 + 1)) c240 h)
    · rw [if_f hb241] at h
      refine SemY.exit ?_
      have hq := Option.some.inj h; subst hq
      exact ⟨rfl, (WkY.fr (by kernel_rfl))⟩
set_option maxHeartbeats 4000000 in
set_option maxRecDepth 100000 in
theorem evening_Plan_k3_2_ok (y0 : Int) (y2 : (List (List (List Int)))) (y3 : (List (List Int))) (y4 : Int) (y5 : (List Int)) (y6 : (List (List Int))) (y7 : Int) (y8 : Int) (c186 : Int) (v189 : (List Int)) : ∀ (f : Nat) (c222 : Int) (c223 : (List Int)) (r : ((List Int))), evening_Plan_k3_2 y0 y2 y3 y4 y5 y6 y7 y8 c186 v189 f c222 c223 = some r → SemYN e_evening_Plan_k3 (cx_evening_Plan_k3 y2 y4 y5 y6 y7 y8) (pc cb_evening_Plan_k3 [1, 0, 0, 1, 1, 0, 0, 1, 1, 0, 0]) f ⟨Fr 42 [(0, .yl 4), (4, .sl 1 (v189.map cdI.enc)), (9, .sl 1 (y3.map (cdL 1 cdI).enc)), (10, .v (.int .i64 (y3.length : Int))), (11, .v (.int .i64 c186)), (15, .sl 1 (v189.map cdI.enc)), (16, .v (.int .i64 (v189.length : Int))), (17, .v (.int .i64 c222))], [some ⟨2, 94, [.ag [.v (.int .i64 y0), .rf 1 0 c223.length c223.length]], false⟩, some ⟨1, 3, (c223.map cdI.enc), false⟩, mk 1 50 (y2.map (cdL 1 (cdL 1 cdI)).enc), some ⟨1, 50, [.sl 1 (y3.map (cdL 1 cdI).enc)], false⟩, none]⟩ (fun e s => e = (.exit 2) ∧ WkY e_evening_Plan_k3 s ⟨Fr 42 [(0, .yl 4), (9, .sl 1 (y3.map (cdL 1 cdI).enc)), (10, .v (.int .i64 (y3.length : Int))), (11, .v (.int .i64 c186))], [some ⟨2, 94, [.ag [.v (.int .i64 y0), .rf 1 0 r.length r.length]], false⟩, some ⟨1, 3, (r.map cdI.enc), false⟩, mk 1 50 (y2.map (cdL 1 (cdL 1 cdI)).enc), some ⟨1, 50, [.sl 1 (y3.map (cdL 1 cdI).enc)], false⟩, none]⟩) := by
  intro f
  induction f with
  | zero => intro c222 c223 r h; cases h
  | succ f ih0 =>
    intro c222 c223 r h
    have ih := fun (c222 : Int) (c223 : (List Int)) => ih0 c222 c223 r
    unfold evening_Plan_k3_2 at h
    refine SemYN.succ ?_
    refine SemY.seq ?_
    refine SemY.region ?_
    refine RunY.segF (n := 42) e_evening_Plan_k3_ok 1 [(0, .yl 4), (4, .sl 1 (v189.map cdI.enc)), (9, .sl 1 (y3.map (cdL 1 cdI).enc)), (10, .v (.int .i64 (y3.length : Int))), (11, .v (.int .i64 c186)), (15, .sl 1 (v189.map cdI.enc)), (16, .v (.int .i64 (v189.length : Int))), (17, .v (.int .i64 c222)), (18, .v (.bool (decide (c222 < (v189.length : Int)))))] [some ⟨2, 94, [.ag [.v (.int .i64 y0), .rf 1 0 c223.length c223.length]], false⟩, some ⟨1, 3, (c223.map cdI.enc), false⟩, mk 1 50 (y2.map (cdL 1 (cdL 1 cdI)).enc), some ⟨1, 50, [.sl 1 (y3.map (cdL 1 cdI).enc)], false⟩, none] (by kernel_rfl) ?_
    refine RunY.done rfl (SemY.fr (l' := [(0, .yl 4), (4, .sl 1 (v189.map cdI.enc)), (9, .sl 1 (y3.map (cdL 1 cdI).enc)), (10, .v (.int .i64 (y3.length : Int))), (11, .v (.int .i64 c186)), (15, .sl 1 (v189.map cdI.enc)), (16, .v (.int .i64 (v189.length : Int))), (17, .v (.int .i64 c222)), (18, .v (.bool (decide (c222 < (v189.length : Int)))))]) (by kernel_rfl) ?_)
    refine SemY.seq ?_
    refine SemY.cond (b := (decide (c222 < (v189.length : Int)))) (by kernel_rfl) (fun hb224 => ?_) (fun hb224 => ?_)
    · rw [if_pos hb224] at h
      refine SemY.skip ?_
      refine SemY.seq ?_
      refine SemY.block ?_
      refine SemY.seq ?_
      refine SemY.region ?_
      refine RunY.segF (n := 42) e_evening_Plan_k3_ok 1 [(0, .yl 4), (4, .sl 1 (v189.map cdI.enc)), (9, .sl 1 (y3.map (cdL 1 cdI).enc)), (10, .v (.int .i64 (y3.length : Int))), (11, .v (.int .i64 c186)), (15, .sl 1 (v189.map cdI.enc)), (16, .v (.int .i64 (v189.length : Int))), (17, .v (.int .i64 c222)), (19, .v (.int .i64 c222))] [some ⟨2, 94, [.ag [.v (.int .i64 y0), .rf 1 0 c223.length c223.length]], false⟩, some ⟨1, 3, (c223.map cdI.enc), false⟩, mk 1 50 (y2.map (cdL 1 (cdL 1 cdI)).enc), some ⟨1, 50, [.sl 1 (y3.map (cdL 1 cdI).enc)], false⟩, none] (by kernel_rfl) ?_
      obtain ⟨v225, hv225, h⟩ := Option.bind_eq_some_iff.1 h
      refine RunY.one e_evening_Plan_k3_ok 0 rfl (op_q (wantedA_none rfl) rfl (q_indexAddr (a := .sl 1 (v189.map cdI.enc)) (b := .v (.int .i64 c222)) (by kernel_rfl) (by kernel_rfl) (ix_sl (e := cdI.enc) (el := 3) (k := 1) (ki := .i64) (by kernel_rfl) (by kernel_rfl) hv225))) ?_
      refine RunY.segF (n := 42) e_evening_Plan_k3_ok 3 [(0, .yl 4), (4, .sl 1 (v189.map cdI.enc)), (5, .v (.int .i64 c222)), (6, .v (.int .i64 v225)), (9, .sl 1 (y3.map (cdL 1 cdI).enc)), (10, .v (.int .i64 (y3.length : Int))), (11, .v (.int .i64 c186)), (15, .sl 1 (v189.map cdI.enc)), (16, .v (.int .i64 (v189.length : Int))), (17, .v (.int .i64 c222))] [some ⟨2, 94, [.ag [.v (.int .i64 y0), .rf 1 0 c223.length c223.length]], false⟩, some ⟨1, 3, (c223.map cdI.enc), false⟩, mk 1 50 (y2.map (cdL 1 (cdL 1 cdI)).enc), some ⟨1, 50, [.sl 1 (y3.map (cdL 1 cdI).enc)], false⟩, none] (by kernel_rfl) ?_
      refine RunY.done rfl (SemY.fr (l' := [(0, .yl 4), (4, .sl 1 (v189.map cdI.enc)), (5, .v (.int .i64 c222)), (6, .v (.int .i64 v225)), (9, .sl 1 (y3.map (cdL 1 cdI).enc)), (10, .v (.int .i64 (y3.length : Int))), (11, .v (.int .i64 c186)), (15, .sl 1 (v189.map cdI.enc)), (16, .v (.int .i64 (v189.length : Int))), (17, .v (.int .i64 c222))]) (by kernel_rfl) ?_)
      refine SemY.seq ?_
      refine SemY.region ?_
      refine RunY.segF (n := 42) e_evening_Plan_k3_ok 1 [(0, .yl 4), (4, .sl 1 (v189.map cdI.enc)), (5, .v (.int .i64 c222)), (6, .v (.int .i64 v225)), (9, .sl 1 (y3.map (cdL 1 cdI).enc)), (10, .v (.int .i64 (y3.length : Int))), (11, .v (.int .i64 c186)), (15, .sl 1 (v189.map cdI.enc)), (16, .v (.int .i64 (v189.length : Int))), (17, .v (.int .i64 c222)), (22, .sl 1 (v189.map cdI.enc))] [some ⟨2, 94, [.ag [.v (.int .i64 y0), .rf 1 0 c223.length c223.length]], false⟩, some ⟨1, 3, (c223.map cdI.enc), false⟩, mk 1 50 (y2.map (cdL 1 (cdL 1 cdI)).enc), some ⟨1, 50, [.sl 1 (y3.map (cdL 1 cdI).enc)], false⟩, none] (by kernel_rfl) ?_
      refine RunY.one e_evening_Plan_k3_ok 0 rfl (op_q (wantedA_none rfl) rfl (q_len (a := .sl 1 (v189.map cdI.enc)) (by kernel_rfl) (len_sl (el := 3) (by kernel_rfl)))) ?_
      refine RunY.segF (n := 42) e_evening_Plan_k3_ok 1 [(0, .yl 4), (4, .sl 1 (v189.map cdI.enc)), (5, .v (.int .i64 c222)), (6, .v (.int .i64 v225)), (9, .sl 1 (y3.map (cdL 1 cdI).enc)), (10, .v (.int .i64 (y3.length : Int))), (11, .v (.int .i64 c186)), (15, .sl 1 (v189.map cdI.enc)), (16, .v (.int .i64 (v189.length : Int))), (17, .v (.int .i64 c222)), (22, .sl 1 (v189.map cdI.enc)), (23, .v (.int .i64 (v189.length : Int))), (24, .v (.int .i64 0))] [some ⟨2, 94, [.ag [.v (.int .i64 y0), .rf 1 0 c223.length c223.length]], false⟩, some ⟨1, 3, (c223.map cdI.enc), false⟩, mk 1 50 (y2.map (cdL 1 (cdL 1 cdI)).enc), some ⟨1, 50, [.sl 1 (y3.map (cdL 1 cdI).enc)], false⟩, none] (by kernel_rfl) ?_
      refine RunY.done rfl (SemY.fr (l' := [(0, .yl 4), (4, .sl 1 (v189.map cdI.enc)), (5, .v (.int .i64 c222)), (6, .v (.int .i64 v225)), (9, .sl 1 (y3.map (cdL 1 cdI).enc)), (10, .v (.int .i64 (y3.length : Int))), (11, .v (.int .i64 c186)), (15, .sl 1 (v189.map cdI.enc)), (16, .v (.int .i64 (v189.length : Int))), (17, .v (.int .i64 c222)), (22, .sl 1 (v189.map cdI.enc)), (23, .v (.int .i64 (v189.length : Int))), (24, .v (.int .i64 0))]) (by kernel_rfl) ?_)
      refine SemY.block ?_
      obtain ⟨r246, hr246, h⟩ := Option.bind_eq_some_iff.1 h
      refine SemY.loop (n := 100000) ?_
      refine SemY.cutN (SemYN.wk (s1 := ⟨Fr 42 [(0, .yl 4), (4, .sl 1 (v189.map cdI.enc)), (5, .v (.int .i64 c222)), (6, .v (.int .i64 v225)), (9, .sl 1 (y3.map (cdL 1 cdI).enc)), (10, .v (.int .i64 (y3.length : Int))), (11, .v (.int .i64 c186)), (15, .sl 1 (v189.map cdI.enc)), (16, .v (.int .i64 (v189.length : Int))), (17, .v (.int .i64 c222)), (22, .sl 1 (v189.map cdI.enc)), (23, .v (.int .i64 (v189.length : Int))), (24, .v (.int .i64 0))], [some ⟨2, 94, [.ag [.v (.int .i64 y0), .rf 1 0 c223.length c223.length]], false⟩, some ⟨1, 3, (c223.map cdI.enc), false⟩, mk 1 50 (y2.map (cdL 1 (cdL 1 cdI)).enc), some ⟨1, 50, [.sl 1 (y3.map (cdL 1 cdI).enc)], false⟩, none]⟩) (WkY.fr (by kernel_rfl)) (evening_Plan_k3_3_ok y0 y2 y3 y4 y5 y6 y7 y8 c186 v189 c222 v225 _ 0 c223 _ hr246)) ?_
      refine SemY.region ?_
      refine RunY.segF (n := 42) e_evening_Plan_k3_ok 2 [(0, .yl 4), (4, .sl 1 (v189.map cdI.enc)), (9, .sl 1 (y3.map (cdL 1 cdI).enc)), (10, .v (.int .i64 (y3.length : Int))), (11, .v (.int .i64 c186)), (15, .sl 1 (v189.map cdI.enc)), (16, .v (.int .i64 (v189.length : Int))), (17, .v (.int .i64 (wr .i64 (c222 + 1))))] [some ⟨2, 94, [.ag [.v (.int .i64 y0), .rf 1 0 r246.length r246.length]], false⟩, some ⟨1, 3, (r246.map cdI.enc), false⟩, mk 1 50 (y2.map (cdL 1 (cdL 1 cdI)).enc), some ⟨1, 50, [.sl 1 (y3.map (cdL 1 cdI).enc)], false⟩, none] (by kernel_rfl) ?_
      refine RunY.done rfl ?_
      exact SemYN.wk (s1 := ⟨Fr 42 [(0, .yl 4), (4, .sl 1 (v189.map cdI.enc)), (9, .sl 1 (y3.map (cdL 1 cdI).enc)), (10, .v (.int .i64 (y3.length : Int))), (11, .v (.int .i64 c186)), (15, .sl 1 (v189.map cdI.enc)), (16, .v (.int .i64 (v189.length : Int))), (17, .v (.int .i64 (wr .i64 (c222 + 1))))], [some ⟨2, 94, [.ag [.v (.int .i64 y0), .rf 1 0 r246.length r246.length]], false⟩, some ⟨1, 3, (r246.map cdI.enc), false⟩, mk 1 50 (y2.map (cdL 1 (cdL 1 cdI)).enc), some ⟨1, 50, [.sl 1 (y3.map (cdL 1 cdI).enc)], false⟩, none]⟩) (WkY.fr (by kernel_rfl)) (ih (wr .i64 (c222 + 1)) r246 h)
    · rw [if_f hb224] at h
      refine SemY.exit ?_
      have hq := Option.some.inj h; subst hq
      exact ⟨rfl, (WkY.fr (by kernel_rfl))⟩
set_option maxHeartbeats 4000000 in
set_option maxRecDepth 100000 in
theorem evening_Plan_k3_1_ok (y0 : Int) (y2 : (List (List (List Int)))) (y3 : (List (List Int))) (y4 : Int) (y5 : (List Int)) (y6 : (List (List Int))) (y7 : Int) (y8 : Int) : ∀ (f : Nat) (c186 : Int) (c187 : (List Int)) (r : ((List Int))), evening_Plan_k3_1 y0 y2 y3 y4 y5 y6 y7 y8 f c186 c187 = some r → SemYN e_evening_Plan_k3 (cx_evening_Plan_k3 y2 y4 y5 y6 y7 y8) (pc cb_evening_Plan_k3 [1, 0, 0]) f ⟨Fr 42 [(0, .yl 4), (9, .sl 1 (y3.map (cdL 1 cdI).enc)), (10, .v (.int .i64 (y3.length : Int))), (11, .v (.int .i64 c186))], [some ⟨2, 94, [.ag [.v (.int .i64 y0), .rf 1 0 c187.length c187.length]], false⟩, some ⟨1, 3, (c187.map cdI.enc), false⟩, mk 1 50 (y2.map (cdL 1 (cdL 1 cdI)).enc), some ⟨1, 50, [.sl 1 (y3.map (cdL 1 cdI).enc)], false⟩, none]⟩ (fun e s => e = (.exit 0) ∧ WkY e_evening_Plan_k3 s ⟨Fr 42 [], [some ⟨2, 94, [.ag [.v (.int .i64 y0), .rf 1 0 r.length r.length]], false⟩, some ⟨1, 3, (r.map cdI.enc), false⟩, mk 1 50 (y2.map (cdL 1 (cdL 1 cdI)).enc), some ⟨1, 50, [.sl 1 (y3.map (cdL 1 cdI).enc)], false⟩, none]⟩) := by
  intro f
  induction f with
  | zero => intro c186 c187 r h; cases h
  | succ f ih0 =>
    intro c186 c187 r h
    have ih := fun (c186 : Int) (c187 : (List Int)) => ih0 c186 c187 r
    unfold evening_Plan_k3_1 at h
    refine SemYN.succ ?_
    refine SemY.seq ?_
    refine SemY.region ?_
    refine RunY.segF (n := 42) e_evening_Plan_k3_ok 1 [(0, .yl 4), (9, .sl 1 (y3.map (cdL 1 cdI).enc)), (10, .v (.int .i64 (y3.length : Int))), (11, .v (.int .i64 c186)), (12, .v (.bool (decide (c186 < (y3.length : Int)))))] [some ⟨2, 94, [.ag [.v (.int .i64 y0), .rf 1 0 c187.length c187.length]], false⟩, some ⟨1, 3, (c187.map cdI.enc), false⟩, mk 1 50 (y2.map (cdL 1 (cdL 1 cdI)).enc), some ⟨1, 50, [.sl 1 (y3.map (cdL 1 cdI).enc)], false⟩, none] (by kernel_rfl) ?_
    refine RunY.done rfl (SemY.fr (l' := [(0, .yl 4), (9, .sl 1 (y3.map (cdL 1 cdI).enc)), (10, .v (.int .i64 (y3.length : Int))), (11, .v (.int .i64 c186)), (12, .v (.bool (decide (c186 < (y3.length : Int)))))]) (by kernel_rfl) ?_)
    refine SemY.seq ?_
    refine SemY.cond (b := (decide (c186 < (y3.length : Int)))) (by kernel_rfl) (fun hb188 => ?_) (fun hb188 => ?_)
    · rw [if_pos hb188] at h
      refine SemY.skip ?_
      refine SemY.seq ?_
      refine SemY.block ?_
      refine SemY.seq ?_
      refine SemY.region ?_
      obtain ⟨v189, hv189, h⟩ := Option.bind_eq_some_iff.1 h
      refine RunY.one e_evening_Plan_k3_ok 0 rfl (op_q (wantedA_none rfl) rfl (q_indexAddr (a := .sl 1 (y3.map (cdL 1 cdI).enc)) (b := .v (.int .i64 c186)) (by kernel_rfl) (by kernel_rfl) (ix_sl (e := (cdL 1 cdI).enc) (el := 31) (k := 1) (ki := .i64) (by kernel_rfl) (by kernel_rfl) hv189))) ?_
      refine RunY.segF (n := 42) e_evening_Plan_k3_ok 2 [(0, .yl 4), (4, .sl 1 (v189.map cdI.enc)), (9, .sl 1 (y3.map (cdL 1 cdI).enc)), (10, .v (.int .i64 (y3.length : Int))), (11, .v (.int .i64 c186))] [some ⟨2, 94, [.ag [.v (.int .i64 y0), .rf 1 0 c187.length c187.length]], false⟩, some ⟨1, 3, (c187.map cdI.enc), false⟩, mk 1 50 (y2.map (cdL 1 (cdL 1 cdI)).enc), some ⟨1, 50, [.sl 1 (y3.map (cdL 1 cdI).enc)], false⟩, none] (by kernel_rfl) ?_
      refine RunY.done rfl (SemY.fr (l' := [(0, .yl 4), (4, .sl 1 (v189.map cdI.enc)), (9, .sl 1 (y3.map (cdL 1 cdI).enc)), (10, .v (.int .i64 (y3.length : Int))), (11, .v (.int .i64 c186))]) (by kernel_rfl) ?_)
      refine SemY.seq ?_
      refine SemY.region ?_
      refine RunY.segF (n := 42) e_evening_Plan_k3_ok 1 [(0, .yl 4), (4, .sl 1 (v189.map cdI.enc)), (9, .sl 1 (y3.map (cdL 1 cdI).enc)), (10, .v (.int .i64 (y3.length : Int))), (11, .v (.int .i64 c186)), (15, .sl 1 (v189.map cdI.enc))] [some ⟨2, 94, [.ag [.v (.int .i64 y0), .rf 1 0 c187.length c187.length]], false⟩, some ⟨1, 3, (c187.map cdI.enc), false⟩, mk 1 50 (y2.map (cdL 1 (cdL 1 cdI)).enc), some ⟨1, 50, [.sl 1 (y3.map (cdL 1 cdI).enc)], false⟩, none] (by kernel_rfl) ?_
      refine RunY.one e_evening_Plan_k3_ok 0 rfl (op_q (wantedA_none rfl) rfl (q_len (a := .sl 1 (v189.map cdI.enc)) (by kernel_rfl) (len_sl (el := 3) (by kernel_rfl)))) ?_
      refine RunY.segF (n := 42) e_evening_Plan_k3_ok 1 [(0, .yl 4), (4, .sl 1 (v189.map cdI.enc)), (9, .sl 1 (y3.map (cdL 1 cdI).enc)), (10, .v (.int .i64 (y3.length : Int))), (11, .v (.int .i64 c186)), (15, .sl 1 (v189.map cdI.enc)), (16, .v (.int .i64 (v189.length : Int))), (17, .v (.int .i64 0))] [some ⟨2, 94, [.ag [.v (.int .i64 y0), .rf 1 0 c187.length c187.length]], false⟩, some ⟨1, 3, (c187.map cdI.enc), false⟩, mk 1 50 (y2.map (cdL 1 (cdL 1 cdI)).enc), some ⟨1, 50, [.sl 1 (y3.map (cdL 1 cdI).enc)], false⟩, none] (by kernel_rfl) ?_
      refine RunY.done rfl (SemY.fr (l' := [(0, .yl 4), (4, .sl 1 (v189.map cdI.enc)), (9, .sl 1 (y3.map (cdL 1 cdI).enc)), (10, .v (.int .i64 (y3.length : Int))), (11, .v (.int .i64 c186)), (15, .sl 1 (v189.map cdI.enc)), (16, .v (.int .i64 (v189.length : Int))), (17, .v (.int .i64 0))]) (by kernel_rfl) ?_)
      refine SemY.block ?_
      obtain ⟨r248, hr248, h⟩ := Option.bind_eq_some_iff.1 h
      refine SemY.loop (n := 100000) ?_
      refine SemY.cutN (SemYN.wk (s1 := ⟨Fr 42 [(0, .yl 4), (4, .sl 1 (v189.map cdI.enc)), (9, .sl 1 (y3.map (cdL 1 cdI).enc)), (10, .v (.int .i64 (y3.length : Int))), (11, .v (.int .i64 c186)), (15, .sl 1 (v189.map cdI.enc)), (16, .v (.int .i64 (v189.length : Int))), (17, .v (.int .i64 0))], [some ⟨2, 94, [.ag [.v (.int .i64 y0), .rf 1 0 c187.length c187.length]], false⟩, some ⟨1, 3, (c187.map cdI.enc), false⟩, mk 1 50 (y2.map (cdL 1 (cdL 1 cdI)).enc), some ⟨1, 50, [.sl 1 (y3.map (cdL 1 cdI).enc)], false⟩, none]⟩) (WkY.fr (by kernel_rfl)) (evening_Plan_k3_2_ok y0 y2 y3 y4 y5 y6 y7 y8 c186 v189 _ 0 c187 _ hr248)) ?_
      refine SemY.region ?_
      refine RunY.segF (n := 42) e_evening_Plan_k3_ok 2 [(0, .yl 4), (9, .sl 1 (y3.map (cdL 1 cdI).enc)), (10, .v (.int .i64 (y3.length : Int))), (11, .v (.int .i64 (wr .i64 (c186 + 1))))] [some ⟨2, 94, [.ag [.v (.int .i64 y0), .rf 1 0 r248.length r248.length]], false⟩, some ⟨1, 3, (r248.map cdI.enc), false⟩, mk 1 50 (y2.map (cdL 1 (cdL 1 cdI)).enc), some ⟨1, 50, [.sl 1 (y3.map (cdL 1 cdI).enc)], false⟩, none] (by kernel_rfl) ?_
      refine RunY.done rfl ?_
      exact SemYN.wk (s1 := ⟨Fr 42 [(0, .yl 4), (9, .sl 1 (y3.map (cdL 1 cdI).enc)), (10, .v (.int .i64 (y3.length : Int))), (11, .v (.int .i64 (wr .i64 (c186 + 1))))], [some ⟨2, 94, [.ag [.v (.int .i64 y0), .rf 1 0 r248.length r248.length]], false⟩, some ⟨1, 3, (r248.map cdI.enc), false⟩, mk 1 50 (y2.map (cdL 1 (cdL 1 cdI)).enc), some ⟨1, 50, [.sl 1 (y3.map (cdL 1 cdI).enc)], false⟩, none]⟩) (WkY.fr (by kernel_rfl)) (ih (wr .i64 (c186 + 1)) r248 h)
    · rw [if_f hb188] at h
      refine SemY.exit ?_
      have hq := Option.some.inj h; subst hq
      exact ⟨rfl, (WkY.fr (by kernel_rfl))⟩
set_option maxHeartbeats 4000000 in
set_option maxRecDepth 100000 in
theorem evening_Plan_k3_sem (y0 : Int) (y1 : (List Int)) (y2 : (List (List (List Int)))) (y3 : (List (List Int))) (y4 : Int) (y5 : (List Int)) (y6 : (List (List Int))) (y7 : Int) (y8 : Int) (r : (List Int)) (h : evening_Plan_k3 y0 y1 y2 y3 y4 y5 y6 y7 y8 = some r) : SemY e_evening_Plan_k3 (cx_evening_Plan_k3 y2 y4 y5 y6 y7 y8) cb_evening_Plan_k3 ⟨Fr 42 (pairs0 0 [.yl 4, .pt 3 0 0]), [some ⟨2, 94, [.ag [.v (.int .i64 y0), .rf 1 0 y1.length y1.length]], false⟩, some ⟨1, 3, (y1.map cdI.enc), false⟩, mk 1 50 (y2.map (cdL 1 (cdL 1 cdI)).enc), some ⟨1, 50, [.sl 1 (y3.map (cdL 1 cdI).enc)], false⟩, none]⟩ fun x s' => (x = .normal ∨ x = .ret) ∧ ∃ ys, resA e_evening_Plan_k3.P s'.fr s'.hp Tryd.f108.results.toList = some ys ∧ (retA ys = .tp [] ∧ s'.hp = [some ⟨2, 94, [.ag [.v (.int .i64 y0), .rf 1 0 r.length r.length]], false⟩, some ⟨1, 3, (r.map cdI.enc), false⟩, mk 1 50 (y2.map (cdL 1 (cdL 1 cdI)).enc), some ⟨1, 50, [.sl 1 (y3.map (cdL 1 cdI).enc)], false⟩, none]) := by
  unfold evening_Plan_k3 at h
  refine SemY.seq ?_
  refine SemY.region ?_
  refine RunY.segF (n := 42) e_evening_Plan_k3_ok 1 [(0, .yl 4), (9, .sl 1 (y3.map (cdL 1 cdI).enc))] [some ⟨2, 94, [.ag [.v (.int .i64 y0), .rf 1 0 y1.length y1.length]], false⟩, some ⟨1, 3, (y1.map cdI.enc), false⟩, mk 1 50 (y2.map (cdL 1 (cdL 1 cdI)).enc), some ⟨1, 50, [.sl 1 (y3.map (cdL 1 cdI).enc)], false⟩, none] (by kernel_rfl) ?_
  refine RunY.one e_evening_Plan_k3_ok 0 rfl (op_q (wantedA_none rfl) rfl (q_len (a := .sl 1 (y3.map (cdL 1 cdI).enc)) (by kernel_rfl) (len_sl (el := 31) (by kernel_rfl)))) ?_
  refine RunY.segF (n := 42) e_evening_Plan_k3_ok 1 [(0, .yl 4), (9, .sl 1 (y3.map (cdL 1 cdI).enc)), (10, .v (.int .i64 (y3.length : Int))), (11, .v (.int .i64 0))] [some ⟨2, 94, [.ag [.v (.int .i64 y0), .rf 1 0 y1.length y1.length]], false⟩, some ⟨1, 3, (y1.map cdI.enc), false⟩, mk 1 50 (y2.map (cdL 1 (cdL 1 cdI)).enc), some ⟨1, 50, [.sl 1 (y3.map (cdL 1 cdI).enc)], false⟩, none] (by kernel_rfl) ?_
  refine RunY.done rfl (SemY.fr (l' := [(0, .yl 4), (9, .sl 1 (y3.map (cdL 1 cdI).enc)), (10, .v (.int .i64 (y3.length : Int))), (11, .v (.int .i64 0))]) (by kernel_rfl) ?_)
  refine SemY.block ?_
  obtain ⟨r250, hr250, h⟩ := Option.bind_eq_some_iff.1 h
  refine SemY.loop (n := 100000) ?_
  refine SemY.cutN (SemYN.wk (s1 := ⟨Fr 42 [(0, .yl 4), (9, .sl 1 (y3.map (cdL 1 cdI).enc)), (10, .v (.int .i64 (y3.length : Int))), (11, .v (.int .i64 0))], [some ⟨2, 94, [.ag [.v (.int .i64 y0), .rf 1 0 y1.length y1.length]], false⟩, some ⟨1, 3, (y1.map cdI.enc), false⟩, mk 1 50 (y2.map (cdL 1 (cdL 1 cdI)).enc), some ⟨1, 50, [.sl 1 (y3.map (cdL 1 cdI).enc)], false⟩, none]⟩) (WkY.fr (by kernel_rfl)) (evening_Plan_k3_1_ok y0 y2 y3 y4 y5 y6 y7 y8 _ 0 y1 _ hr250)) ?_
  have hq := Option.some.inj h; subst hq
  exact ⟨.inl rfl, [], (by kernel_rfl), (by kernel_rfl), (by kernel_rfl)⟩
def evening_Plan_1 (x0 : Int) (x1 : (List Int)) (x2 : Int) (v6 : Int × Int × (List Int)) : Nat → (List Int) → (List (List (List Int))) → Int → Option (((List (List (List Int)))))
  | 0, _, _, _ => none
  | f + 1, c97, c98, c99 =>
    if (decide (c99 < x2)) = true then
    (evening_span 0 x0).bind fun v101 =>
    if (decide (0 < v101.length)) = true then
    (evening_Plan_2 x0 x1 x2 v6 c97 c98 c99 100000 v101 [] 0).bind fun r181 =>
    (evening_Plan_k2 v6.1 c97 c98 r181).bind fun v182 =>
    (evening_Plan_k3 v6.1 c97 c98 v182 x0 x1 r181 x2 c99).bind fun v183 =>
    if (capOk 24 (c98.length + 1)) = true then
    evening_Plan_1 x0 x1 x2 v6 f v183 (c98 ++ [r181]) (wr .i64 (c99 + 1))
    else none
    else none
    else
    some c98
def evening_Plan (x0 : Int) (x1 : (List Int)) (x2 : Int) : Option ((List (List (List Int))) × Int) :=
  (evening_fit x0 x1).bind fun v1 =>
  if (!v1) = true then
  some ([], 90)
  else
  (if (decide (x2 < 0)) = true then some true else some (decide (x2 > 64))).bind fun j4 =>
  if j4 = true then
  some ([], 2)
  else
  (evening_Plan_k1 x0).bind fun v6 =>
  (evening_Plan_1 x0 x1 x2 v6 100000 v6.2.2 [] 0).bind fun r186 =>
  some (r186, 0)
def cs_evening_Plan : Cs (Int × (List Int) × Int × Unit) := (csC cdI (csC (cdL 1 cdI) (csC cdI csN)))
def er_evening_Plan (r : (List (List (List Int))) × Int) : AV := .tp [(cdL 1 (cdL 1 (cdL 1 cdI))).enc r.1, cdI.enc r.2]
set_option maxHeartbeats 4000000 in
set_option maxRecDepth 100000 in
theorem evening_Plan_3_ok (x0 : Int) (x1 : (List Int)) (x2 : Int) (v6 : Int × Int × (List Int)) (c97 : (List Int)) (c98 : (List (List (List Int)))) (c99 : Int) (c146 : (List (List Int))) (c147 : Int) (v149 : Int) : ∀ (f : Nat) (c168 : (List Int)) (c169 : (List Int)) (c170 : Int) (r : ((List Int) × (List Int))), evening_Plan_3 x0 x1 x2 v6 c97 c98 c99 c146 c147 v149 f c168 c169 c170 = some r → SemN e_evening_Plan ⟨none, false⟩ (pc cb_evening_Plan [1, 1, 1, 1, 0, 1, 0, 0, 1, 1, 0, 0, 1, 1, 0, 1, 0, 0, 1, 1, 0, 0, 1, 1, 0, 1, 0, 0]) f ⟨Fr 86 [(0, .v (.int .i64 x0)), (1, .sl 1 (x1.map cdI.enc)), (8, .pt 0 0 0), (9, hd 2 (c98.map (cdL 1 (cdL 1 cdI)).enc)), (10, .rf 3 0 c168.length c168.length), (11, hd 4 (c146.map (cdL 1 cdI).enc)), (14, hd 5 (c169.map cdI.enc)), (32, .v (.int .i64 x2)), (33, .v (.int .i64 c99)), (37, .sl 1 (x1.map cdI.enc)), (38, .v (.int .i64 (x1.length : Int))), (39, .v (.int .i64 c147)), (43, .v (.int .i64 v149)), (44, .v (.int .i64 c170))], [some ⟨2, 94, [.ag [.v (.int .i64 v6.1), .rf 1 0 c97.length c97.length]], false⟩, some ⟨1, 3, (c97.map cdI.enc), false⟩, mk 1 50 (c98.map (cdL 1 (cdL 1 cdI)).enc), some ⟨1, 3, (c168.map cdI.enc), false⟩, mk 1 31 (c146.map (cdL 1 cdI).enc), mk 1 3 (c169.map cdI.enc)]⟩ (fun e s => e = (.exit 5) ∧ Wk e_evening_Plan s ⟨Fr 86 [(0, .v (.int .i64 x0)), (1, .sl 1 (x1.map cdI.enc)), (8, .pt 0 0 0), (9, hd 2 (c98.map (cdL 1 (cdL 1 cdI)).enc)), (10, .rf 3 0 r.1.length r.1.length), (11, hd 4 (c146.map (cdL 1 cdI).enc)), (14, hd 5 (r.2.map cdI.enc)), (32, .v (.int .i64 x2)), (33, .v (.int .i64 c99)), (37, .sl 1 (x1.map cdI.enc)), (38, .v (.int .i64 (x1.length : Int))), (39, .v (.int .i64 c147))], [some ⟨2, 94, [.ag [.v (.int .i64 v6.1), .rf 1 0 c97.length c97.length]], false⟩, some ⟨1, 3, (c97.map cdI.enc), false⟩, mk 1 50 (c98.map (cdL 1 (cdL 1 cdI)).enc), some ⟨1, 3, (r.1.map cdI.enc), false⟩, mk 1 31 (c146.map (cdL 1 cdI).enc), mk 1 3 (r.2.map cdI.enc)]⟩) := by
  intro f
  induction f with
  | zero => intro c168 c169 c170 r h; cases h
  | succ f ih0 =>
    intro c168 c169 c170 r h
    have ih := fun (c168 : (List Int)) (c169 : (List Int)) (c170 : Int) => ih0 c168 c169 c170 r
    unfold evening_Plan_3 at h
    refine SemN.succ ?_
    refine Sem.seq ?_
    refine Sem.runS (s1 := ⟨Fr 86 [(0, .v (.int .i64 x0)), (1, .sl 1 (x1.map cdI.enc)), (8, .pt 0 0 0), (9, hd 2 (c98.map (cdL 1 (cdL 1 cdI)).enc)), (10, .rf 3 0 c168.length c168.length), (11, hd 4 (c146.map (cdL 1 cdI).enc)), (14, hd 5 (c169.map cdI.enc)), (32, .v (.int .i64 x2)), (33, .v (.int .i64 c99)), (37, .sl 1 (x1.map cdI.enc)), (38, .v (.int .i64 (x1.length : Int))), (39, .v (.int .i64 c147)), (43, .v (.int .i64 v149)), (44, .v (.int .i64 c170)), (45, .v (.bool (decide (c170 < v149))))], [some ⟨2, 94, [.ag [.v (.int .i64 v6.1), .rf 1 0 c97.length c97.length]], false⟩, some ⟨1, 3, (c97.map cdI.enc), false⟩, mk 1 50 (c98.map (cdL 1 (cdL 1 cdI)).enc), some ⟨1, 3, (c168.map cdI.enc), false⟩, mk 1 31 (c146.map (cdL 1 cdI).enc), mk 1 3 (c169.map cdI.enc)]⟩) ?_ ?_
    · refine RunS.segF (n := 86) e_evening_Plan_ok 1 [(0, .v (.int .i64 x0)), (1, .sl 1 (x1.map cdI.enc)), (8, .pt 0 0 0), (9, hd 2 (c98.map (cdL 1 (cdL 1 cdI)).enc)), (10, .rf 3 0 c168.length c168.length), (11, hd 4 (c146.map (cdL 1 cdI).enc)), (14, hd 5 (c169.map cdI.enc)), (32, .v (.int .i64 x2)), (33, .v (.int .i64 c99)), (37, .sl 1 (x1.map cdI.enc)), (38, .v (.int .i64 (x1.length : Int))), (39, .v (.int .i64 c147)), (43, .v (.int .i64 v149)), (44, .v (.int .i64 c170)), (45, .v (.bool (decide (c170 < v149))))] [some ⟨2, 94, [.ag [.v (.int .i64 v6.1), .rf 1 0 c97.length c97.length]], false⟩, some ⟨1, 3, (c97.map cdI.enc), false⟩, mk 1 50 (c98.map (cdL 1 (cdL 1 cdI)).enc), some ⟨1, 3, (c168.map cdI.enc), false⟩, mk 1 31 (c146.map (cdL 1 cdI).enc), mk 1 3 (c169.map cdI.enc)] (by kernel_rfl) ?_
      exact RunS.done rfl (Wk.s3 [0, 1, 2, 3, 4, 5] ⟨⟨_, rfl, bu_d⟩, ⟨_, rfl, bu_own⟩, ⟨_, rfl, bu_mk⟩, ⟨_, rfl, bu_own⟩, ⟨_, rfl, bu_mk⟩, ⟨_, rfl, bu_mk⟩, trivial⟩ ⟨lv, lv, lv, lu_hd (b' := 2) (by kernel_rfl) (by kernel_rfl), lv, lu_hd (b' := 4) (by kernel_rfl) (by kernel_rfl), lu_hd (b' := 5) (by kernel_rfl) (by kernel_rfl), lv, lv, lv, lv, lv, lv, lv, lv, trivial⟩)
    refine Sem.seq ?_
    refine Sem.cond (b := (decide (c170 < v149))) (by kernel_rfl) (fun hb171 => ?_) (fun hb171 => ?_)
    · rw [if_pos hb171] at h
      refine Sem.skip ?_
      refine Sem.seq ?_
      refine Sem.block ?_
      refine Sem.seq ?_
      obtain ⟨v172, hv172, h⟩ := Option.bind_eq_some_iff.1 h
      refine Sem.runS (s1 := ⟨Fr 86 [(0, .v (.int .i64 x0)), (1, .sl 1 (x1.map cdI.enc)), (8, .pt 0 0 0), (9, hd 2 (c98.map (cdL 1 (cdL 1 cdI)).enc)), (10, .rf 3 0 c168.length c168.length), (11, hd 4 (c146.map (cdL 1 cdI).enc)), (14, hd 5 (c169.map cdI.enc)), (15, .v (.int .i64 v172)), (32, .v (.int .i64 x2)), (33, .v (.int .i64 c99)), (37, .sl 1 (x1.map cdI.enc)), (38, .v (.int .i64 (x1.length : Int))), (39, .v (.int .i64 c147)), (43, .v (.int .i64 v149)), (44, .v (.int .i64 c170))], [some ⟨2, 94, [.ag [.v (.int .i64 v6.1), .rf 1 0 c97.length c97.length]], false⟩, some ⟨1, 3, (c97.map cdI.enc), false⟩, mk 1 50 (c98.map (cdL 1 (cdL 1 cdI)).enc), some ⟨1, 3, (c168.map cdI.enc), false⟩, mk 1 31 (c146.map (cdL 1 cdI).enc), mk 1 3 (c169.map cdI.enc)]⟩) ?_ ?_
      · refine RunS.segF (n := 86) e_evening_Plan_ok 3 [(0, .v (.int .i64 x0)), (1, .sl 1 (x1.map cdI.enc)), (8, .pt 0 0 0), (9, hd 2 (c98.map (cdL 1 (cdL 1 cdI)).enc)), (10, .rf 3 0 c168.length c168.length), (11, hd 4 (c146.map (cdL 1 cdI).enc)), (14, hd 5 (c169.map cdI.enc)), (32, .v (.int .i64 x2)), (33, .v (.int .i64 c99)), (37, .sl 1 (x1.map cdI.enc)), (38, .v (.int .i64 (x1.length : Int))), (39, .v (.int .i64 c147)), (43, .v (.int .i64 v149)), (44, .v (.int .i64 c170)), (46, .ag [.v (.int .i64 v6.1), .rf 1 0 c97.length c97.length]), (47, hd 5 (c169.map cdI.enc)), (48, .rf 3 0 c168.length c168.length)] [some ⟨2, 94, [.ag [.v (.int .i64 v6.1), .rf 1 0 c97.length c97.length]], false⟩, some ⟨1, 3, (c97.map cdI.enc), false⟩, mk 1 50 (c98.map (cdL 1 (cdL 1 cdI)).enc), some ⟨1, 3, (c168.map cdI.enc), false⟩, mk 1 31 (c146.map (cdL 1 cdI).enc), mk 1 3 (c169.map cdI.enc)] (by kernel_rfl) ?_
        refine RunS.call e_evening_Plan_ok (fid := 70) (s := cs_evening_choose) (F := fun a => evening_choose a.1 a.2.1 a.2.2.1) (er := er_evening_choose) (xs := [.ag [.v (.int .i64 v6.1), .rf 1 0 c97.length c97.length], hd 5 (c169.map cdI.enc), .rf 3 0 c168.length c168.length]) (a := ((v6.1, c97), c169, c168, ())) rfl (wantedA_none rfl) (by kernel_rfl) (by kernel_rfl) (by kernel_rfl) (by kernel_rfl) (Sns.cons (Sn.ag2 (Sn.enc (c := cdI) (v := v6.1)) (Sn.rl (c := cdI) (xs := c97) (t := 3) (by kernel_rfl) n1_I) rfl rfl) (Sns.cons (Sn.hd (c := cdI) (xs := c169) (t := 3) (by kernel_rfl) n1_I) (Sns.cons (Sn.rl (c := cdI) (xs := c168) (t := 3) (by kernel_rfl) n1_I) Sns.nil))) (.inr (by kernel_rfl)) hv172 ?_
        refine RunS.segF (n := 86) e_evening_Plan_ok 1 [(0, .v (.int .i64 x0)), (1, .sl 1 (x1.map cdI.enc)), (8, .pt 0 0 0), (9, hd 2 (c98.map (cdL 1 (cdL 1 cdI)).enc)), (10, .rf 3 0 c168.length c168.length), (11, hd 4 (c146.map (cdL 1 cdI).enc)), (14, hd 5 (c169.map cdI.enc)), (15, .v (.int .i64 v172)), (32, .v (.int .i64 x2)), (33, .v (.int .i64 c99)), (37, .sl 1 (x1.map cdI.enc)), (38, .v (.int .i64 (x1.length : Int))), (39, .v (.int .i64 c147)), (43, .v (.int .i64 v149)), (44, .v (.int .i64 c170))] [some ⟨2, 94, [.ag [.v (.int .i64 v6.1), .rf 1 0 c97.length c97.length]], false⟩, some ⟨1, 3, (c97.map cdI.enc), false⟩, mk 1 50 (c98.map (cdL 1 (cdL 1 cdI)).enc), some ⟨1, 3, (c168.map cdI.enc), false⟩, mk 1 31 (c146.map (cdL 1 cdI).enc), mk 1 3 (c169.map cdI.enc)] (by kernel_rfl) ?_
        exact RunS.done rfl (Wk.s3 [0, 1, 2, 3, 4, 5] ⟨⟨_, rfl, bu_d⟩, ⟨_, rfl, bu_own⟩, ⟨_, rfl, bu_mk⟩, ⟨_, rfl, bu_own⟩, ⟨_, rfl, bu_mk⟩, ⟨_, rfl, bu_mk⟩, trivial⟩ ⟨lv, lv, lv, lu_hd (b' := 2) (by kernel_rfl) (by kernel_rfl), lv, lu_hd (b' := 4) (by kernel_rfl) (by kernel_rfl), lu_hd (b' := 5) (by kernel_rfl) (by kernel_rfl), lv, lv, lv, lv, lv, lv, lv, lv, trivial⟩)
      refine Sem.seq ?_
      obtain ⟨v173, hv173, h⟩ := Option.bind_eq_some_iff.1 h
      by_cases hk174 : (capOk 8 (c169.length + 1)) = true
      case neg => rw [if_neg hk174] at h; cases h
      rw [if_pos hk174] at h
      refine Sem.runS (s1 := ⟨Fr 86 [(0, .v (.int .i64 x0)), (1, .sl 1 (x1.map cdI.enc)), (8, .pt 0 0 0), (9, hd 2 (c98.map (cdL 1 (cdL 1 cdI)).enc)), (10, .rf 3 0 c168.length c168.length), (11, hd 4 (c146.map (cdL 1 cdI).enc)), (14, hd 5 ((c169 ++ [v173]).map cdI.enc)), (15, .v (.int .i64 v172)), (32, .v (.int .i64 x2)), (33, .v (.int .i64 c99)), (37, .sl 1 (x1.map cdI.enc)), (38, .v (.int .i64 (x1.length : Int))), (39, .v (.int .i64 c147)), (43, .v (.int .i64 v149)), (44, .v (.int .i64 c170))], [some ⟨2, 94, [.ag [.v (.int .i64 v6.1), .rf 1 0 c97.length c97.length]], false⟩, some ⟨1, 3, (c97.map cdI.enc), false⟩, mk 1 50 (c98.map (cdL 1 (cdL 1 cdI)).enc), some ⟨1, 3, (c168.map cdI.enc), false⟩, mk 1 31 (c146.map (cdL 1 cdI).enc), mk 1 3 ((c169 ++ [v173]).map cdI.enc)]⟩) ?_ ?_
      · refine RunS.segF (n := 86) e_evening_Plan_ok 3 [(0, .v (.int .i64 x0)), (1, .sl 1 (x1.map cdI.enc)), (8, .pt 0 0 0), (9, hd 2 (c98.map (cdL 1 (cdL 1 cdI)).enc)), (10, .rf 3 0 c168.length c168.length), (11, hd 4 (c146.map (cdL 1 cdI).enc)), (15, .v (.int .i64 v172)), (32, .v (.int .i64 x2)), (33, .v (.int .i64 c99)), (37, .sl 1 (x1.map cdI.enc)), (38, .v (.int .i64 (x1.length : Int))), (39, .v (.int .i64 c147)), (43, .v (.int .i64 v149)), (44, .v (.int .i64 c170)), (50, hd 5 (c169.map cdI.enc)), (51, .rf 3 0 c168.length c168.length), (52, .v (.int .i64 v172))] [some ⟨2, 94, [.ag [.v (.int .i64 v6.1), .rf 1 0 c97.length c97.length]], false⟩, some ⟨1, 3, (c97.map cdI.enc), false⟩, mk 1 50 (c98.map (cdL 1 (cdL 1 cdI)).enc), some ⟨1, 3, (c168.map cdI.enc), false⟩, mk 1 31 (c146.map (cdL 1 cdI).enc), mk 1 3 (c169.map cdI.enc)] (by kernel_rfl) ?_
        refine RunS.one e_evening_Plan_ok 0 rfl (op_q (wantedA_none rfl) rfl (q_indexAddr (a := .rf 3 0 c168.length c168.length) (b := .v (.int .i64 v172)) (by kernel_rfl) (by kernel_rfl) (ix_rl (e := cdI.enc) (xs := c168) (t' := 3) (el := 3) (k := 1) (ki := .i64) (by kernel_rfl) (by kernel_rfl) (by kernel_rfl) hv173))) ?_
        refine RunS.one e_evening_Plan_ok 0 rfl (op_q (wantedA_none rfl) rfl (q_load (p := .pt 3 v172.toNat 0) (by kernel_rfl) (ld_blk (B := ⟨1, 3, (c168.map cdI.enc), false⟩) (m := 1) (g := false) (e := cdI.enc) (xs := c168) (by kernel_rfl) (by kernel_rfl) (by kernel_rfl) rfl (idx_at hv173).2 (by kernel_rfl)))) ?_
        refine RunS.segF (n := 86) e_evening_Plan_ok 1 [(0, .v (.int .i64 x0)), (1, .sl 1 (x1.map cdI.enc)), (8, .pt 0 0 0), (9, hd 2 (c98.map (cdL 1 (cdL 1 cdI)).enc)), (10, .rf 3 0 c168.length c168.length), (11, hd 4 (c146.map (cdL 1 cdI).enc)), (15, .v (.int .i64 v172)), (32, .v (.int .i64 x2)), (33, .v (.int .i64 c99)), (37, .sl 1 (x1.map cdI.enc)), (38, .v (.int .i64 (x1.length : Int))), (39, .v (.int .i64 c147)), (43, .v (.int .i64 v149)), (44, .v (.int .i64 c170)), (50, hd 5 (c169.map cdI.enc)), (55, hd 6 ([v173].map cdI.enc))] [some ⟨2, 94, [.ag [.v (.int .i64 v6.1), .rf 1 0 c97.length c97.length]], false⟩, some ⟨1, 3, (c97.map cdI.enc), false⟩, mk 1 50 (c98.map (cdL 1 (cdL 1 cdI)).enc), some ⟨1, 3, (c168.map cdI.enc), false⟩, mk 1 31 (c146.map (cdL 1 cdI).enc), mk 1 3 (c169.map cdI.enc), mk 1 3 ([v173].map cdI.enc)] (by kernel_rfl) ?_
        refine RunS.one e_evening_Plan_ok 0 rfl (op_w (wantedA_none rfl) rfl (by kernel_rfl) (by kernel_rfl) (w_append (a := hd 5 (c169.map cdI.enc)) (b := hd 6 ([v173].map cdI.enc)) (by kernel_rfl) (by kernel_rfl) (append_B (c := cdI) (xs := c169) (vs := [v173]) (k := 1) (bytes := 8) (el := 3) (by kernel_rfl) (by kernel_rfl) (elems_hd (t := 3) (by kernel_rfl)) (List.cons_ne_nil _ _) (by kernel_rfl) hk174))) ?_
        refine RunS.segF (n := 86) e_evening_Plan_ok 1 [(0, .v (.int .i64 x0)), (1, .sl 1 (x1.map cdI.enc)), (8, .pt 0 0 0), (9, hd 2 (c98.map (cdL 1 (cdL 1 cdI)).enc)), (10, .rf 3 0 c168.length c168.length), (11, hd 4 (c146.map (cdL 1 cdI).enc)), (14, hd 7 ((c169 ++ [v173]).map cdI.enc)), (15, .v (.int .i64 v172)), (32, .v (.int .i64 x2)), (33, .v (.int .i64 c99)), (37, .sl 1 (x1.map cdI.enc)), (38, .v (.int .i64 (x1.length : Int))), (39, .v (.int .i64 c147)), (43, .v (.int .i64 v149)), (44, .v (.int .i64 c170))] [some ⟨2, 94, [.ag [.v (.int .i64 v6.1), .rf 1 0 c97.length c97.length]], false⟩, some ⟨1, 3, (c97.map cdI.enc), false⟩, mk 1 50 (c98.map (cdL 1 (cdL 1 cdI)).enc), some ⟨1, 3, (c168.map cdI.enc), false⟩, mk 1 31 (c146.map (cdL 1 cdI).enc), none, mk 1 3 ([v173].map cdI.enc), mk 1 3 ((c169 ++ [v173]).map cdI.enc)] (by kernel_rfl) ?_
        exact RunS.done rfl (Wk.s3 [0, 1, 2, 3, 4, 7] ⟨⟨_, rfl, bu_d⟩, ⟨_, rfl, bu_own⟩, ⟨_, rfl, bu_mk⟩, ⟨_, rfl, bu_own⟩, ⟨_, rfl, bu_mk⟩, ⟨_, rfl, bu_mk⟩, trivial⟩ ⟨lv, lv, lv, lu_hd (b' := 2) (by kernel_rfl) (by kernel_rfl), lv, lu_hd (b' := 4) (by kernel_rfl) (by kernel_rfl), lu_hd (b' := 7) (by kernel_rfl) (by kernel_rfl), lv, lv, lv, lv, lv, lv, lv, lv, trivial⟩)
      obtain ⟨v175, hv175, h⟩ := Option.bind_eq_some_iff.1 h
      refine Sem.runS (s1 := ⟨Fr 86 [(0, .v (.int .i64 x0)), (1, .sl 1 (x1.map cdI.enc)), (8, .pt 0 0 0), (9, hd 2 (c98.map (cdL 1 (cdL 1 cdI)).enc)), (10, .rf 3 0 v175.length v175.length), (11, hd 4 (c146.map (cdL 1 cdI).enc)), (14, hd 5 ((c169 ++ [v173]).map cdI.enc)), (32, .v (.int .i64 x2)), (33, .v (.int .i64 c99)), (37, .sl 1 (x1.map cdI.enc)), (38, .v (.int .i64 (x1.length : Int))), (39, .v (.int .i64 c147)), (43, .v (.int .i64 v149)), (44, .v (.int .i64 c170))], [some ⟨2, 94, [.ag [.v (.int .i64 v6.1), .rf 1 0 c97.length c97.length]], false⟩, some ⟨1, 3, (c97.map cdI.enc), false⟩, mk 1 50 (c98.map (cdL 1 (cdL 1 cdI)).enc), some ⟨1, 3, (v175.map cdI.enc), false⟩, mk 1 31 (c146.map (cdL 1 cdI).enc), mk 1 3 ((c169 ++ [v173]).map cdI.enc)]⟩) ?_ ?_
      · refine RunS.segF (n := 86) e_evening_Plan_ok 4 [(0, .v (.int .i64 x0)), (1, .sl 1 (x1.map cdI.enc)), (8, .pt 0 0 0), (9, hd 2 (c98.map (cdL 1 (cdL 1 cdI)).enc)), (11, hd 4 (c146.map (cdL 1 cdI).enc)), (14, hd 5 ((c169 ++ [v173]).map cdI.enc)), (32, .v (.int .i64 x2)), (33, .v (.int .i64 c99)), (37, .sl 1 (x1.map cdI.enc)), (38, .v (.int .i64 (x1.length : Int))), (39, .v (.int .i64 c147)), (43, .v (.int .i64 v149)), (44, .v (.int .i64 c170)), (57, .rf 3 0 c168.length c168.length), (58, .v (.int .i64 v172)), (60, .v (.int .i64 (wr .i64 (v172 + 1))))] [some ⟨2, 94, [.ag [.v (.int .i64 v6.1), .rf 1 0 c97.length c97.length]], false⟩, some ⟨1, 3, (c97.map cdI.enc), false⟩, mk 1 50 (c98.map (cdL 1 (cdL 1 cdI)).enc), some ⟨1, 3, (c168.map cdI.enc), false⟩, mk 1 31 (c146.map (cdL 1 cdI).enc), mk 1 3 ((c169 ++ [v173]).map cdI.enc)] (by kernel_rfl) ?_
        refine RunS.delete (b := 3) (xs := c168) (i := v172) (j := (wr .i64 (v172 + 1))) rfl rfl hv175 rfl (wantedA_none rfl) (by kernel_rfl) (by kernel_rfl) (by kernel_rfl) ?_
        refine RunS.segF (n := 86) e_evening_Plan_ok 1 [(0, .v (.int .i64 x0)), (1, .sl 1 (x1.map cdI.enc)), (8, .pt 0 0 0), (9, hd 2 (c98.map (cdL 1 (cdL 1 cdI)).enc)), (10, .rf 3 0 v175.length v175.length), (11, hd 4 (c146.map (cdL 1 cdI).enc)), (14, hd 5 ((c169 ++ [v173]).map cdI.enc)), (32, .v (.int .i64 x2)), (33, .v (.int .i64 c99)), (37, .sl 1 (x1.map cdI.enc)), (38, .v (.int .i64 (x1.length : Int))), (39, .v (.int .i64 c147)), (43, .v (.int .i64 v149)), (44, .v (.int .i64 c170))] [some ⟨2, 94, [.ag [.v (.int .i64 v6.1), .rf 1 0 c97.length c97.length]], false⟩, some ⟨1, 3, (c97.map cdI.enc), false⟩, mk 1 50 (c98.map (cdL 1 (cdL 1 cdI)).enc), some ⟨1, 3, (v175.map cdI.enc), false⟩, mk 1 31 (c146.map (cdL 1 cdI).enc), mk 1 3 ((c169 ++ [v173]).map cdI.enc)] (by kernel_rfl) ?_
        exact RunS.done rfl (Wk.s3 [0, 1, 2, 3, 4, 5] ⟨⟨_, rfl, bu_d⟩, ⟨_, rfl, bu_own⟩, ⟨_, rfl, bu_mk⟩, ⟨_, rfl, bu_own⟩, ⟨_, rfl, bu_mk⟩, ⟨_, rfl, bu_mk⟩, trivial⟩ ⟨lv, lv, lv, lu_hd (b' := 2) (by kernel_rfl) (by kernel_rfl), lv, lu_hd (b' := 4) (by kernel_rfl) (by kernel_rfl), lu_hd (b' := 5) (by kernel_rfl) (by kernel_rfl), lv, lv, lv, lv, lv, lv, lv, trivial⟩)
      refine Sem.runS (s1 := ⟨Fr 86 [(0, .v (.int .i64 x0)), (1, .sl 1 (x1.map cdI.enc)), (8, .pt 0 0 0), (9, hd 2 (c98.map (cdL 1 (cdL 1 cdI)).enc)), (10, .rf 3 0 v175.length v175.length), (11, hd 4 (c146.map (cdL 1 cdI).enc)), (14, hd 5 ((c169 ++ [v173]).map cdI.enc)), (32, .v (.int .i64 x2)), (33, .v (.int .i64 c99)), (37, .sl 1 (x1.map cdI.enc)), (38, .v (.int .i64 (x1.length : Int))), (39, .v (.int .i64 c147)), (43, .v (.int .i64 v149)), (44, .v (.int .i64 (wr .i64 (c170 + 1))))], [some ⟨2, 94, [.ag [.v (.int .i64 v6.1), .rf 1 0 c97.length c97.length]], false⟩, some ⟨1, 3, (c97.map cdI.enc), false⟩, mk 1 50 (c98.map (cdL 1 (cdL 1 cdI)).enc), some ⟨1, 3, (v175.map cdI.enc), false⟩, mk 1 31 (c146.map (cdL 1 cdI).enc), mk 1 3 ((c169 ++ [v173]).map cdI.enc)]⟩) ?_ ?_
      · refine RunS.segF (n := 86) e_evening_Plan_ok 2 [(0, .v (.int .i64 x0)), (1, .sl 1 (x1.map cdI.enc)), (8, .pt 0 0 0), (9, hd 2 (c98.map (cdL 1 (cdL 1 cdI)).enc)), (10, .rf 3 0 v175.length v175.length), (11, hd 4 (c146.map (cdL 1 cdI).enc)), (14, hd 5 ((c169 ++ [v173]).map cdI.enc)), (32, .v (.int .i64 x2)), (33, .v (.int .i64 c99)), (37, .sl 1 (x1.map cdI.enc)), (38, .v (.int .i64 (x1.length : Int))), (39, .v (.int .i64 c147)), (43, .v (.int .i64 v149)), (44, .v (.int .i64 (wr .i64 (c170 + 1))))] [some ⟨2, 94, [.ag [.v (.int .i64 v6.1), .rf 1 0 c97.length c97.length]], false⟩, some ⟨1, 3, (c97.map cdI.enc), false⟩, mk 1 50 (c98.map (cdL 1 (cdL 1 cdI)).enc), some ⟨1, 3, (v175.map cdI.enc), false⟩, mk 1 31 (c146.map (cdL 1 cdI).enc), mk 1 3 ((c169 ++ [v173]).map cdI.enc)] (by kernel_rfl) ?_
        exact RunS.done rfl (Wk.s3 [0, 1, 2, 3, 4, 5] ⟨⟨_, rfl, bu_d⟩, ⟨_, rfl, bu_own⟩, ⟨_, rfl, bu_mk⟩, ⟨_, rfl, bu_own⟩, ⟨_, rfl, bu_mk⟩, ⟨_, rfl, bu_mk⟩, trivial⟩ ⟨lv, lv, lv, lu_hd (b' := 2) (by kernel_rfl) (by kernel_rfl), lv, lu_hd (b' := 4) (by kernel_rfl) (by kernel_rfl), lu_hd (b' := 5) (by kernel_rfl) (by kernel_rfl), lv, lv, lv, lv, lv, lv, lv, trivial⟩)
      exact SemN.wk (s1 := ⟨Fr 86 [(0, .v (.int .i64 x0)), (1, .sl 1 (x1.map cdI.enc)), (8, .pt 0 0 0), (9, hd 2 (c98.map (cdL 1 (cdL 1 cdI)).enc)), (10, .rf 3 0 v175.length v175.length), (11, hd 4 (c146.map (cdL 1 cdI).enc)), (14, hd 5 ((c169 ++ [v173]).map cdI.enc)), (32, .v (.int .i64 x2)), (33, .v (.int .i64 c99)), (37, .sl 1 (x1.map cdI.enc)), (38, .v (.int .i64 (x1.length : Int))), (39, .v (.int .i64 c147)), (43, .v (.int .i64 v149)), (44, .v (.int .i64 (wr .i64 (c170 + 1))))], [some ⟨2, 94, [.ag [.v (.int .i64 v6.1), .rf 1 0 c97.length c97.length]], false⟩, some ⟨1, 3, (c97.map cdI.enc), false⟩, mk 1 50 (c98.map (cdL 1 (cdL 1 cdI)).enc), some ⟨1, 3, (v175.map cdI.enc), false⟩, mk 1 31 (c146.map (cdL 1 cdI).enc), mk 1 3 ((c169 ++ [v173]).map cdI.enc)]⟩) (Wk.s3 [0, 1, 2, 3, 4, 5] ⟨⟨_, rfl, bu_d⟩, ⟨_, rfl, bu_own⟩, ⟨_, rfl, bu_mk⟩, ⟨_, rfl, bu_own⟩, ⟨_, rfl, bu_mk⟩, ⟨_, rfl, bu_mk⟩, trivial⟩ ⟨lv, lv, lv, lu_hd (b' := 2) (by kernel_rfl) (by kernel_rfl), lv, lu_hd (b' := 4) (by kernel_rfl) (by kernel_rfl), lu_hd (b' := 5) (by kernel_rfl) (by kernel_rfl), lv, lv, lv, lv, lv, lv, lv, trivial⟩) (ih v175 (c169 ++ [v173]) (wr .i64 (c170 + 1)) h)
    · rw [if_f hb171] at h
      refine Sem.exit ?_
      have hq := Option.some.inj h; subst hq
      exact ⟨rfl, (Wk.s3 [0, 1, 2, 3, 4, 5] ⟨⟨_, rfl, bu_d⟩, ⟨_, rfl, bu_own⟩, ⟨_, rfl, bu_mk⟩, ⟨_, rfl, bu_own⟩, ⟨_, rfl, bu_mk⟩, ⟨_, rfl, bu_mk⟩, trivial⟩ ⟨lv, lv, lv, lu_hd (b' := 2) (by kernel_rfl) (by kernel_rfl), lv, lu_hd (b' := 4) (by kernel_rfl) (by kernel_rfl), lu_hd (b' := 5) (by kernel_rfl) (by kernel_rfl), lv, lv, lv, lv, lv, trivial⟩)⟩
set_option maxHeartbeats 4000000 in
set_option maxRecDepth 100000 in
theorem evening_Plan_2_ok (x0 : Int) (x1 : (List Int)) (x2 : Int) (v6 : Int × Int × (List Int)) (c97 : (List Int)) (c98 : (List (List (List Int)))) (c99 : Int) : ∀ (f : Nat) (c145 : (List Int)) (c146 : (List (List Int))) (c147 : Int) (r : ((List (List Int)))), evening_Plan_2 x0 x1 x2 v6 c97 c98 c99 f c145 c146 c147 = some r → SemN e_evening_Plan ⟨none, false⟩ (pc cb_evening_Plan [1, 1, 1, 1, 0, 1, 0, 0, 1, 1, 0, 0, 1, 1, 0, 1, 0, 0]) f ⟨Fr 86 [(0, .v (.int .i64 x0)), (1, .sl 1 (x1.map cdI.enc)), (8, .pt 0 0 0), (9, hd 2 (c98.map (cdL 1 (cdL 1 cdI)).enc)), (10, .rf 3 0 c145.length c145.length), (11, hd 4 (c146.map (cdL 1 cdI).enc)), (32, .v (.int .i64 x2)), (33, .v (.int .i64 c99)), (37, .sl 1 (x1.map cdI.enc)), (38, .v (.int .i64 (x1.length : Int))), (39, .v (.int .i64 c147))], [some ⟨2, 94, [.ag [.v (.int .i64 v6.1), .rf 1 0 c97.length c97.length]], false⟩, some ⟨1, 3, (c97.map cdI.enc), false⟩, mk 1 50 (c98.map (cdL 1 (cdL 1 cdI)).enc), some ⟨1, 3, (c145.map cdI.enc), false⟩, mk 1 31 (c146.map (cdL 1 cdI).enc)]⟩ (fun e s => e = (.exit 3) ∧ Wk e_evening_Plan s ⟨Fr 86 [(0, .v (.int .i64 x0)), (1, .sl 1 (x1.map cdI.enc)), (8, .pt 0 0 0), (9, hd 2 (c98.map (cdL 1 (cdL 1 cdI)).enc)), (11, hd 3 (r.map (cdL 1 cdI).enc)), (32, .v (.int .i64 x2)), (33, .v (.int .i64 c99))], [some ⟨2, 94, [.ag [.v (.int .i64 v6.1), .rf 1 0 c97.length c97.length]], false⟩, some ⟨1, 3, (c97.map cdI.enc), false⟩, mk 1 50 (c98.map (cdL 1 (cdL 1 cdI)).enc), mk 1 31 (r.map (cdL 1 cdI).enc)]⟩) := by
  intro f
  induction f with
  | zero => intro c145 c146 c147 r h; cases h
  | succ f ih0 =>
    intro c145 c146 c147 r h
    have ih := fun (c145 : (List Int)) (c146 : (List (List Int))) (c147 : Int) => ih0 c145 c146 c147 r
    unfold evening_Plan_2 at h
    refine SemN.succ ?_
    refine Sem.seq ?_
    refine Sem.runS (s1 := ⟨Fr 86 [(0, .v (.int .i64 x0)), (1, .sl 1 (x1.map cdI.enc)), (8, .pt 0 0 0), (9, hd 2 (c98.map (cdL 1 (cdL 1 cdI)).enc)), (10, .rf 3 0 c145.length c145.length), (11, hd 4 (c146.map (cdL 1 cdI).enc)), (32, .v (.int .i64 x2)), (33, .v (.int .i64 c99)), (37, .sl 1 (x1.map cdI.enc)), (38, .v (.int .i64 (x1.length : Int))), (39, .v (.int .i64 c147)), (40, .v (.bool (decide (c147 < (x1.length : Int)))))], [some ⟨2, 94, [.ag [.v (.int .i64 v6.1), .rf 1 0 c97.length c97.length]], false⟩, some ⟨1, 3, (c97.map cdI.enc), false⟩, mk 1 50 (c98.map (cdL 1 (cdL 1 cdI)).enc), some ⟨1, 3, (c145.map cdI.enc), false⟩, mk 1 31 (c146.map (cdL 1 cdI).enc)]⟩) ?_ ?_
    · refine RunS.segF (n := 86) e_evening_Plan_ok 1 [(0, .v (.int .i64 x0)), (1, .sl 1 (x1.map cdI.enc)), (8, .pt 0 0 0), (9, hd 2 (c98.map (cdL 1 (cdL 1 cdI)).enc)), (10, .rf 3 0 c145.length c145.length), (11, hd 4 (c146.map (cdL 1 cdI).enc)), (32, .v (.int .i64 x2)), (33, .v (.int .i64 c99)), (37, .sl 1 (x1.map cdI.enc)), (38, .v (.int .i64 (x1.length : Int))), (39, .v (.int .i64 c147)), (40, .v (.bool (decide (c147 < (x1.length : Int)))))] [some ⟨2, 94, [.ag [.v (.int .i64 v6.1), .rf 1 0 c97.length c97.length]], false⟩, some ⟨1, 3, (c97.map cdI.enc), false⟩, mk 1 50 (c98.map (cdL 1 (cdL 1 cdI)).enc), some ⟨1, 3, (c145.map cdI.enc), false⟩, mk 1 31 (c146.map (cdL 1 cdI).enc)] (by kernel_rfl) ?_
      exact RunS.done rfl (Wk.s3 [0, 1, 2, 3, 4] ⟨⟨_, rfl, bu_d⟩, ⟨_, rfl, bu_own⟩, ⟨_, rfl, bu_mk⟩, ⟨_, rfl, bu_own⟩, ⟨_, rfl, bu_mk⟩, trivial⟩ ⟨lv, lv, lv, lu_hd (b' := 2) (by kernel_rfl) (by kernel_rfl), lv, lu_hd (b' := 4) (by kernel_rfl) (by kernel_rfl), lv, lv, lv, lv, lv, lv, trivial⟩)
    refine Sem.seq ?_
    refine Sem.cond (b := (decide (c147 < (x1.length : Int)))) (by kernel_rfl) (fun hb148 => ?_) (fun hb148 => ?_)
    · rw [if_pos hb148] at h
      refine Sem.skip ?_
      refine Sem.seq ?_
      refine Sem.block ?_
      refine Sem.seq ?_
      obtain ⟨v149, hv149, h⟩ := Option.bind_eq_some_iff.1 h
      refine Sem.runS (s1 := ⟨Fr 86 [(0, .v (.int .i64 x0)), (1, .sl 1 (x1.map cdI.enc)), (8, .pt 0 0 0), (9, hd 2 (c98.map (cdL 1 (cdL 1 cdI)).enc)), (10, .rf 3 0 c145.length c145.length), (11, hd 4 (c146.map (cdL 1 cdI).enc)), (13, .v (.int .i64 v149)), (32, .v (.int .i64 x2)), (33, .v (.int .i64 c99)), (37, .sl 1 (x1.map cdI.enc)), (38, .v (.int .i64 (x1.length : Int))), (39, .v (.int .i64 c147))], [some ⟨2, 94, [.ag [.v (.int .i64 v6.1), .rf 1 0 c97.length c97.length]], false⟩, some ⟨1, 3, (c97.map cdI.enc), false⟩, mk 1 50 (c98.map (cdL 1 (cdL 1 cdI)).enc), some ⟨1, 3, (c145.map cdI.enc), false⟩, mk 1 31 (c146.map (cdL 1 cdI).enc)]⟩) ?_ ?_
      · refine RunS.one e_evening_Plan_ok 0 rfl (op_q (wantedA_none rfl) rfl (q_indexAddr (a := .sl 1 (x1.map cdI.enc)) (b := .v (.int .i64 c147)) (by kernel_rfl) (by kernel_rfl) (ix_sl (e := cdI.enc) (el := 3) (k := 1) (ki := .i64) (by kernel_rfl) (by kernel_rfl) hv149))) ?_
        refine RunS.segF (n := 86) e_evening_Plan_ok 2 [(0, .v (.int .i64 x0)), (1, .sl 1 (x1.map cdI.enc)), (8, .pt 0 0 0), (9, hd 2 (c98.map (cdL 1 (cdL 1 cdI)).enc)), (10, .rf 3 0 c145.length c145.length), (11, hd 4 (c146.map (cdL 1 cdI).enc)), (13, .v (.int .i64 v149)), (32, .v (.int .i64 x2)), (33, .v (.int .i64 c99)), (37, .sl 1 (x1.map cdI.enc)), (38, .v (.int .i64 (x1.length : Int))), (39, .v (.int .i64 c147))] [some ⟨2, 94, [.ag [.v (.int .i64 v6.1), .rf 1 0 c97.length c97.length]], false⟩, some ⟨1, 3, (c97.map cdI.enc), false⟩, mk 1 50 (c98.map (cdL 1 (cdL 1 cdI)).enc), some ⟨1, 3, (c145.map cdI.enc), false⟩, mk 1 31 (c146.map (cdL 1 cdI).enc)] (by kernel_rfl) ?_
        exact RunS.done rfl (Wk.s3 [0, 1, 2, 3, 4] ⟨⟨_, rfl, bu_d⟩, ⟨_, rfl, bu_own⟩, ⟨_, rfl, bu_mk⟩, ⟨_, rfl, bu_own⟩, ⟨_, rfl, bu_mk⟩, trivial⟩ ⟨lv, lv, lv, lu_hd (b' := 2) (by kernel_rfl) (by kernel_rfl), lv, lu_hd (b' := 4) (by kernel_rfl) (by kernel_rfl), lv, lv, lv, lv, lv, lv, trivial⟩)
      refine Sem.seq ?_
      refine Sem.runS (s1 := ⟨Fr 86 [(0, .v (.int .i64 x0)), (1, .sl 1 (x1.map cdI.enc)), (8, .pt 0 0 0), (9, hd 2 (c98.map (cdL 1 (cdL 1 cdI)).enc)), (10, .rf 3 0 c145.length c145.length), (11, hd 4 (c146.map (cdL 1 cdI).enc)), (13, .v (.int .i64 v149)), (14, .e0), (32, .v (.int .i64 x2)), (33, .v (.int .i64 c99)), (37, .sl 1 (x1.map cdI.enc)), (38, .v (.int .i64 (x1.length : Int))), (39, .v (.int .i64 c147))], [some ⟨2, 94, [.ag [.v (.int .i64 v6.1), .rf 1 0 c97.length c97.length]], false⟩, some ⟨1, 3, (c97.map cdI.enc), false⟩, mk 1 50 (c98.map (cdL 1 (cdL 1 cdI)).enc), some ⟨1, 3, (c145.map cdI.enc), false⟩, mk 1 31 (c146.map (cdL 1 cdI).enc)]⟩) ?_ ?_
      · refine RunS.segF (n := 86) e_evening_Plan_ok 1 [(0, .v (.int .i64 x0)), (1, .sl 1 (x1.map cdI.enc)), (8, .pt 0 0 0), (9, hd 2 (c98.map (cdL 1 (cdL 1 cdI)).enc)), (10, .rf 3 0 c145.length c145.length), (11, hd 4 (c146.map (cdL 1 cdI).enc)), (13, .v (.int .i64 v149)), (14, .e0), (32, .v (.int .i64 x2)), (33, .v (.int .i64 c99)), (37, .sl 1 (x1.map cdI.enc)), (38, .v (.int .i64 (x1.length : Int))), (39, .v (.int .i64 c147))] [some ⟨2, 94, [.ag [.v (.int .i64 v6.1), .rf 1 0 c97.length c97.length]], false⟩, some ⟨1, 3, (c97.map cdI.enc), false⟩, mk 1 50 (c98.map (cdL 1 (cdL 1 cdI)).enc), some ⟨1, 3, (c145.map cdI.enc), false⟩, mk 1 31 (c146.map (cdL 1 cdI).enc)] (by kernel_rfl) ?_
        exact RunS.done rfl (Wk.s3 [0, 1, 2, 3, 4] ⟨⟨_, rfl, bu_d⟩, ⟨_, rfl, bu_own⟩, ⟨_, rfl, bu_mk⟩, ⟨_, rfl, bu_own⟩, ⟨_, rfl, bu_mk⟩, trivial⟩ ⟨lv, lv, lv, lu_hd (b' := 2) (by kernel_rfl) (by kernel_rfl), lv, lu_hd (b' := 4) (by kernel_rfl) (by kernel_rfl), lv, lv, lv, lv, lv, lv, lv, trivial⟩)
      refine Sem.seq ?_
      refine Sem.seq ?_
      refine Sem.runS (s1 := ⟨Fr 86 [(0, .v (.int .i64 x0)), (1, .sl 1 (x1.map cdI.enc)), (8, .pt 0 0 0), (9, hd 2 (c98.map (cdL 1 (cdL 1 cdI)).enc)), (10, .rf 3 0 c145.length c145.length), (11, hd 4 (c146.map (cdL 1 cdI).enc)), (14, .e0), (32, .v (.int .i64 x2)), (33, .v (.int .i64 c99)), (37, .sl 1 (x1.map cdI.enc)), (38, .v (.int .i64 (x1.length : Int))), (39, .v (.int .i64 c147)), (43, .v (.int .i64 v149)), (44, .v (.int .i64 0))], [some ⟨2, 94, [.ag [.v (.int .i64 v6.1), .rf 1 0 c97.length c97.length]], false⟩, some ⟨1, 3, (c97.map cdI.enc), false⟩, mk 1 50 (c98.map (cdL 1 (cdL 1 cdI)).enc), some ⟨1, 3, (c145.map cdI.enc), false⟩, mk 1 31 (c146.map (cdL 1 cdI).enc)]⟩) ?_ ?_
      · refine RunS.segF (n := 86) e_evening_Plan_ok 2 [(0, .v (.int .i64 x0)), (1, .sl 1 (x1.map cdI.enc)), (8, .pt 0 0 0), (9, hd 2 (c98.map (cdL 1 (cdL 1 cdI)).enc)), (10, .rf 3 0 c145.length c145.length), (11, hd 4 (c146.map (cdL 1 cdI).enc)), (14, .e0), (32, .v (.int .i64 x2)), (33, .v (.int .i64 c99)), (37, .sl 1 (x1.map cdI.enc)), (38, .v (.int .i64 (x1.length : Int))), (39, .v (.int .i64 c147)), (43, .v (.int .i64 v149)), (44, .v (.int .i64 0))] [some ⟨2, 94, [.ag [.v (.int .i64 v6.1), .rf 1 0 c97.length c97.length]], false⟩, some ⟨1, 3, (c97.map cdI.enc), false⟩, mk 1 50 (c98.map (cdL 1 (cdL 1 cdI)).enc), some ⟨1, 3, (c145.map cdI.enc), false⟩, mk 1 31 (c146.map (cdL 1 cdI).enc)] (by kernel_rfl) ?_
        exact RunS.done rfl (Wk.s3 [0, 1, 2, 3, 4] ⟨⟨_, rfl, bu_d⟩, ⟨_, rfl, bu_own⟩, ⟨_, rfl, bu_mk⟩, ⟨_, rfl, bu_own⟩, ⟨_, rfl, bu_mk⟩, trivial⟩ ⟨lv, lv, lv, lu_hd (b' := 2) (by kernel_rfl) (by kernel_rfl), lv, lu_hd (b' := 4) (by kernel_rfl) (by kernel_rfl), lv, lv, lv, lv, lv, lv, lv, lv, trivial⟩)
      refine Sem.block ?_
      obtain ⟨r178, hr178, h⟩ := Option.bind_eq_some_iff.1 h
      refine Sem.loop (n := 100000) ?_
      refine Sem.cutN (SemN.wk (s1 := ⟨Fr 86 [(0, .v (.int .i64 x0)), (1, .sl 1 (x1.map cdI.enc)), (8, .pt 0 0 0), (9, hd 2 (c98.map (cdL 1 (cdL 1 cdI)).enc)), (10, .rf 3 0 c145.length c145.length), (11, hd 4 (c146.map (cdL 1 cdI).enc)), (14, hd 5 ([].map cdI.enc)), (32, .v (.int .i64 x2)), (33, .v (.int .i64 c99)), (37, .sl 1 (x1.map cdI.enc)), (38, .v (.int .i64 (x1.length : Int))), (39, .v (.int .i64 c147)), (43, .v (.int .i64 v149)), (44, .v (.int .i64 0))], [some ⟨2, 94, [.ag [.v (.int .i64 v6.1), .rf 1 0 c97.length c97.length]], false⟩, some ⟨1, 3, (c97.map cdI.enc), false⟩, mk 1 50 (c98.map (cdL 1 (cdL 1 cdI)).enc), some ⟨1, 3, (c145.map cdI.enc), false⟩, mk 1 31 (c146.map (cdL 1 cdI).enc), mk 1 3 ([].map cdI.enc)]⟩) (Wk.trans (s1 := ⟨Fr 86 [(0, .v (.int .i64 x0)), (1, .sl 1 (x1.map cdI.enc)), (8, .pt 0 0 0), (9, hd 2 (c98.map (cdL 1 (cdL 1 cdI)).enc)), (10, .rf 3 0 c145.length c145.length), (11, hd 4 (c146.map (cdL 1 cdI).enc)), (14, hd 5 ([].map cdI.enc)), (32, .v (.int .i64 x2)), (33, .v (.int .i64 c99)), (37, .sl 1 (x1.map cdI.enc)), (38, .v (.int .i64 (x1.length : Int))), (39, .v (.int .i64 c147)), (43, .v (.int .i64 v149)), (44, .v (.int .i64 0))], [some ⟨2, 94, [.ag [.v (.int .i64 v6.1), .rf 1 0 c97.length c97.length]], false⟩, some ⟨1, 3, (c97.map cdI.enc), false⟩, mk 1 50 (c98.map (cdL 1 (cdL 1 cdI)).enc), some ⟨1, 3, (c145.map cdI.enc), false⟩, mk 1 31 (c146.map (cdL 1 cdI).enc), mk 1 3 ([].map cdI.enc)]⟩) Wk.none (Wk.s3 [0, 1, 2, 3, 4, 5] ⟨⟨_, rfl, bu_d⟩, ⟨_, rfl, bu_own⟩, ⟨_, rfl, bu_mk⟩, ⟨_, rfl, bu_own⟩, ⟨_, rfl, bu_mk⟩, ⟨_, rfl, bu_none⟩, trivial⟩ ⟨lv, lv, lv, lu_hd (b' := 2) (by kernel_rfl) (by kernel_rfl), lv, lu_hd (b' := 4) (by kernel_rfl) (by kernel_rfl), lv, lv, lv, lv, lv, lv, lv, lv, trivial⟩)) (evening_Plan_3_ok x0 x1 x2 v6 c97 c98 c99 c146 c147 v149 _ c145 [] 0 _ hr178)) ?_
      by_cases hk179 : (capOk 24 (c146.length + 1)) = true
      case neg => rw [if_neg hk179] at h; cases h
      rw [if_pos hk179] at h
      refine Sem.runS (s1 := ⟨Fr 86 [(0, .v (.int .i64 x0)), (1, .sl 1 (x1.map cdI.enc)), (8, .pt 0 0 0), (9, hd 2 (c98.map (cdL 1 (cdL 1 cdI)).enc)), (10, .rf 3 0 r178.1.length r178.1.length), (11, hd 4 ((c146 ++ [r178.2]).map (cdL 1 cdI).enc)), (32, .v (.int .i64 x2)), (33, .v (.int .i64 c99)), (37, .sl 1 (x1.map cdI.enc)), (38, .v (.int .i64 (x1.length : Int))), (39, .v (.int .i64 c147))], [some ⟨2, 94, [.ag [.v (.int .i64 v6.1), .rf 1 0 c97.length c97.length]], false⟩, some ⟨1, 3, (c97.map cdI.enc), false⟩, mk 1 50 (c98.map (cdL 1 (cdL 1 cdI)).enc), some ⟨1, 3, (r178.1.map cdI.enc), false⟩, mk 1 31 ((c146 ++ [r178.2]).map (cdL 1 cdI).enc)]⟩) ?_ ?_
      · refine RunS.segF (n := 86) e_evening_Plan_ok 2 [(0, .v (.int .i64 x0)), (1, .sl 1 (x1.map cdI.enc)), (8, .pt 0 0 0), (9, hd 2 (c98.map (cdL 1 (cdL 1 cdI)).enc)), (10, .rf 3 0 r178.1.length r178.1.length), (32, .v (.int .i64 x2)), (33, .v (.int .i64 c99)), (37, .sl 1 (x1.map cdI.enc)), (38, .v (.int .i64 (x1.length : Int))), (39, .v (.int .i64 c147)), (63, hd 4 (c146.map (cdL 1 cdI).enc)), (64, hd 5 (r178.2.map cdI.enc))] [some ⟨2, 94, [.ag [.v (.int .i64 v6.1), .rf 1 0 c97.length c97.length]], false⟩, some ⟨1, 3, (c97.map cdI.enc), false⟩, mk 1 50 (c98.map (cdL 1 (cdL 1 cdI)).enc), some ⟨1, 3, (r178.1.map cdI.enc), false⟩, mk 1 31 (c146.map (cdL 1 cdI).enc), mk 1 3 (r178.2.map cdI.enc)] (by kernel_rfl) ?_
        refine RunS.wk (s1 := ⟨Fr 86 [(0, .v (.int .i64 x0)), (1, .sl 1 (x1.map cdI.enc)), (8, .pt 0 0 0), (9, hd 2 (c98.map (cdL 1 (cdL 1 cdI)).enc)), (10, .rf 3 0 r178.1.length r178.1.length), (32, .v (.int .i64 x2)), (33, .v (.int .i64 c99)), (37, .sl 1 (x1.map cdI.enc)), (38, .v (.int .i64 (x1.length : Int))), (39, .v (.int .i64 c147)), (63, hd 4 (c146.map (cdL 1 cdI).enc)), (64, .sl 1 (r178.2.map cdI.enc))], [some ⟨2, 94, [.ag [.v (.int .i64 v6.1), .rf 1 0 c97.length c97.length]], false⟩, some ⟨1, 3, (c97.map cdI.enc), false⟩, mk 1 50 (c98.map (cdL 1 (cdL 1 cdI)).enc), some ⟨1, 3, (r178.1.map cdI.enc), false⟩, mk 1 31 (c146.map (cdL 1 cdI).enc), none]⟩) (Wk.frzG 5 (.inl (by kernel_rfl)) ⟨.inr (.inr ⟨_, _, _, _, rfl, rfl, ⟨.inl rfl, trivial⟩⟩), .inr (.inl rfl), .inr (.inl rfl), .inr (.inl rfl), .inr (.inl rfl), .inl rfl, trivial⟩ ⟨⟨.v (.int .i64 x0), (by kernel_rfl), .inl rfl⟩, ⟨.sl 1 (x1.map cdI.enc), (by kernel_rfl), .inl rfl⟩, ⟨.pt 0 0 0, (by kernel_rfl), .inl rfl⟩, ⟨hd 2 (c98.map (cdL 1 (cdL 1 cdI)).enc), (by kernel_rfl), .inl rfl⟩, ⟨.rf 3 0 r178.1.length r178.1.length, (by kernel_rfl), .inl rfl⟩, ⟨.v (.int .i64 x2), (by kernel_rfl), .inl rfl⟩, ⟨.v (.int .i64 c99), (by kernel_rfl), .inl rfl⟩, ⟨.sl 1 (x1.map cdI.enc), (by kernel_rfl), .inl rfl⟩, ⟨.v (.int .i64 (x1.length : Int)), (by kernel_rfl), .inl rfl⟩, ⟨.v (.int .i64 c147), (by kernel_rfl), .inl rfl⟩, ⟨hd 4 (c146.map (cdL 1 cdI).enc), (by kernel_rfl), .inl rfl⟩, ⟨hd 5 (r178.2.map cdI.enc), (by kernel_rfl), fz_hd (t := 3) (by kernel_rfl) enc_ok⟩, trivial⟩) ?_
        refine RunS.segF (n := 86) e_evening_Plan_ok 1 [(0, .v (.int .i64 x0)), (1, .sl 1 (x1.map cdI.enc)), (8, .pt 0 0 0), (9, hd 2 (c98.map (cdL 1 (cdL 1 cdI)).enc)), (10, .rf 3 0 r178.1.length r178.1.length), (32, .v (.int .i64 x2)), (33, .v (.int .i64 c99)), (37, .sl 1 (x1.map cdI.enc)), (38, .v (.int .i64 (x1.length : Int))), (39, .v (.int .i64 c147)), (63, hd 4 (c146.map (cdL 1 cdI).enc)), (65, hd 6 ([r178.2].map (cdL 1 cdI).enc))] [some ⟨2, 94, [.ag [.v (.int .i64 v6.1), .rf 1 0 c97.length c97.length]], false⟩, some ⟨1, 3, (c97.map cdI.enc), false⟩, mk 1 50 (c98.map (cdL 1 (cdL 1 cdI)).enc), some ⟨1, 3, (r178.1.map cdI.enc), false⟩, mk 1 31 (c146.map (cdL 1 cdI).enc), none, mk 1 31 ([r178.2].map (cdL 1 cdI).enc)] (by kernel_rfl) ?_
        refine RunS.one e_evening_Plan_ok 0 rfl (op_w (wantedA_none rfl) rfl (by kernel_rfl) (by kernel_rfl) (w_append (a := hd 4 (c146.map (cdL 1 cdI).enc)) (b := hd 6 ([r178.2].map (cdL 1 cdI).enc)) (by kernel_rfl) (by kernel_rfl) (append_B (c := (cdL 1 cdI)) (xs := c146) (vs := [r178.2]) (k := 1) (bytes := 24) (el := 31) (by kernel_rfl) (by kernel_rfl) (elems_hd (t := 31) (by kernel_rfl)) (List.cons_ne_nil _ _) (by kernel_rfl) hk179))) ?_
        refine RunS.segF (n := 86) e_evening_Plan_ok 1 [(0, .v (.int .i64 x0)), (1, .sl 1 (x1.map cdI.enc)), (8, .pt 0 0 0), (9, hd 2 (c98.map (cdL 1 (cdL 1 cdI)).enc)), (10, .rf 3 0 r178.1.length r178.1.length), (11, hd 7 ((c146 ++ [r178.2]).map (cdL 1 cdI).enc)), (32, .v (.int .i64 x2)), (33, .v (.int .i64 c99)), (37, .sl 1 (x1.map cdI.enc)), (38, .v (.int .i64 (x1.length : Int))), (39, .v (.int .i64 c147))] [some ⟨2, 94, [.ag [.v (.int .i64 v6.1), .rf 1 0 c97.length c97.length]], false⟩, some ⟨1, 3, (c97.map cdI.enc), false⟩, mk 1 50 (c98.map (cdL 1 (cdL 1 cdI)).enc), some ⟨1, 3, (r178.1.map cdI.enc), false⟩, none, none, mk 1 31 ([r178.2].map (cdL 1 cdI).enc), mk 1 31 ((c146 ++ [r178.2]).map (cdL 1 cdI).enc)] (by kernel_rfl) ?_
        exact RunS.done rfl (Wk.s3 [0, 1, 2, 3, 7] ⟨⟨_, rfl, bu_d⟩, ⟨_, rfl, bu_own⟩, ⟨_, rfl, bu_mk⟩, ⟨_, rfl, bu_own⟩, ⟨_, rfl, bu_mk⟩, trivial⟩ ⟨lv, lv, lv, lu_hd (b' := 2) (by kernel_rfl) (by kernel_rfl), lv, lu_hd (b' := 7) (by kernel_rfl) (by kernel_rfl), lv, lv, lv, lv, lv, trivial⟩)
      refine Sem.runS (s1 := ⟨Fr 86 [(0, .v (.int .i64 x0)), (1, .sl 1 (x1.map cdI.enc)), (8, .pt 0 0 0), (9, hd 2 (c98.map (cdL 1 (cdL 1 cdI)).enc)), (10, .rf 3 0 r178.1.length r178.1.length), (11, hd 4 ((c146 ++ [r178.2]).map (cdL 1 cdI).enc)), (32, .v (.int .i64 x2)), (33, .v (.int .i64 c99)), (37, .sl 1 (x1.map cdI.enc)), (38, .v (.int .i64 (x1.length : Int))), (39, .v (.int .i64 (wr .i64 (c147 + 1))))], [some ⟨2, 94, [.ag [.v (.int .i64 v6.1), .rf 1 0 c97.length c97.length]], false⟩, some ⟨1, 3, (c97.map cdI.enc), false⟩, mk 1 50 (c98.map (cdL 1 (cdL 1 cdI)).enc), some ⟨1, 3, (r178.1.map cdI.enc), false⟩, mk 1 31 ((c146 ++ [r178.2]).map (cdL 1 cdI).enc)]⟩) ?_ ?_
      · refine RunS.segF (n := 86) e_evening_Plan_ok 2 [(0, .v (.int .i64 x0)), (1, .sl 1 (x1.map cdI.enc)), (8, .pt 0 0 0), (9, hd 2 (c98.map (cdL 1 (cdL 1 cdI)).enc)), (10, .rf 3 0 r178.1.length r178.1.length), (11, hd 4 ((c146 ++ [r178.2]).map (cdL 1 cdI).enc)), (32, .v (.int .i64 x2)), (33, .v (.int .i64 c99)), (37, .sl 1 (x1.map cdI.enc)), (38, .v (.int .i64 (x1.length : Int))), (39, .v (.int .i64 (wr .i64 (c147 + 1))))] [some ⟨2, 94, [.ag [.v (.int .i64 v6.1), .rf 1 0 c97.length c97.length]], false⟩, some ⟨1, 3, (c97.map cdI.enc), false⟩, mk 1 50 (c98.map (cdL 1 (cdL 1 cdI)).enc), some ⟨1, 3, (r178.1.map cdI.enc), false⟩, mk 1 31 ((c146 ++ [r178.2]).map (cdL 1 cdI).enc)] (by kernel_rfl) ?_
        exact RunS.done rfl (Wk.s3 [0, 1, 2, 3, 4] ⟨⟨_, rfl, bu_d⟩, ⟨_, rfl, bu_own⟩, ⟨_, rfl, bu_mk⟩, ⟨_, rfl, bu_own⟩, ⟨_, rfl, bu_mk⟩, trivial⟩ ⟨lv, lv, lv, lu_hd (b' := 2) (by kernel_rfl) (by kernel_rfl), lv, lu_hd (b' := 4) (by kernel_rfl) (by kernel_rfl), lv, lv, lv, lv, lv, trivial⟩)
      exact SemN.wk (s1 := ⟨Fr 86 [(0, .v (.int .i64 x0)), (1, .sl 1 (x1.map cdI.enc)), (8, .pt 0 0 0), (9, hd 2 (c98.map (cdL 1 (cdL 1 cdI)).enc)), (10, .rf 3 0 r178.1.length r178.1.length), (11, hd 4 ((c146 ++ [r178.2]).map (cdL 1 cdI).enc)), (32, .v (.int .i64 x2)), (33, .v (.int .i64 c99)), (37, .sl 1 (x1.map cdI.enc)), (38, .v (.int .i64 (x1.length : Int))), (39, .v (.int .i64 (wr .i64 (c147 + 1))))], [some ⟨2, 94, [.ag [.v (.int .i64 v6.1), .rf 1 0 c97.length c97.length]], false⟩, some ⟨1, 3, (c97.map cdI.enc), false⟩, mk 1 50 (c98.map (cdL 1 (cdL 1 cdI)).enc), some ⟨1, 3, (r178.1.map cdI.enc), false⟩, mk 1 31 ((c146 ++ [r178.2]).map (cdL 1 cdI).enc)]⟩) (Wk.s3 [0, 1, 2, 3, 4] ⟨⟨_, rfl, bu_d⟩, ⟨_, rfl, bu_own⟩, ⟨_, rfl, bu_mk⟩, ⟨_, rfl, bu_own⟩, ⟨_, rfl, bu_mk⟩, trivial⟩ ⟨lv, lv, lv, lu_hd (b' := 2) (by kernel_rfl) (by kernel_rfl), lv, lu_hd (b' := 4) (by kernel_rfl) (by kernel_rfl), lv, lv, lv, lv, lv, trivial⟩) (ih r178.1 (c146 ++ [r178.2]) (wr .i64 (c147 + 1)) h)
    · rw [if_f hb148] at h
      refine Sem.exit ?_
      have hq := Option.some.inj h; subst hq
      exact ⟨rfl, (Wk.s3 [0, 1, 2, 4] ⟨⟨_, rfl, bu_d⟩, ⟨_, rfl, bu_own⟩, ⟨_, rfl, bu_mk⟩, ⟨_, rfl, bu_mk⟩, trivial⟩ ⟨lv, lv, lv, lu_hd (b' := 2) (by kernel_rfl) (by kernel_rfl), lu_hd (b' := 4) (by kernel_rfl) (by kernel_rfl), lv, lv, trivial⟩)⟩
set_option maxHeartbeats 4000000 in
set_option maxRecDepth 100000 in
theorem evening_Plan_1_ok (x0 : Int) (x1 : (List Int)) (x2 : Int) (v6 : Int × Int × (List Int)) : ∀ (f : Nat) (c97 : (List Int)) (c98 : (List (List (List Int)))) (c99 : Int) (r : ((List (List (List Int))))), evening_Plan_1 x0 x1 x2 v6 f c97 c98 c99 = some r → SemN e_evening_Plan ⟨none, false⟩ (pc cb_evening_Plan [1, 1, 1, 1, 0, 1, 0, 0]) f ⟨Fr 86 [(0, .v (.int .i64 x0)), (1, .sl 1 (x1.map cdI.enc)), (8, .pt 0 0 0), (9, hd 2 (c98.map (cdL 1 (cdL 1 cdI)).enc)), (32, .v (.int .i64 x2)), (33, .v (.int .i64 c99))], [some ⟨2, 94, [.ag [.v (.int .i64 v6.1), .rf 1 0 c97.length c97.length]], false⟩, some ⟨1, 3, (c97.map cdI.enc), false⟩, mk 1 50 (c98.map (cdL 1 (cdL 1 cdI)).enc)]⟩ (fun e s => e = (.exit 1) ∧ Wk e_evening_Plan s ⟨Fr 86 [(9, hd 0 (r.map (cdL 1 (cdL 1 cdI)).enc))], [mk 1 50 (r.map (cdL 1 (cdL 1 cdI)).enc)]⟩) := by
  intro f
  induction f with
  | zero => intro c97 c98 c99 r h; cases h
  | succ f ih0 =>
    intro c97 c98 c99 r h
    have ih := fun (c97 : (List Int)) (c98 : (List (List (List Int)))) (c99 : Int) => ih0 c97 c98 c99 r
    unfold evening_Plan_1 at h
    refine SemN.succ ?_
    refine Sem.seq ?_
    refine Sem.runS (s1 := ⟨Fr 86 [(0, .v (.int .i64 x0)), (1, .sl 1 (x1.map cdI.enc)), (8, .pt 0 0 0), (9, hd 2 (c98.map (cdL 1 (cdL 1 cdI)).enc)), (32, .v (.int .i64 x2)), (33, .v (.int .i64 c99)), (34, .v (.bool (decide (c99 < x2))))], [some ⟨2, 94, [.ag [.v (.int .i64 v6.1), .rf 1 0 c97.length c97.length]], false⟩, some ⟨1, 3, (c97.map cdI.enc), false⟩, mk 1 50 (c98.map (cdL 1 (cdL 1 cdI)).enc)]⟩) ?_ ?_
    · refine RunS.segF (n := 86) e_evening_Plan_ok 1 [(0, .v (.int .i64 x0)), (1, .sl 1 (x1.map cdI.enc)), (8, .pt 0 0 0), (9, hd 2 (c98.map (cdL 1 (cdL 1 cdI)).enc)), (32, .v (.int .i64 x2)), (33, .v (.int .i64 c99)), (34, .v (.bool (decide (c99 < x2))))] [some ⟨2, 94, [.ag [.v (.int .i64 v6.1), .rf 1 0 c97.length c97.length]], false⟩, some ⟨1, 3, (c97.map cdI.enc), false⟩, mk 1 50 (c98.map (cdL 1 (cdL 1 cdI)).enc)] (by kernel_rfl) ?_
      exact RunS.done rfl (Wk.s3 [0, 1, 2] ⟨⟨_, rfl, bu_d⟩, ⟨_, rfl, bu_own⟩, ⟨_, rfl, bu_mk⟩, trivial⟩ ⟨lv, lv, lv, lu_hd (b' := 2) (by kernel_rfl) (by kernel_rfl), lv, lv, lv, trivial⟩)
    refine Sem.seq ?_
    refine Sem.cond (b := (decide (c99 < x2))) (by kernel_rfl) (fun hb100 => ?_) (fun hb100 => ?_)
    · rw [if_pos hb100] at h
      refine Sem.skip ?_
      refine Sem.seq ?_
      refine Sem.block ?_
      refine Sem.seq ?_
      obtain ⟨v101, hv101, h⟩ := Option.bind_eq_some_iff.1 h
      by_cases hk102 : (decide (0 < v101.length)) = true
      case neg => rw [if_neg hk102] at h; cases h
      rw [if_pos hk102] at h
      refine Sem.runS (s1 := ⟨Fr 86 [(0, .v (.int .i64 x0)), (1, .sl 1 (x1.map cdI.enc)), (8, .pt 0 0 0), (9, hd 2 (c98.map (cdL 1 (cdL 1 cdI)).enc)), (10, .rf 3 0 v101.length v101.length), (32, .v (.int .i64 x2)), (33, .v (.int .i64 c99))], [some ⟨2, 94, [.ag [.v (.int .i64 v6.1), .rf 1 0 c97.length c97.length]], false⟩, some ⟨1, 3, (c97.map cdI.enc), false⟩, mk 1 50 (c98.map (cdL 1 (cdL 1 cdI)).enc), some ⟨1, 3, (v101.map cdI.enc), false⟩]⟩) ?_ ?_
      · refine RunS.segF (n := 86) e_evening_Plan_ok 1 [(0, .v (.int .i64 x0)), (1, .sl 1 (x1.map cdI.enc)), (8, .pt 0 0 0), (9, hd 2 (c98.map (cdL 1 (cdL 1 cdI)).enc)), (32, .v (.int .i64 x2)), (33, .v (.int .i64 c99)), (35, .v (.int .i64 x0))] [some ⟨2, 94, [.ag [.v (.int .i64 v6.1), .rf 1 0 c97.length c97.length]], false⟩, some ⟨1, 3, (c97.map cdI.enc), false⟩, mk 1 50 (c98.map (cdL 1 (cdL 1 cdI)).enc)] (by kernel_rfl) ?_
        refine RunS.callO1 (c := cdI) (vs := v101) rfl rfl (s_evening_span 0 x0 _ hv101) hk102 rfl (wantedA_none rfl) (by kernel_rfl) (by kernel_rfl) (by kernel_rfl) (noRf_map (c := cdI) (fun _ => rfl) _) ?_
        refine RunS.segF (n := 86) e_evening_Plan_ok 1 [(0, .v (.int .i64 x0)), (1, .sl 1 (x1.map cdI.enc)), (8, .pt 0 0 0), (9, hd 2 (c98.map (cdL 1 (cdL 1 cdI)).enc)), (10, .rf 3 0 v101.length v101.length), (32, .v (.int .i64 x2)), (33, .v (.int .i64 c99))] [some ⟨2, 94, [.ag [.v (.int .i64 v6.1), .rf 1 0 c97.length c97.length]], false⟩, some ⟨1, 3, (c97.map cdI.enc), false⟩, mk 1 50 (c98.map (cdL 1 (cdL 1 cdI)).enc), some ⟨1, 3, (v101.map cdI.enc), false⟩] (by kernel_rfl) ?_
        exact RunS.done rfl (Wk.s3 [0, 1, 2, 3] ⟨⟨_, rfl, bu_d⟩, ⟨_, rfl, bu_own⟩, ⟨_, rfl, bu_mk⟩, ⟨_, rfl, bu_own⟩, trivial⟩ ⟨lv, lv, lv, lu_hd (b' := 2) (by kernel_rfl) (by kernel_rfl), lv, lv, lv, trivial⟩)
      refine Sem.seq ?_
      refine Sem.runS (s1 := ⟨Fr 86 [(0, .v (.int .i64 x0)), (1, .sl 1 (x1.map cdI.enc)), (8, .pt 0 0 0), (9, hd 2 (c98.map (cdL 1 (cdL 1 cdI)).enc)), (10, .rf 3 0 v101.length v101.length), (11, .e0), (32, .v (.int .i64 x2)), (33, .v (.int .i64 c99))], [some ⟨2, 94, [.ag [.v (.int .i64 v6.1), .rf 1 0 c97.length c97.length]], false⟩, some ⟨1, 3, (c97.map cdI.enc), false⟩, mk 1 50 (c98.map (cdL 1 (cdL 1 cdI)).enc), some ⟨1, 3, (v101.map cdI.enc), false⟩]⟩) ?_ ?_
      · refine RunS.segF (n := 86) e_evening_Plan_ok 1 [(0, .v (.int .i64 x0)), (1, .sl 1 (x1.map cdI.enc)), (8, .pt 0 0 0), (9, hd 2 (c98.map (cdL 1 (cdL 1 cdI)).enc)), (10, .rf 3 0 v101.length v101.length), (11, .e0), (32, .v (.int .i64 x2)), (33, .v (.int .i64 c99))] [some ⟨2, 94, [.ag [.v (.int .i64 v6.1), .rf 1 0 c97.length c97.length]], false⟩, some ⟨1, 3, (c97.map cdI.enc), false⟩, mk 1 50 (c98.map (cdL 1 (cdL 1 cdI)).enc), some ⟨1, 3, (v101.map cdI.enc), false⟩] (by kernel_rfl) ?_
        exact RunS.done rfl (Wk.s3 [0, 1, 2, 3] ⟨⟨_, rfl, bu_d⟩, ⟨_, rfl, bu_own⟩, ⟨_, rfl, bu_mk⟩, ⟨_, rfl, bu_own⟩, trivial⟩ ⟨lv, lv, lv, lu_hd (b' := 2) (by kernel_rfl) (by kernel_rfl), lv, lv, lv, lv, trivial⟩)
      refine Sem.seq ?_
      refine Sem.seq ?_
      refine Sem.runS (s1 := ⟨Fr 86 [(0, .v (.int .i64 x0)), (1, .sl 1 (x1.map cdI.enc)), (8, .pt 0 0 0), (9, hd 2 (c98.map (cdL 1 (cdL 1 cdI)).enc)), (10, .rf 3 0 v101.length v101.length), (11, .e0), (32, .v (.int .i64 x2)), (33, .v (.int .i64 c99)), (37, .sl 1 (x1.map cdI.enc)), (38, .v (.int .i64 (x1.length : Int))), (39, .v (.int .i64 0))], [some ⟨2, 94, [.ag [.v (.int .i64 v6.1), .rf 1 0 c97.length c97.length]], false⟩, some ⟨1, 3, (c97.map cdI.enc), false⟩, mk 1 50 (c98.map (cdL 1 (cdL 1 cdI)).enc), some ⟨1, 3, (v101.map cdI.enc), false⟩]⟩) ?_ ?_
      · refine RunS.segF (n := 86) e_evening_Plan_ok 1 [(0, .v (.int .i64 x0)), (1, .sl 1 (x1.map cdI.enc)), (8, .pt 0 0 0), (9, hd 2 (c98.map (cdL 1 (cdL 1 cdI)).enc)), (10, .rf 3 0 v101.length v101.length), (11, .e0), (32, .v (.int .i64 x2)), (33, .v (.int .i64 c99)), (37, .sl 1 (x1.map cdI.enc))] [some ⟨2, 94, [.ag [.v (.int .i64 v6.1), .rf 1 0 c97.length c97.length]], false⟩, some ⟨1, 3, (c97.map cdI.enc), false⟩, mk 1 50 (c98.map (cdL 1 (cdL 1 cdI)).enc), some ⟨1, 3, (v101.map cdI.enc), false⟩] (by kernel_rfl) ?_
        refine RunS.one e_evening_Plan_ok 0 rfl (op_q (wantedA_none rfl) rfl (q_len (a := .sl 1 (x1.map cdI.enc)) (by kernel_rfl) (len_sl (el := 3) (by kernel_rfl)))) ?_
        refine RunS.segF (n := 86) e_evening_Plan_ok 1 [(0, .v (.int .i64 x0)), (1, .sl 1 (x1.map cdI.enc)), (8, .pt 0 0 0), (9, hd 2 (c98.map (cdL 1 (cdL 1 cdI)).enc)), (10, .rf 3 0 v101.length v101.length), (11, .e0), (32, .v (.int .i64 x2)), (33, .v (.int .i64 c99)), (37, .sl 1 (x1.map cdI.enc)), (38, .v (.int .i64 (x1.length : Int))), (39, .v (.int .i64 0))] [some ⟨2, 94, [.ag [.v (.int .i64 v6.1), .rf 1 0 c97.length c97.length]], false⟩, some ⟨1, 3, (c97.map cdI.enc), false⟩, mk 1 50 (c98.map (cdL 1 (cdL 1 cdI)).enc), some ⟨1, 3, (v101.map cdI.enc), false⟩] (by kernel_rfl) ?_
        exact RunS.done rfl (Wk.s3 [0, 1, 2, 3] ⟨⟨_, rfl, bu_d⟩, ⟨_, rfl, bu_own⟩, ⟨_, rfl, bu_mk⟩, ⟨_, rfl, bu_own⟩, trivial⟩ ⟨lv, lv, lv, lu_hd (b' := 2) (by kernel_rfl) (by kernel_rfl), lv, lv, lv, lv, lv, lv, lv, trivial⟩)
      refine Sem.block ?_
      obtain ⟨r181, hr181, h⟩ := Option.bind_eq_some_iff.1 h
      refine Sem.loop (n := 100000) ?_
      refine Sem.cutN (SemN.wk (s1 := ⟨Fr 86 [(0, .v (.int .i64 x0)), (1, .sl 1 (x1.map cdI.enc)), (8, .pt 0 0 0), (9, hd 2 (c98.map (cdL 1 (cdL 1 cdI)).enc)), (10, .rf 3 0 v101.length v101.length), (11, hd 4 ([].map (cdL 1 cdI).enc)), (32, .v (.int .i64 x2)), (33, .v (.int .i64 c99)), (37, .sl 1 (x1.map cdI.enc)), (38, .v (.int .i64 (x1.length : Int))), (39, .v (.int .i64 0))], [some ⟨2, 94, [.ag [.v (.int .i64 v6.1), .rf 1 0 c97.length c97.length]], false⟩, some ⟨1, 3, (c97.map cdI.enc), false⟩, mk 1 50 (c98.map (cdL 1 (cdL 1 cdI)).enc), some ⟨1, 3, (v101.map cdI.enc), false⟩, mk 1 31 ([].map (cdL 1 cdI).enc)]⟩) (Wk.trans (s1 := ⟨Fr 86 [(0, .v (.int .i64 x0)), (1, .sl 1 (x1.map cdI.enc)), (8, .pt 0 0 0), (9, hd 2 (c98.map (cdL 1 (cdL 1 cdI)).enc)), (10, .rf 3 0 v101.length v101.length), (11, hd 4 ([].map (cdL 1 cdI).enc)), (32, .v (.int .i64 x2)), (33, .v (.int .i64 c99)), (37, .sl 1 (x1.map cdI.enc)), (38, .v (.int .i64 (x1.length : Int))), (39, .v (.int .i64 0))], [some ⟨2, 94, [.ag [.v (.int .i64 v6.1), .rf 1 0 c97.length c97.length]], false⟩, some ⟨1, 3, (c97.map cdI.enc), false⟩, mk 1 50 (c98.map (cdL 1 (cdL 1 cdI)).enc), some ⟨1, 3, (v101.map cdI.enc), false⟩, mk 1 31 ([].map (cdL 1 cdI).enc)]⟩) Wk.none (Wk.s3 [0, 1, 2, 3, 4] ⟨⟨_, rfl, bu_d⟩, ⟨_, rfl, bu_own⟩, ⟨_, rfl, bu_mk⟩, ⟨_, rfl, bu_own⟩, ⟨_, rfl, bu_none⟩, trivial⟩ ⟨lv, lv, lv, lu_hd (b' := 2) (by kernel_rfl) (by kernel_rfl), lv, lv, lv, lv, lv, lv, lv, trivial⟩)) (evening_Plan_2_ok x0 x1 x2 v6 c97 c98 c99 _ v101 [] 0 _ hr181)) ?_
      refine Sem.seq ?_
      refine Sem.seq ?_
      obtain ⟨v182, hv182, h⟩ := Option.bind_eq_some_iff.1 h
      refine Sem.runS (s1 := ⟨Fr 86 [(0, .v (.int .i64 x0)), (1, .sl 1 (x1.map cdI.enc)), (8, .pt 0 0 0), (9, hd 2 (c98.map (cdL 1 (cdL 1 cdI)).enc)), (11, .sl 1 (r181.map (cdL 1 cdI).enc)), (32, .v (.int .i64 x2)), (33, .v (.int .i64 c99)), (69, .fn 108 [] [.pt 3 0 0])], [some ⟨2, 94, [.ag [.v (.int .i64 v6.1), .rf 1 0 c97.length c97.length]], false⟩, some ⟨1, 3, (c97.map cdI.enc), false⟩, mk 1 50 (c98.map (cdL 1 (cdL 1 cdI)).enc), some ⟨1, 50, [.sl 1 (v182.map (cdL 1 cdI).enc)], false⟩]⟩) ?_ ?_
      · refine RunS.segF (n := 86) e_evening_Plan_ok 1 [(0, .v (.int .i64 x0)), (1, .sl 1 (x1.map cdI.enc)), (8, .pt 0 0 0), (9, hd 2 (c98.map (cdL 1 (cdL 1 cdI)).enc)), (11, hd 3 (r181.map (cdL 1 cdI).enc)), (32, .v (.int .i64 x2)), (33, .v (.int .i64 c99)), (68, hd 3 (r181.map (cdL 1 cdI).enc))] [some ⟨2, 94, [.ag [.v (.int .i64 v6.1), .rf 1 0 c97.length c97.length]], false⟩, some ⟨1, 3, (c97.map cdI.enc), false⟩, mk 1 50 (c98.map (cdL 1 (cdL 1 cdI)).enc), mk 1 31 (r181.map (cdL 1 cdI).enc)] (by kernel_rfl) ?_
        refine RunS.wk (s1 := ⟨Fr 86 [(0, .v (.int .i64 x0)), (1, .sl 1 (x1.map cdI.enc)), (8, .pt 0 0 0), (9, hd 2 (c98.map (cdL 1 (cdL 1 cdI)).enc)), (11, .sl 1 (r181.map (cdL 1 cdI).enc)), (32, .v (.int .i64 x2)), (33, .v (.int .i64 c99)), (68, .sl 1 (r181.map (cdL 1 cdI).enc))], [some ⟨2, 94, [.ag [.v (.int .i64 v6.1), .rf 1 0 c97.length c97.length]], false⟩, some ⟨1, 3, (c97.map cdI.enc), false⟩, mk 1 50 (c98.map (cdL 1 (cdL 1 cdI)).enc), none]⟩) (Wk.frzG 3 (.inl (by kernel_rfl)) ⟨.inr (.inr ⟨_, _, _, _, rfl, rfl, ⟨.inl rfl, trivial⟩⟩), .inr (.inl rfl), .inr (.inl rfl), .inl rfl, trivial⟩ ⟨⟨.v (.int .i64 x0), (by kernel_rfl), .inl rfl⟩, ⟨.sl 1 (x1.map cdI.enc), (by kernel_rfl), .inl rfl⟩, ⟨.pt 0 0 0, (by kernel_rfl), .inl rfl⟩, ⟨hd 2 (c98.map (cdL 1 (cdL 1 cdI)).enc), (by kernel_rfl), .inl rfl⟩, ⟨hd 3 (r181.map (cdL 1 cdI).enc), (by kernel_rfl), fz_hd (t := 31) (by kernel_rfl) enc_ok⟩, ⟨.v (.int .i64 x2), (by kernel_rfl), .inl rfl⟩, ⟨.v (.int .i64 c99), (by kernel_rfl), .inl rfl⟩, ⟨hd 3 (r181.map (cdL 1 cdI).enc), (by kernel_rfl), fz_hd (t := 31) (by kernel_rfl) enc_ok⟩, trivial⟩) ?_
        refine RunS.inlY (fid := 72) (caps := []) (xs := [.sl 1 (r181.map (cdL 1 cdI).enc)]) (fn := Tryd.f72) (Out := fun x h' => x = .fn 108 [] [.pt 4 0 0] ∧ h' = [some ⟨2, 94, [.ag [.v (.int .i64 v6.1), .rf 1 0 c97.length c97.length]], false⟩, some ⟨1, 3, (c97.map cdI.enc), false⟩, mk 1 50 (c98.map (cdL 1 (cdL 1 cdI)).enc), none, some ⟨1, 50, [.sl 1 (v182.map (cdL 1 cdI).enc)], false⟩]) rfl rfl e_evening_Plan_k2_ok rfl rfl rfl (wantedA_none rfl) (by kernel_rfl) (by kernel_rfl) (by kernel_rfl) (by kernel_rfl) (by show 1 ≤ 4; decide) (evening_Plan_k2_sem v6.1 c97 c98 r181 _ hv182) ?_
        rintro x h' ⟨rfl, rfl⟩
        exact RunS.done rfl (Wk.s3 [0, 1, 2, 4] ⟨⟨_, rfl, bu_d⟩, ⟨_, rfl, bu_own⟩, ⟨_, rfl, bu_mk⟩, ⟨_, rfl, bu_d⟩, trivial⟩ ⟨lv, lv, lv, lu_hd (b' := 2) (by kernel_rfl) (by kernel_rfl), lv, lv, lv, lv, trivial⟩)
      refine Sem.block ?_
      obtain ⟨v183, hv183, h⟩ := Option.bind_eq_some_iff.1 h
      refine Sem.range (E := e_evening_Plan) (gid := 108) (caps := [.pt 3 0 0]) (fn := Tryd.f108) (Out := fun x h' => x = .tp [] ∧ h' = [some ⟨2, 94, [.ag [.v (.int .i64 v6.1), .rf 1 0 v183.length v183.length]], false⟩, some ⟨1, 3, (v183.map cdI.enc), false⟩, mk 1 50 (c98.map (cdL 1 (cdL 1 cdI)).enc), some ⟨1, 50, [.sl 1 (v182.map (cdL 1 cdI).enc)], false⟩, none]) rfl rfl e_evening_Plan_k3_ok rfl rfl rfl (by kernel_rfl) (by kernel_rfl) (by kernel_rfl) (by kernel_rfl) (by kernel_rfl) (by show 2 ≤ 42; decide) (evening_Plan_k3_sem v6.1 c97 c98 v182 x0 x1 r181 x2 c99 _ hv183) ?_
      rintro x h' ⟨-, rfl⟩
      by_cases hk184 : (capOk 24 (c98.length + 1)) = true
      case neg => rw [if_neg hk184] at h; cases h
      rw [if_pos hk184] at h
      refine Sem.runS (s1 := ⟨Fr 86 [(0, .v (.int .i64 x0)), (1, .sl 1 (x1.map cdI.enc)), (8, .pt 0 0 0), (9, hd 2 ((c98 ++ [r181]).map (cdL 1 (cdL 1 cdI)).enc)), (32, .v (.int .i64 x2)), (33, .v (.int .i64 c99))], [some ⟨2, 94, [.ag [.v (.int .i64 v6.1), .rf 1 0 v183.length v183.length]], false⟩, some ⟨1, 3, (v183.map cdI.enc), false⟩, mk 1 50 ((c98 ++ [r181]).map (cdL 1 (cdL 1 cdI)).enc)]⟩) ?_ ?_
      · refine RunS.segF (n := 86) e_evening_Plan_ok 3 [(0, .v (.int .i64 x0)), (1, .sl 1 (x1.map cdI.enc)), (8, .pt 0 0 0), (32, .v (.int .i64 x2)), (33, .v (.int .i64 c99)), (80, hd 2 (c98.map (cdL 1 (cdL 1 cdI)).enc)), (82, hd 5 ([r181].map (cdL 1 (cdL 1 cdI)).enc))] [some ⟨2, 94, [.ag [.v (.int .i64 v6.1), .rf 1 0 v183.length v183.length]], false⟩, some ⟨1, 3, (v183.map cdI.enc), false⟩, mk 1 50 (c98.map (cdL 1 (cdL 1 cdI)).enc), some ⟨1, 50, [.sl 1 (v182.map (cdL 1 cdI).enc)], false⟩, none, mk 1 50 ([r181].map (cdL 1 (cdL 1 cdI)).enc)] (by kernel_rfl) ?_
        refine RunS.one e_evening_Plan_ok 0 rfl (op_w (wantedA_none rfl) rfl (by kernel_rfl) (by kernel_rfl) (w_append (a := hd 2 (c98.map (cdL 1 (cdL 1 cdI)).enc)) (b := hd 5 ([r181].map (cdL 1 (cdL 1 cdI)).enc)) (by kernel_rfl) (by kernel_rfl) (append_B (c := (cdL 1 (cdL 1 cdI))) (xs := c98) (vs := [r181]) (k := 1) (bytes := 24) (el := 50) (by kernel_rfl) (by kernel_rfl) (elems_hd (t := 50) (by kernel_rfl)) (List.cons_ne_nil _ _) (by kernel_rfl) hk184))) ?_
        refine RunS.segF (n := 86) e_evening_Plan_ok 1 [(0, .v (.int .i64 x0)), (1, .sl 1 (x1.map cdI.enc)), (8, .pt 0 0 0), (9, hd 6 ((c98 ++ [r181]).map (cdL 1 (cdL 1 cdI)).enc)), (32, .v (.int .i64 x2)), (33, .v (.int .i64 c99))] [some ⟨2, 94, [.ag [.v (.int .i64 v6.1), .rf 1 0 v183.length v183.length]], false⟩, some ⟨1, 3, (v183.map cdI.enc), false⟩, none, some ⟨1, 50, [.sl 1 (v182.map (cdL 1 cdI).enc)], false⟩, none, mk 1 50 ([r181].map (cdL 1 (cdL 1 cdI)).enc), mk 1 50 ((c98 ++ [r181]).map (cdL 1 (cdL 1 cdI)).enc)] (by kernel_rfl) ?_
        exact RunS.done rfl (Wk.s3 [0, 1, 6] ⟨⟨_, rfl, bu_d⟩, ⟨_, rfl, bu_own⟩, ⟨_, rfl, bu_mk⟩, trivial⟩ ⟨lv, lv, lv, lu_hd (b' := 6) (by kernel_rfl) (by kernel_rfl), lv, lv, trivial⟩)
      refine Sem.runS (s1 := ⟨Fr 86 [(0, .v (.int .i64 x0)), (1, .sl 1 (x1.map cdI.enc)), (8, .pt 0 0 0), (9, hd 2 ((c98 ++ [r181]).map (cdL 1 (cdL 1 cdI)).enc)), (32, .v (.int .i64 x2)), (33, .v (.int .i64 (wr .i64 (c99 + 1))))], [some ⟨2, 94, [.ag [.v (.int .i64 v6.1), .rf 1 0 v183.length v183.length]], false⟩, some ⟨1, 3, (v183.map cdI.enc), false⟩, mk 1 50 ((c98 ++ [r181]).map (cdL 1 (cdL 1 cdI)).enc)]⟩) ?_ ?_
      · refine RunS.segF (n := 86) e_evening_Plan_ok 2 [(0, .v (.int .i64 x0)), (1, .sl 1 (x1.map cdI.enc)), (8, .pt 0 0 0), (9, hd 2 ((c98 ++ [r181]).map (cdL 1 (cdL 1 cdI)).enc)), (32, .v (.int .i64 x2)), (33, .v (.int .i64 (wr .i64 (c99 + 1))))] [some ⟨2, 94, [.ag [.v (.int .i64 v6.1), .rf 1 0 v183.length v183.length]], false⟩, some ⟨1, 3, (v183.map cdI.enc), false⟩, mk 1 50 ((c98 ++ [r181]).map (cdL 1 (cdL 1 cdI)).enc)] (by kernel_rfl) ?_
        exact RunS.done rfl (Wk.s3 [0, 1, 2] ⟨⟨_, rfl, bu_d⟩, ⟨_, rfl, bu_own⟩, ⟨_, rfl, bu_mk⟩, trivial⟩ ⟨lv, lv, lv, lu_hd (b' := 2) (by kernel_rfl) (by kernel_rfl), lv, lv, trivial⟩)
      exact SemN.wk (s1 := ⟨Fr 86 [(0, .v (.int .i64 x0)), (1, .sl 1 (x1.map cdI.enc)), (8, .pt 0 0 0), (9, hd 2 ((c98 ++ [r181]).map (cdL 1 (cdL 1 cdI)).enc)), (32, .v (.int .i64 x2)), (33, .v (.int .i64 (wr .i64 (c99 + 1))))], [some ⟨2, 94, [.ag [.v (.int .i64 v6.1), .rf 1 0 v183.length v183.length]], false⟩, some ⟨1, 3, (v183.map cdI.enc), false⟩, mk 1 50 ((c98 ++ [r181]).map (cdL 1 (cdL 1 cdI)).enc)]⟩) (Wk.s3 [0, 1, 2] ⟨⟨_, rfl, bu_d⟩, ⟨_, rfl, bu_own⟩, ⟨_, rfl, bu_mk⟩, trivial⟩ ⟨lv, lv, lv, lu_hd (b' := 2) (by kernel_rfl) (by kernel_rfl), lv, lv, trivial⟩) (ih v183 (c98 ++ [r181]) (wr .i64 (c99 + 1)) h)
    · rw [if_f hb100] at h
      refine Sem.exit ?_
      have hq := Option.some.inj h; subst hq
      exact ⟨rfl, (Wk.s3 [2] ⟨⟨_, rfl, bu_mk⟩, trivial⟩ ⟨lu_hd (b' := 2) (by kernel_rfl) (by kernel_rfl), trivial⟩)⟩
set_option maxHeartbeats 4000000 in
set_option maxRecDepth 100000 in
theorem evening_Plan_sem (x0 : Int) (x1 : (List Int)) (x2 : Int) (r : (List (List (List Int))) × Int) (h : evening_Plan x0 x1 x2 = some r) : Sem e_evening_Plan ⟨none, false⟩ cb_evening_Plan ⟨Fr 86 (pairs0 0 (cs_evening_Plan.enc (x0, x1, x2, ()))), []⟩ fun e s' => (e = .normal ∨ e = .ret) ∧ ∃ xs, resA e_evening_Plan.P s'.fr s'.hp Tryd.f21.results.toList = some xs ∧ retA xs = er_evening_Plan r := by
  unfold evening_Plan at h
  refine Sem.wkQ (Sem.wk (s1 := ⟨Fr 86 [(0, .v (.int .i64 x0)), (1, .sl 1 (x1.map cdI.enc)), (2, .v (.int .i64 x2))], []⟩) Wk.f1 ?_)
  refine Sem.seq ?_
  refine Sem.runS (s1 := ⟨Fr 86 [(0, .v (.int .i64 x0)), (1, .sl 1 (x1.map cdI.enc)), (2, .v (.int .i64 x2))], []⟩) ?_ ?_
  · refine RunS.segF (n := 86) e_evening_Plan_ok 2 [(0, .v (.int .i64 x0)), (1, .sl 1 (x1.map cdI.enc)), (2, .v (.int .i64 x2))] [] (by kernel_rfl) ?_
    exact RunS.done rfl Wk.f1
  refine Sem.seq ?_
  refine Sem.block ?_
  refine Sem.seq ?_
  obtain ⟨v1, hv1, h⟩ := Option.bind_eq_some_iff.1 h
  refine Sem.runS (s1 := ⟨Fr 86 [(0, .v (.int .i64 x0)), (1, .sl 1 (x1.map cdI.enc)), (2, .v (.int .i64 x2)), (18, .v (.bool (!v1)))], []⟩) ?_ ?_
  · refine RunS.segF (n := 86) e_evening_Plan_ok 2 [(0, .v (.int .i64 x0)), (1, .sl 1 (x1.map cdI.enc)), (2, .v (.int .i64 x2)), (19, .v (.int .i64 x0)), (20, .sl 1 (x1.map cdI.enc))] [] (by kernel_rfl) ?_
    refine RunS.call e_evening_Plan_ok (fid := 67) (s := cs_evening_fit) (F := fun a => evening_fit a.1 a.2.1) (er := er_evening_fit) (xs := [.v (.int .i64 x0), .sl 1 (x1.map cdI.enc)]) (a := (x0, x1, ())) rfl (wantedA_none rfl) (by kernel_rfl) (by kernel_rfl) (by kernel_rfl) (by kernel_rfl) (Sns.cons (Sn.enc (c := cdI) (v := x0)) (Sns.cons (Sn.enc (c := (cdL 1 cdI)) (v := x1)) Sns.nil)) (.inl (by kernel_rfl)) hv1 ?_
    refine RunS.segF (n := 86) e_evening_Plan_ok 2 [(0, .v (.int .i64 x0)), (1, .sl 1 (x1.map cdI.enc)), (2, .v (.int .i64 x2)), (18, .v (.bool (!v1)))] [] (by kernel_rfl) ?_
    exact RunS.done rfl Wk.f1
  refine Sem.cond (b := (!v1)) (by kernel_rfl) (fun hb2 => ?_) (fun hb2 => ?_)
  · rw [if_pos hb2] at h
    refine Sem.seq ?_
    refine Sem.runS (s1 := ⟨Fr 86 [(6, .e0), (7, .v (.int .i64 90))], []⟩) ?_ ?_
    · refine RunS.segF (n := 86) e_evening_Plan_ok 2 [(6, .e0), (7, .v (.int .i64 90))] [] (by kernel_rfl) ?_
      exact RunS.done rfl Wk.f1
    refine Sem.ret ?_
    have hq := Option.some.inj h; subst hq
    exact ⟨⟨Fr 86 [(6, .sl 1 ([].map (cdL 1 (cdL 1 cdI)).enc)), (7, .v (.int .i64 90))], []⟩, (Wk.trans (s1 := ⟨Fr 86 [(6, .e0), (7, .v (.int .i64 90))], []⟩) Wk.f1 (Wk.trans (s1 := ⟨Fr 86 [(6, .e0), (7, .v (.int .i64 90))], [none]⟩) Wk.none (Wk.trans (s1 := ⟨Fr 86 [(6, .sl 1 ([].map (cdL 1 (cdL 1 cdI)).enc)), (7, .v (.int .i64 90))], [none]⟩) (Wk.frzG 0 (.inr (by kernel_rfl)) ⟨.inl rfl, trivial⟩ ⟨⟨.e0, (by kernel_rfl), fz_e0⟩, ⟨.v (.int .i64 90), (by kernel_rfl), .inl rfl⟩, trivial⟩) (Wk.s3 [] trivial ⟨lv, lv, trivial⟩)))), .inr rfl, [.sl 1 ([].map (cdL 1 (cdL 1 cdI)).enc), .v (.int .i64 90)], (by kernel_rfl), (by kernel_rfl)⟩
  · rw [if_f hb2] at h
    refine Sem.seq ?_
    obtain ⟨j4, hj4, h⟩ := Option.bind_eq_some_iff.1 h
    refine Sem.runS (s1 := ⟨Fr 86 [(0, .v (.int .i64 x0)), (1, .sl 1 (x1.map cdI.enc)), (2, .v (.int .i64 x2)), (23, .v (.bool j4))], []⟩) ?_ ?_
    · refine RunS.segF (n := 86) e_evening_Plan_ok 3 [(0, .v (.int .i64 x0)), (1, .sl 1 (x1.map cdI.enc)), (2, .v (.int .i64 x2)), (26, .v (.bool (decide (x2 < 0))))] [] (by kernel_rfl) ?_
      rcases Bool.eq_false_or_eq_true (decide (x2 < 0)) with hc187 | hc187
      · rw [if_pos hc187] at hj4
        rw [hc187]
        refine RunS.segF (n := 86) e_evening_Plan_ok 4 [(0, .v (.int .i64 x0)), (1, .sl 1 (x1.map cdI.enc)), (2, .v (.int .i64 x2)), (23, .v (.bool true))] [] (by kernel_rfl) ?_
        have hq := Option.some.inj hj4; subst hq
        exact RunS.done rfl Wk.f1
      · rw [if_f hc187] at hj4
        rw [hc187]
        refine RunS.segF (n := 86) e_evening_Plan_ok 4 [(0, .v (.int .i64 x0)), (1, .sl 1 (x1.map cdI.enc)), (2, .v (.int .i64 x2)), (23, .v (.bool (decide (x2 > 64))))] [] (by kernel_rfl) ?_
        have hq := Option.some.inj hj4; subst hq
        exact RunS.done rfl Wk.f1
    refine Sem.cond (b := j4) (by kernel_rfl) (fun hb5 => ?_) (fun hb5 => ?_)
    · rw [if_pos hb5] at h
      refine Sem.seq ?_
      refine Sem.runS (s1 := ⟨Fr 86 [(6, .e0), (7, .v (.int .i64 2))], []⟩) ?_ ?_
      · refine RunS.segF (n := 86) e_evening_Plan_ok 2 [(6, .e0), (7, .v (.int .i64 2))] [] (by kernel_rfl) ?_
        exact RunS.done rfl Wk.f1
      refine Sem.ret ?_
      have hq := Option.some.inj h; subst hq
      exact ⟨⟨Fr 86 [(6, .sl 1 ([].map (cdL 1 (cdL 1 cdI)).enc)), (7, .v (.int .i64 2))], []⟩, (Wk.trans (s1 := ⟨Fr 86 [(6, .e0), (7, .v (.int .i64 2))], []⟩) Wk.f1 (Wk.trans (s1 := ⟨Fr 86 [(6, .e0), (7, .v (.int .i64 2))], [none]⟩) Wk.none (Wk.trans (s1 := ⟨Fr 86 [(6, .sl 1 ([].map (cdL 1 (cdL 1 cdI)).enc)), (7, .v (.int .i64 2))], [none]⟩) (Wk.frzG 0 (.inr (by kernel_rfl)) ⟨.inl rfl, trivial⟩ ⟨⟨.e0, (by kernel_rfl), fz_e0⟩, ⟨.v (.int .i64 2), (by kernel_rfl), .inl rfl⟩, trivial⟩) (Wk.s3 [] trivial ⟨lv, lv, trivial⟩)))), .inr rfl, [.sl 1 ([].map (cdL 1 (cdL 1 cdI)).enc), .v (.int .i64 2)], (by kernel_rfl), (by kernel_rfl)⟩
    · rw [if_f hb5] at h
      refine Sem.skip ?_
      refine Sem.seq ?_
      obtain ⟨v6, hv6, h⟩ := Option.bind_eq_some_iff.1 h
      refine Sem.runS (s1 := ⟨Fr 86 [(0, .v (.int .i64 x0)), (1, .sl 1 (x1.map cdI.enc)), (2, .v (.int .i64 x2)), (8, .pt 0 0 0)], [some ⟨2, 94, [.ag [.v (.int .i64 v6.1), .rf 1 0 v6.2.2.length v6.2.2.length]], false⟩, some ⟨1, 3, (v6.2.2.map cdI.enc), false⟩]⟩) ?_ ?_
      · refine RunS.segF (n := 86) e_evening_Plan_ok 1 [(0, .v (.int .i64 x0)), (1, .sl 1 (x1.map cdI.enc)), (2, .v (.int .i64 x2)), (30, .v (.int .i64 x0))] [] (by kernel_rfl) ?_
        refine RunS.inlY (fid := 68) (caps := []) (xs := [.v (.int .i64 x0)]) (fn := Tryd.f68) (Out := fun x h' => x = .ag [.v (.int .i64 v6.1), .rf 1 0 v6.2.2.length v6.2.2.length] ∧ h' = [some ⟨2, 94, [.ag [.v (.int .i64 v6.2.1), .rf 1 0 v6.2.2.length v6.2.2.length]], false⟩, some ⟨1, 3, (v6.2.2.map cdI.enc), false⟩]) rfl rfl e_evening_Plan_k1_ok rfl rfl rfl (wantedA_none rfl) (by kernel_rfl) (by kernel_rfl) (by kernel_rfl) (by kernel_rfl) (by show 1 ≤ 9; decide) (evening_Plan_k1_sem x0 _ hv6) ?_
        rintro x h' ⟨rfl, rfl⟩
        refine RunS.segF (n := 86) e_evening_Plan_ok 2 [(0, .v (.int .i64 x0)), (1, .sl 1 (x1.map cdI.enc)), (2, .v (.int .i64 x2)), (8, .pt 2 0 0)] [some ⟨2, 94, [.ag [.v (.int .i64 v6.2.1), .rf 1 0 v6.2.2.length v6.2.2.length]], false⟩, some ⟨1, 3, (v6.2.2.map cdI.enc), false⟩, some ⟨2, 94, [.ag [.v (.int .i64 v6.1), .rf 1 0 v6.2.2.length v6.2.2.length]], false⟩] (by kernel_rfl) ?_
        exact RunS.done rfl (Wk.s3 [2, 1] ⟨⟨_, rfl, bu_d⟩, ⟨_, rfl, bu_own⟩, trivial⟩ ⟨lv, lv, lv, lv, trivial⟩)
      refine Sem.seq ?_
      refine Sem.runS (s1 := ⟨Fr 86 [(0, .v (.int .i64 x0)), (1, .sl 1 (x1.map cdI.enc)), (2, .v (.int .i64 x2)), (8, .pt 0 0 0), (9, .e0)], [some ⟨2, 94, [.ag [.v (.int .i64 v6.1), .rf 1 0 v6.2.2.length v6.2.2.length]], false⟩, some ⟨1, 3, (v6.2.2.map cdI.enc), false⟩]⟩) ?_ ?_
      · refine RunS.segF (n := 86) e_evening_Plan_ok 1 [(0, .v (.int .i64 x0)), (1, .sl 1 (x1.map cdI.enc)), (2, .v (.int .i64 x2)), (8, .pt 0 0 0), (9, .e0)] [some ⟨2, 94, [.ag [.v (.int .i64 v6.1), .rf 1 0 v6.2.2.length v6.2.2.length]], false⟩, some ⟨1, 3, (v6.2.2.map cdI.enc), false⟩] (by kernel_rfl) ?_
        exact RunS.done rfl (Wk.s3 [0, 1] ⟨⟨_, rfl, bu_d⟩, ⟨_, rfl, bu_own⟩, trivial⟩ ⟨lv, lv, lv, lv, lv, trivial⟩)
      refine Sem.seq ?_
      refine Sem.seq ?_
      refine Sem.runS (s1 := ⟨Fr 86 [(0, .v (.int .i64 x0)), (1, .sl 1 (x1.map cdI.enc)), (8, .pt 0 0 0), (9, .e0), (32, .v (.int .i64 x2)), (33, .v (.int .i64 0))], [some ⟨2, 94, [.ag [.v (.int .i64 v6.1), .rf 1 0 v6.2.2.length v6.2.2.length]], false⟩, some ⟨1, 3, (v6.2.2.map cdI.enc), false⟩]⟩) ?_ ?_
      · refine RunS.segF (n := 86) e_evening_Plan_ok 2 [(0, .v (.int .i64 x0)), (1, .sl 1 (x1.map cdI.enc)), (8, .pt 0 0 0), (9, .e0), (32, .v (.int .i64 x2)), (33, .v (.int .i64 0))] [some ⟨2, 94, [.ag [.v (.int .i64 v6.1), .rf 1 0 v6.2.2.length v6.2.2.length]], false⟩, some ⟨1, 3, (v6.2.2.map cdI.enc), false⟩] (by kernel_rfl) ?_
        exact RunS.done rfl (Wk.s3 [0, 1] ⟨⟨_, rfl, bu_d⟩, ⟨_, rfl, bu_own⟩, trivial⟩ ⟨lv, lv, lv, lv, lv, lv, trivial⟩)
      refine Sem.block ?_
      obtain ⟨r186, hr186, h⟩ := Option.bind_eq_some_iff.1 h
      refine Sem.loop (n := 100000) ?_
      refine Sem.cutN (SemN.wk (s1 := ⟨Fr 86 [(0, .v (.int .i64 x0)), (1, .sl 1 (x1.map cdI.enc)), (8, .pt 0 0 0), (9, hd 2 ([].map (cdL 1 (cdL 1 cdI)).enc)), (32, .v (.int .i64 x2)), (33, .v (.int .i64 0))], [some ⟨2, 94, [.ag [.v (.int .i64 v6.1), .rf 1 0 v6.2.2.length v6.2.2.length]], false⟩, some ⟨1, 3, (v6.2.2.map cdI.enc), false⟩, mk 1 50 ([].map (cdL 1 (cdL 1 cdI)).enc)]⟩) (Wk.trans (s1 := ⟨Fr 86 [(0, .v (.int .i64 x0)), (1, .sl 1 (x1.map cdI.enc)), (8, .pt 0 0 0), (9, hd 2 ([].map (cdL 1 (cdL 1 cdI)).enc)), (32, .v (.int .i64 x2)), (33, .v (.int .i64 0))], [some ⟨2, 94, [.ag [.v (.int .i64 v6.1), .rf 1 0 v6.2.2.length v6.2.2.length]], false⟩, some ⟨1, 3, (v6.2.2.map cdI.enc), false⟩, mk 1 50 ([].map (cdL 1 (cdL 1 cdI)).enc)]⟩) Wk.none (Wk.s3 [0, 1, 2] ⟨⟨_, rfl, bu_d⟩, ⟨_, rfl, bu_own⟩, ⟨_, rfl, bu_none⟩, trivial⟩ ⟨lv, lv, lv, lv, lv, lv, trivial⟩)) (evening_Plan_1_ok x0 x1 x2 v6 _ v6.2.2 [] 0 _ hr186)) ?_
      refine Sem.seq ?_
      refine Sem.runS (s1 := ⟨Fr 86 [(6, hd 0 (r186.map (cdL 1 (cdL 1 cdI)).enc)), (7, .v (.int .i64 0))], [mk 1 50 (r186.map (cdL 1 (cdL 1 cdI)).enc)]⟩) ?_ ?_
      · refine RunS.segF (n := 86) e_evening_Plan_ok 3 [(6, hd 0 (r186.map (cdL 1 (cdL 1 cdI)).enc)), (7, .v (.int .i64 0))] [mk 1 50 (r186.map (cdL 1 (cdL 1 cdI)).enc)] (by kernel_rfl) ?_
        exact RunS.done rfl (Wk.s3 [0] ⟨⟨_, rfl, bu_mk⟩, trivial⟩ ⟨lu_hd (b' := 0) (by kernel_rfl) (by kernel_rfl), lv, trivial⟩)
      refine Sem.ret ?_
      have hq := Option.some.inj h; subst hq
      exact ⟨⟨Fr 86 [(6, .sl 1 (r186.map (cdL 1 (cdL 1 cdI)).enc)), (7, .v (.int .i64 0))], []⟩, (Wk.trans (s1 := ⟨Fr 86 [(6, .sl 1 (r186.map (cdL 1 (cdL 1 cdI)).enc)), (7, .v (.int .i64 0))], [none]⟩) (Wk.frzG 0 (.inl (by kernel_rfl)) ⟨.inl rfl, trivial⟩ ⟨⟨hd 0 (r186.map (cdL 1 (cdL 1 cdI)).enc), (by kernel_rfl), fz_hd (t := 50) (by kernel_rfl) enc_ok⟩, ⟨.v (.int .i64 0), (by kernel_rfl), .inl rfl⟩, trivial⟩) (Wk.s3 [] trivial ⟨lv, lv, trivial⟩)), .inr rfl, [.sl 1 (r186.map (cdL 1 (cdL 1 cdI)).enc), .v (.int .i64 0)], (by kernel_rfl), (by kernel_rfl)⟩
def t_evening_Plan : List AV → Option AV := told cs_evening_Plan (fun a => evening_Plan a.1 a.2.1 a.2.2.1) er_evening_Plan
theorem x_evening_Plan : XOk 21 t_evening_Plan := by
  refine EnvOk.x (E := e_evening_Plan) (contract_ok e_evening_Plan_ok (fn := Tryd.f21) (c := cb_evening_Plan) ?h1 ?h2 ⟨Tryd.call21⟩ cs_evening_Plan (fun a => evening_Plan a.1 a.2.1 a.2.2.1) er_evening_Plan (fun a => (by show 3 ≤ 86; decide)) ?h3 ?h4) rfl rfl
  case h1 => kernel_rfl
  case h2 => kernel_rfl
  case h3 => intro b; kernel_rfl
  case h4 => exact fun a b h => evening_Plan_sem a.1 a.2.1 a.2.2.1 b h
/- trestle/evening.check -/
noncomputable def e_evening_check : Env := E0
theorem e_evening_check_ok : EnvOk e_evening_check := E0_ok
noncomputable def cb_evening_check : Code := codeOf Tryd.f83
def evening_check_j3 (x0 : Int) (x1 : (List Int)) (x2 : (List (List Int))) (c9 : Int) (v11 : (List Int)) (c18 : Int) (c20 : Bool) (c22 : Int) (v24 : Int) (j32 : Bool × (List Bool)) (v33 : Bool) : Option ((Int)) :=
  if (!v33) = true then
  some (wr .i64 (c18 + 1))
  else
  some c18
def evening_check_2 (x0 : Int) (x1 : (List Int)) (x2 : (List (List Int))) (c9 : Int) (v11 : (List Int)) : Nat → Int → Bool → Bool → (List Bool) → Int → Option ((Int × Bool × Bool × (List Bool)))
  | 0, _, _, _, _, _ => none
  | f + 1, c18, c19, c20, c21, c22 =>
    if (decide (c22 < (v11.length : Int))) = true then
    (idx v11 c22).bind fun v24 =>
    (if (decide (v24 < 0)) = true then some (c21, true) else some (c21, (decide (v24 ≥ x0)))).bind fun j27 =>
    if j27.2 = true then
    evening_check_2 x0 x1 x2 c9 v11 f c18 c19 true j27.1 (wr .i64 (c22 + 1))
    else
    (if c19 = true then some (true, j27.1) else (idx j27.1 v24).bind fun v29 =>
    some (v29, j27.1)).bind fun j32 =>
    (idx j32.2 v24).bind fun v33 =>
    (evening_check_j3 x0 x1 x2 c9 v11 c18 c20 c22 v24 j32 v33).bind fun r36 =>
    (idx j32.2 v24).bind fun v37 =>
    evening_check_2 x0 x1 x2 c9 v11 f r36 j32.1 c20 (j32.2.set v24.toNat true) (wr .i64 (c22 + 1))
    else
    some (c18, c19, c20, c21)
def evening_check_1 (x0 : Int) (x1 : (List Int)) (x2 : (List (List Int))) : Nat → Int → Bool → Bool → (List Bool) → Int → Option ((Int × Bool × Bool) ⊕ (Int))
  | 0, _, _, _, _, _ => none
  | f + 1, c5, c6, c7, c8, c9 =>
    if (decide (c9 < (x2.length : Int))) = true then
    (idx x2 c9).bind fun v11 =>
    (if ((v11.length : Int) == 0) = true then some (c8, true) else if (decide ((x1.length : Int) > 0)) = true then (idx x1 c9).bind fun v12 =>
    some (c8, ((v11.length : Int) != v12)) else some (c8, false)).bind fun j15 =>
    if j15.2 = true then
    some (.inr 2)
    else
    (evening_check_2 x0 x1 x2 c9 v11 100000 c5 c6 c7 j15.1 0).bind fun r44 =>
    evening_check_1 x0 x1 x2 f r44.1 r44.2.1 r44.2.2.1 r44.2.2.2 (wr .i64 (c9 + 1))
    else
    some (.inl (c5, c6, c7))
def evening_check (x0 : Int) (x1 : (List Int)) (x2 : (List (List Int))) : Option (Int) :=
  (if (decide ((x1.length : Int) > 0)) = true then some ((x1.length : Int) != (x2.length : Int)) else some false).bind fun j2 =>
  if j2 = true then
  some 2
  else
  if (mkOk 1 x0) = true then
  (evening_check_1 x0 x1 x2 100000 0 false false (List.replicate x0.toNat false) 0).bind fun r50 =>
  match r50 with
  | (.inl w51) =>
    if w51.2.2 = true then
    some 6
    else
    if w51.2.1 = true then
    some 5
    else
    if (decide (w51.1 < x0)) = true then
    some 2
    else
    some 0
  | (.inr w55) =>
    some w55
  else none
def cs_evening_check : Cs (Int × (List Int) × (List (List Int)) × Unit) := (csC cdI (csC (cdL 1 cdI) (csC (cdL 1 (cdL 1 cdI)) csN)))
def er_evening_check (r : Int) : AV := cdI.enc r
set_option maxHeartbeats 4000000 in
set_option maxRecDepth 100000 in
theorem evening_check_j3_ok (x0 : Int) (x1 : (List Int)) (x2 : (List (List Int))) (c9 : Int) (v11 : (List Int)) (c18 : Int) (c20 : Bool) (c22 : Int) (v24 : Int) (j32 : Bool × (List Bool)) (v33 : Bool) (r : (Int)) (h : evening_check_j3 x0 x1 x2 c9 v11 c18 c20 c22 v24 j32 v33 = some r) : Sem e_evening_check ⟨none, false⟩ (pc cb_evening_check [1, 1, 1, 1, 0, 1, 0, 0, 1, 1, 0, 0, 1, 1, 1, 0, 0, 1, 1, 0, 0, 1, 1, 1, 0, 1]) ⟨Fr 91 [(0, .v (.int .i64 x0)), (1, .sl 1 (x1.map cdI.enc)), (7, .v (.int .i64 c18)), (8, .v (.bool j32.1)), (9, .v (.bool c20)), (10, .rf 0 0 j32.2.length j32.2.length), (14, .v (.int .i64 v24)), (27, .sl 1 (x2.map (cdL 1 cdI).enc)), (28, .v (.int .i64 (x2.length : Int))), (29, .v (.int .i64 c9)), (51, .sl 1 (v11.map cdI.enc)), (52, .v (.int .i64 (v11.length : Int))), (53, .v (.int .i64 c22)), (75, .v (.bool (!v33)))], [some ⟨1, 4, (j32.2.map cdB.enc), false⟩]⟩ (fun e s => e = .normal ∧ Wk e_evening_check s ⟨Fr 91 [(0, .v (.int .i64 x0)), (1, .sl 1 (x1.map cdI.enc)), (7, .v (.int .i64 r)), (8, .v (.bool j32.1)), (9, .v (.bool c20)), (10, .rf 0 0 j32.2.length j32.2.length), (14, .v (.int .i64 v24)), (27, .sl 1 (x2.map (cdL 1 cdI).enc)), (28, .v (.int .i64 (x2.length : Int))), (29, .v (.int .i64 c9)), (51, .sl 1 (v11.map cdI.enc)), (52, .v (.int .i64 (v11.length : Int))), (53, .v (.int .i64 c22))], [some ⟨1, 4, (j32.2.map cdB.enc), false⟩]⟩) := by
  unfold evening_check_j3 at h
  refine Sem.cond (b := (!v33)) (by kernel_rfl) (fun hb34 => ?_) (fun hb34 => ?_)
  · rw [if_pos hb34] at h
    refine Sem.runS (s1 := ⟨Fr 91 [(0, .v (.int .i64 x0)), (1, .sl 1 (x1.map cdI.enc)), (7, .v (.int .i64 (wr .i64 (c18 + 1)))), (8, .v (.bool j32.1)), (9, .v (.bool c20)), (10, .rf 0 0 j32.2.length j32.2.length), (14, .v (.int .i64 v24)), (27, .sl 1 (x2.map (cdL 1 cdI).enc)), (28, .v (.int .i64 (x2.length : Int))), (29, .v (.int .i64 c9)), (51, .sl 1 (v11.map cdI.enc)), (52, .v (.int .i64 (v11.length : Int))), (53, .v (.int .i64 c22))], [some ⟨1, 4, (j32.2.map cdB.enc), false⟩]⟩) ?_ ?_
    · refine RunS.segF (n := 91) e_evening_check_ok 3 [(0, .v (.int .i64 x0)), (1, .sl 1 (x1.map cdI.enc)), (7, .v (.int .i64 (wr .i64 (c18 + 1)))), (8, .v (.bool j32.1)), (9, .v (.bool c20)), (10, .rf 0 0 j32.2.length j32.2.length), (14, .v (.int .i64 v24)), (27, .sl 1 (x2.map (cdL 1 cdI).enc)), (28, .v (.int .i64 (x2.length : Int))), (29, .v (.int .i64 c9)), (51, .sl 1 (v11.map cdI.enc)), (52, .v (.int .i64 (v11.length : Int))), (53, .v (.int .i64 c22))] [some ⟨1, 4, (j32.2.map cdB.enc), false⟩] (by kernel_rfl) ?_
      exact RunS.done rfl (Wk.s3 [0] ⟨⟨_, rfl, bu_own⟩, trivial⟩ ⟨lv, lv, lv, lv, lv, lv, lv, lv, lv, lv, lv, lv, lv, trivial⟩)
    have hq := Option.some.inj h; subst hq
    exact ⟨rfl, (Wk.s3 [0] ⟨⟨_, rfl, bu_own⟩, trivial⟩ ⟨lv, lv, lv, lv, lv, lv, lv, lv, lv, lv, lv, lv, lv, trivial⟩)⟩
  · rw [if_f hb34] at h
    refine Sem.skip ?_
    have hq := Option.some.inj h; subst hq
    exact ⟨rfl, (Wk.s3 [0] ⟨⟨_, rfl, bu_own⟩, trivial⟩ ⟨lv, lv, lv, lv, lv, lv, lv, lv, lv, lv, lv, lv, lv, trivial⟩)⟩
set_option maxHeartbeats 4000000 in
set_option maxRecDepth 100000 in
theorem evening_check_2_ok (x0 : Int) (x1 : (List Int)) (x2 : (List (List Int))) (c9 : Int) (v11 : (List Int)) : ∀ (f : Nat) (c18 : Int) (c19 : Bool) (c20 : Bool) (c21 : (List Bool)) (c22 : Int) (r : (Int × Bool × Bool × (List Bool))), evening_check_2 x0 x1 x2 c9 v11 f c18 c19 c20 c21 c22 = some r → SemN e_evening_check ⟨none, false⟩ (pc cb_evening_check [1, 1, 1, 1, 0, 1, 0, 0, 1, 1, 0, 0, 1, 1, 1, 0, 0]) f ⟨Fr 91 [(0, .v (.int .i64 x0)), (1, .sl 1 (x1.map cdI.enc)), (7, .v (.int .i64 c18)), (8, .v (.bool c19)), (9, .v (.bool c20)), (10, .rf 0 0 c21.length c21.length), (27, .sl 1 (x2.map (cdL 1 cdI).enc)), (28, .v (.int .i64 (x2.length : Int))), (29, .v (.int .i64 c9)), (51, .sl 1 (v11.map cdI.enc)), (52, .v (.int .i64 (v11.length : Int))), (53, .v (.int .i64 c22))], [some ⟨1, 4, (c21.map cdB.enc), false⟩]⟩ (fun e s => e = (.exit 2) ∧ Wk e_evening_check s ⟨Fr 91 [(0, .v (.int .i64 x0)), (1, .sl 1 (x1.map cdI.enc)), (7, .v (.int .i64 r.1)), (8, .v (.bool r.2.1)), (9, .v (.bool r.2.2.1)), (10, .rf 0 0 r.2.2.2.length r.2.2.2.length), (27, .sl 1 (x2.map (cdL 1 cdI).enc)), (28, .v (.int .i64 (x2.length : Int))), (29, .v (.int .i64 c9))], [some ⟨1, 4, (r.2.2.2.map cdB.enc), false⟩]⟩) := by
  intro f
  induction f with
  | zero => intro c18 c19 c20 c21 c22 r h; cases h
  | succ f ih0 =>
    intro c18 c19 c20 c21 c22 r h
    have ih := fun (c18 : Int) (c19 : Bool) (c20 : Bool) (c21 : (List Bool)) (c22 : Int) => ih0 c18 c19 c20 c21 c22 r
    unfold evening_check_2 at h
    refine SemN.succ ?_
    refine Sem.seq ?_
    refine Sem.runS (s1 := ⟨Fr 91 [(0, .v (.int .i64 x0)), (1, .sl 1 (x1.map cdI.enc)), (7, .v (.int .i64 c18)), (8, .v (.bool c19)), (9, .v (.bool c20)), (10, .rf 0 0 c21.length c21.length), (27, .sl 1 (x2.map (cdL 1 cdI).enc)), (28, .v (.int .i64 (x2.length : Int))), (29, .v (.int .i64 c9)), (51, .sl 1 (v11.map cdI.enc)), (52, .v (.int .i64 (v11.length : Int))), (53, .v (.int .i64 c22)), (54, .v (.bool (decide (c22 < (v11.length : Int)))))], [some ⟨1, 4, (c21.map cdB.enc), false⟩]⟩) ?_ ?_
    · refine RunS.segF (n := 91) e_evening_check_ok 1 [(0, .v (.int .i64 x0)), (1, .sl 1 (x1.map cdI.enc)), (7, .v (.int .i64 c18)), (8, .v (.bool c19)), (9, .v (.bool c20)), (10, .rf 0 0 c21.length c21.length), (27, .sl 1 (x2.map (cdL 1 cdI).enc)), (28, .v (.int .i64 (x2.length : Int))), (29, .v (.int .i64 c9)), (51, .sl 1 (v11.map cdI.enc)), (52, .v (.int .i64 (v11.length : Int))), (53, .v (.int .i64 c22)), (54, .v (.bool (decide (c22 < (v11.length : Int)))))] [some ⟨1, 4, (c21.map cdB.enc), false⟩] (by kernel_rfl) ?_
      exact RunS.done rfl (Wk.s3 [0] ⟨⟨_, rfl, bu_own⟩, trivial⟩ ⟨lv, lv, lv, lv, lv, lv, lv, lv, lv, lv, lv, lv, lv, trivial⟩)
    refine Sem.seq ?_
    refine Sem.cond (b := (decide (c22 < (v11.length : Int)))) (by kernel_rfl) (fun hb23 => ?_) (fun hb23 => ?_)
    · rw [if_pos hb23] at h
      refine Sem.skip ?_
      refine Sem.seq ?_
      refine Sem.block ?_
      refine Sem.seq ?_
      obtain ⟨v24, hv24, h⟩ := Option.bind_eq_some_iff.1 h
      refine Sem.runS (s1 := ⟨Fr 91 [(0, .v (.int .i64 x0)), (1, .sl 1 (x1.map cdI.enc)), (7, .v (.int .i64 c18)), (8, .v (.bool c19)), (9, .v (.bool c20)), (10, .rf 0 0 c21.length c21.length), (14, .v (.int .i64 v24)), (27, .sl 1 (x2.map (cdL 1 cdI).enc)), (28, .v (.int .i64 (x2.length : Int))), (29, .v (.int .i64 c9)), (51, .sl 1 (v11.map cdI.enc)), (52, .v (.int .i64 (v11.length : Int))), (53, .v (.int .i64 c22))], [some ⟨1, 4, (c21.map cdB.enc), false⟩]⟩) ?_ ?_
      · refine RunS.one e_evening_check_ok 0 rfl (op_q (wantedA_none rfl) rfl (q_indexAddr (a := .sl 1 (v11.map cdI.enc)) (b := .v (.int .i64 c22)) (by kernel_rfl) (by kernel_rfl) (ix_sl (e := cdI.enc) (el := 3) (k := 1) (ki := .i64) (by kernel_rfl) (by kernel_rfl) hv24))) ?_
        refine RunS.segF (n := 91) e_evening_check_ok 2 [(0, .v (.int .i64 x0)), (1, .sl 1 (x1.map cdI.enc)), (7, .v (.int .i64 c18)), (8, .v (.bool c19)), (9, .v (.bool c20)), (10, .rf 0 0 c21.length c21.length), (14, .v (.int .i64 v24)), (27, .sl 1 (x2.map (cdL 1 cdI).enc)), (28, .v (.int .i64 (x2.length : Int))), (29, .v (.int .i64 c9)), (51, .sl 1 (v11.map cdI.enc)), (52, .v (.int .i64 (v11.length : Int))), (53, .v (.int .i64 c22))] [some ⟨1, 4, (c21.map cdB.enc), false⟩] (by kernel_rfl) ?_
        exact RunS.done rfl (Wk.s3 [0] ⟨⟨_, rfl, bu_own⟩, trivial⟩ ⟨lv, lv, lv, lv, lv, lv, lv, lv, lv, lv, lv, lv, lv, trivial⟩)
      refine Sem.seq ?_
      refine Sem.seq ?_
      obtain ⟨j27, hj27, h⟩ := Option.bind_eq_some_iff.1 h
      refine Sem.runS (s1 := ⟨Fr 91 [(0, .v (.int .i64 x0)), (1, .sl 1 (x1.map cdI.enc)), (7, .v (.int .i64 c18)), (8, .v (.bool c19)), (9, .v (.bool c20)), (10, .rf 0 0 j27.1.length j27.1.length), (14, .v (.int .i64 v24)), (27, .sl 1 (x2.map (cdL 1 cdI).enc)), (28, .v (.int .i64 (x2.length : Int))), (29, .v (.int .i64 c9)), (51, .sl 1 (v11.map cdI.enc)), (52, .v (.int .i64 (v11.length : Int))), (53, .v (.int .i64 c22)), (63, .v (.bool j27.2))], [some ⟨1, 4, (j27.1.map cdB.enc), false⟩]⟩) ?_ ?_
      · refine RunS.segF (n := 91) e_evening_check_ok 3 [(0, .v (.int .i64 x0)), (1, .sl 1 (x1.map cdI.enc)), (7, .v (.int .i64 c18)), (8, .v (.bool c19)), (9, .v (.bool c20)), (10, .rf 0 0 c21.length c21.length), (14, .v (.int .i64 v24)), (27, .sl 1 (x2.map (cdL 1 cdI).enc)), (28, .v (.int .i64 (x2.length : Int))), (29, .v (.int .i64 c9)), (51, .sl 1 (v11.map cdI.enc)), (52, .v (.int .i64 (v11.length : Int))), (53, .v (.int .i64 c22)), (59, .v (.bool (decide (v24 < 0))))] [some ⟨1, 4, (c21.map cdB.enc), false⟩] (by kernel_rfl) ?_
        rcases Bool.eq_false_or_eq_true (decide (v24 < 0)) with hc39 | hc39
        · rw [if_pos hc39] at hj27
          rw [hc39]
          refine RunS.segF (n := 91) e_evening_check_ok 4 [(0, .v (.int .i64 x0)), (1, .sl 1 (x1.map cdI.enc)), (7, .v (.int .i64 c18)), (8, .v (.bool c19)), (9, .v (.bool c20)), (10, .rf 0 0 c21.length c21.length), (14, .v (.int .i64 v24)), (27, .sl 1 (x2.map (cdL 1 cdI).enc)), (28, .v (.int .i64 (x2.length : Int))), (29, .v (.int .i64 c9)), (51, .sl 1 (v11.map cdI.enc)), (52, .v (.int .i64 (v11.length : Int))), (53, .v (.int .i64 c22)), (60, .tp []), (61, .tp []), (62, .tp []), (63, .v (.bool true))] [some ⟨1, 4, (c21.map cdB.enc), false⟩] (by kernel_rfl) ?_
          have hq := Option.some.inj hj27; subst hq
          exact RunS.done rfl (Wk.s3 [0] ⟨⟨_, rfl, bu_own⟩, trivial⟩ ⟨lv, lv, lv, lv, lv, lv, lv, lv, lv, lv, lv, lv, lv, lv, trivial⟩)
        · rw [if_f hc39] at hj27
          rw [hc39]
          refine RunS.segF (n := 91) e_evening_check_ok 4 [(0, .v (.int .i64 x0)), (1, .sl 1 (x1.map cdI.enc)), (7, .v (.int .i64 c18)), (8, .v (.bool c19)), (9, .v (.bool c20)), (10, .rf 0 0 c21.length c21.length), (14, .v (.int .i64 v24)), (27, .sl 1 (x2.map (cdL 1 cdI).enc)), (28, .v (.int .i64 (x2.length : Int))), (29, .v (.int .i64 c9)), (51, .sl 1 (v11.map cdI.enc)), (52, .v (.int .i64 (v11.length : Int))), (53, .v (.int .i64 c22)), (60, .v (.int .i64 v24)), (61, .v (.int .i64 x0)), (62, .v (.bool (decide (v24 ≥ x0)))), (63, .v (.bool (decide (v24 ≥ x0))))] [some ⟨1, 4, (c21.map cdB.enc), false⟩] (by kernel_rfl) ?_
          have hq := Option.some.inj hj27; subst hq
          exact RunS.done rfl (Wk.s3 [0] ⟨⟨_, rfl, bu_own⟩, trivial⟩ ⟨lv, lv, lv, lv, lv, lv, lv, lv, lv, lv, lv, lv, lv, lv, trivial⟩)
      refine Sem.cond (b := j27.2) (by kernel_rfl) (fun hb28 => ?_) (fun hb28 => ?_)
      · rw [if_pos hb28] at h
        refine Sem.seq ?_
        refine Sem.runS (s1 := ⟨Fr 91 [(0, .v (.int .i64 x0)), (1, .sl 1 (x1.map cdI.enc)), (7, .v (.int .i64 c18)), (8, .v (.bool c19)), (9, .v (.bool true)), (10, .rf 0 0 j27.1.length j27.1.length), (27, .sl 1 (x2.map (cdL 1 cdI).enc)), (28, .v (.int .i64 (x2.length : Int))), (29, .v (.int .i64 c9)), (51, .sl 1 (v11.map cdI.enc)), (52, .v (.int .i64 (v11.length : Int))), (53, .v (.int .i64 c22))], [some ⟨1, 4, (j27.1.map cdB.enc), false⟩]⟩) ?_ ?_
        · refine RunS.segF (n := 91) e_evening_check_ok 1 [(0, .v (.int .i64 x0)), (1, .sl 1 (x1.map cdI.enc)), (7, .v (.int .i64 c18)), (8, .v (.bool c19)), (9, .v (.bool true)), (10, .rf 0 0 j27.1.length j27.1.length), (27, .sl 1 (x2.map (cdL 1 cdI).enc)), (28, .v (.int .i64 (x2.length : Int))), (29, .v (.int .i64 c9)), (51, .sl 1 (v11.map cdI.enc)), (52, .v (.int .i64 (v11.length : Int))), (53, .v (.int .i64 c22))] [some ⟨1, 4, (j27.1.map cdB.enc), false⟩] (by kernel_rfl) ?_
          exact RunS.done rfl (Wk.s3 [0] ⟨⟨_, rfl, bu_own⟩, trivial⟩ ⟨lv, lv, lv, lv, lv, lv, lv, lv, lv, lv, lv, lv, trivial⟩)
        refine Sem.exit ?_
        refine Sem.runS (s1 := ⟨Fr 91 [(0, .v (.int .i64 x0)), (1, .sl 1 (x1.map cdI.enc)), (7, .v (.int .i64 c18)), (8, .v (.bool c19)), (9, .v (.bool true)), (10, .rf 0 0 j27.1.length j27.1.length), (27, .sl 1 (x2.map (cdL 1 cdI).enc)), (28, .v (.int .i64 (x2.length : Int))), (29, .v (.int .i64 c9)), (51, .sl 1 (v11.map cdI.enc)), (52, .v (.int .i64 (v11.length : Int))), (53, .v (.int .i64 (wr .i64 (c22 + 1))))], [some ⟨1, 4, (j27.1.map cdB.enc), false⟩]⟩) ?_ ?_
        · refine RunS.segF (n := 91) e_evening_check_ok 2 [(0, .v (.int .i64 x0)), (1, .sl 1 (x1.map cdI.enc)), (7, .v (.int .i64 c18)), (8, .v (.bool c19)), (9, .v (.bool true)), (10, .rf 0 0 j27.1.length j27.1.length), (27, .sl 1 (x2.map (cdL 1 cdI).enc)), (28, .v (.int .i64 (x2.length : Int))), (29, .v (.int .i64 c9)), (51, .sl 1 (v11.map cdI.enc)), (52, .v (.int .i64 (v11.length : Int))), (53, .v (.int .i64 (wr .i64 (c22 + 1))))] [some ⟨1, 4, (j27.1.map cdB.enc), false⟩] (by kernel_rfl) ?_
          exact RunS.done rfl (Wk.s3 [0] ⟨⟨_, rfl, bu_own⟩, trivial⟩ ⟨lv, lv, lv, lv, lv, lv, lv, lv, lv, lv, lv, lv, trivial⟩)
        exact SemN.wk (s1 := ⟨Fr 91 [(0, .v (.int .i64 x0)), (1, .sl 1 (x1.map cdI.enc)), (7, .v (.int .i64 c18)), (8, .v (.bool c19)), (9, .v (.bool true)), (10, .rf 0 0 j27.1.length j27.1.length), (27, .sl 1 (x2.map (cdL 1 cdI).enc)), (28, .v (.int .i64 (x2.length : Int))), (29, .v (.int .i64 c9)), (51, .sl 1 (v11.map cdI.enc)), (52, .v (.int .i64 (v11.length : Int))), (53, .v (.int .i64 (wr .i64 (c22 + 1))))], [some ⟨1, 4, (j27.1.map cdB.enc), false⟩]⟩) (Wk.s3 [0] ⟨⟨_, rfl, bu_own⟩, trivial⟩ ⟨lv, lv, lv, lv, lv, lv, lv, lv, lv, lv, lv, lv, trivial⟩) (ih c18 c19 true j27.1 (wr .i64 (c22 + 1)) h)
      · rw [if_f hb28] at h
        refine Sem.skip ?_
        refine Sem.seq ?_
        obtain ⟨j32, hj32, h⟩ := Option.bind_eq_some_iff.1 h
        refine Sem.runS (s1 := ⟨Fr 91 [(0, .v (.int .i64 x0)), (1, .sl 1 (x1.map cdI.enc)), (7, .v (.int .i64 c18)), (8, .v (.bool j32.1)), (9, .v (.bool c20)), (10, .rf 0 0 j32.2.length j32.2.length), (14, .v (.int .i64 v24)), (27, .sl 1 (x2.map (cdL 1 cdI).enc)), (28, .v (.int .i64 (x2.length : Int))), (29, .v (.int .i64 c9)), (51, .sl 1 (v11.map cdI.enc)), (52, .v (.int .i64 (v11.length : Int))), (53, .v (.int .i64 c22))], [some ⟨1, 4, (j32.2.map cdB.enc), false⟩]⟩) ?_ ?_
        · refine RunS.segF (n := 91) e_evening_check_ok 2 [(0, .v (.int .i64 x0)), (1, .sl 1 (x1.map cdI.enc)), (7, .v (.int .i64 c18)), (9, .v (.bool c20)), (10, .rf 0 0 j27.1.length j27.1.length), (14, .v (.int .i64 v24)), (27, .sl 1 (x2.map (cdL 1 cdI).enc)), (28, .v (.int .i64 (x2.length : Int))), (29, .v (.int .i64 c9)), (51, .sl 1 (v11.map cdI.enc)), (52, .v (.int .i64 (v11.length : Int))), (53, .v (.int .i64 c22)), (65, .v (.bool c19))] [some ⟨1, 4, (j27.1.map cdB.enc), false⟩] (by kernel_rfl) ?_
          rcases Bool.eq_false_or_eq_true c19 with hc38 | hc38
          · rw [if_pos hc38] at hj32
            rw [hc38]
            refine RunS.segF (n := 91) e_evening_check_ok 6 [(0, .v (.int .i64 x0)), (1, .sl 1 (x1.map cdI.enc)), (7, .v (.int .i64 c18)), (8, .v (.bool true)), (9, .v (.bool c20)), (10, .rf 0 0 j27.1.length j27.1.length), (14, .v (.int .i64 v24)), (27, .sl 1 (x2.map (cdL 1 cdI).enc)), (28, .v (.int .i64 (x2.length : Int))), (29, .v (.int .i64 c9)), (51, .sl 1 (v11.map cdI.enc)), (52, .v (.int .i64 (v11.length : Int))), (53, .v (.int .i64 c22)), (66, .tp []), (67, .tp []), (68, .tp []), (69, .tp [])] [some ⟨1, 4, (j27.1.map cdB.enc), false⟩] (by kernel_rfl) ?_
            have hq := Option.some.inj hj32; subst hq
            exact RunS.done rfl (Wk.s3 [0] ⟨⟨_, rfl, bu_own⟩, trivial⟩ ⟨lv, lv, lv, lv, lv, lv, lv, lv, lv, lv, lv, lv, lv, trivial⟩)
          · rw [if_f hc38] at hj32
            rw [hc38]
            refine RunS.segF (n := 91) e_evening_check_ok 2 [(0, .v (.int .i64 x0)), (1, .sl 1 (x1.map cdI.enc)), (7, .v (.int .i64 c18)), (9, .v (.bool c20)), (10, .rf 0 0 j27.1.length j27.1.length), (14, .v (.int .i64 v24)), (27, .sl 1 (x2.map (cdL 1 cdI).enc)), (28, .v (.int .i64 (x2.length : Int))), (29, .v (.int .i64 c9)), (51, .sl 1 (v11.map cdI.enc)), (52, .v (.int .i64 (v11.length : Int))), (53, .v (.int .i64 c22)), (65, .v (.bool false)), (66, .rf 0 0 j27.1.length j27.1.length), (67, .v (.int .i64 v24))] [some ⟨1, 4, (j27.1.map cdB.enc), false⟩] (by kernel_rfl) ?_
            obtain ⟨v29, hv29, hj32⟩ := Option.bind_eq_some_iff.1 hj32
            refine RunS.one e_evening_check_ok 0 rfl (op_q (by kernel_rfl) rfl (q_indexAddr (a := .rf 0 0 j27.1.length j27.1.length) (b := .v (.int .i64 v24)) (by kernel_rfl) (by kernel_rfl) (ix_rl (e := cdB.enc) (xs := j27.1) (t' := 4) (el := 4) (k := 1) (ki := .i64) (by kernel_rfl) (by kernel_rfl) (by kernel_rfl) hv29))) ?_
            refine RunS.one e_evening_check_ok 0 rfl (op_q (by kernel_rfl) rfl (q_load (p := .pt 0 v24.toNat 0) (by kernel_rfl) (ld_blk (B := ⟨1, 4, (j27.1.map cdB.enc), false⟩) (m := 1) (g := false) (e := cdB.enc) (xs := j27.1) (by kernel_rfl) (by kernel_rfl) (by kernel_rfl) rfl (idx_at hv29).2 (by kernel_rfl)))) ?_
            refine RunS.segF (n := 91) e_evening_check_ok 2 [(0, .v (.int .i64 x0)), (1, .sl 1 (x1.map cdI.enc)), (7, .v (.int .i64 c18)), (8, .v (.bool v29)), (9, .v (.bool c20)), (10, .rf 0 0 j27.1.length j27.1.length), (14, .v (.int .i64 v24)), (27, .sl 1 (x2.map (cdL 1 cdI).enc)), (28, .v (.int .i64 (x2.length : Int))), (29, .v (.int .i64 c9)), (51, .sl 1 (v11.map cdI.enc)), (52, .v (.int .i64 (v11.length : Int))), (53, .v (.int .i64 c22)), (66, .rf 0 0 j27.1.length j27.1.length), (67, .v (.int .i64 v24)), (68, .pt 0 v24.toNat 0), (69, .v (.bool v29))] [some ⟨1, 4, (j27.1.map cdB.enc), false⟩] (by kernel_rfl) ?_
            have hq := Option.some.inj hj32; subst hq
            exact RunS.done rfl (Wk.s3 [0] ⟨⟨_, rfl, bu_own⟩, trivial⟩ ⟨lv, lv, lv, lv, lv, lv, lv, lv, lv, lv, lv, lv, lv, trivial⟩)
        refine Sem.seq ?_
        refine Sem.seq ?_
        obtain ⟨v33, hv33, h⟩ := Option.bind_eq_some_iff.1 h
        refine Sem.runS (s1 := ⟨Fr 91 [(0, .v (.int .i64 x0)), (1, .sl 1 (x1.map cdI.enc)), (7, .v (.int .i64 c18)), (8, .v (.bool j32.1)), (9, .v (.bool c20)), (10, .rf 0 0 j32.2.length j32.2.length), (14, .v (.int .i64 v24)), (27, .sl 1 (x2.map (cdL 1 cdI).enc)), (28, .v (.int .i64 (x2.length : Int))), (29, .v (.int .i64 c9)), (51, .sl 1 (v11.map cdI.enc)), (52, .v (.int .i64 (v11.length : Int))), (53, .v (.int .i64 c22)), (75, .v (.bool (!v33)))], [some ⟨1, 4, (j32.2.map cdB.enc), false⟩]⟩) ?_ ?_
        · refine RunS.segF (n := 91) e_evening_check_ok 2 [(0, .v (.int .i64 x0)), (1, .sl 1 (x1.map cdI.enc)), (7, .v (.int .i64 c18)), (8, .v (.bool j32.1)), (9, .v (.bool c20)), (10, .rf 0 0 j32.2.length j32.2.length), (14, .v (.int .i64 v24)), (27, .sl 1 (x2.map (cdL 1 cdI).enc)), (28, .v (.int .i64 (x2.length : Int))), (29, .v (.int .i64 c9)), (51, .sl 1 (v11.map cdI.enc)), (52, .v (.int .i64 (v11.length : Int))), (53, .v (.int .i64 c22)), (71, .rf 0 0 j32.2.length j32.2.length), (72, .v (.int .i64 v24))] [some ⟨1, 4, (j32.2.map cdB.enc), false⟩] (by kernel_rfl) ?_
          refine RunS.one e_evening_check_ok 0 rfl (op_q (wantedA_none rfl) rfl (q_indexAddr (a := .rf 0 0 j32.2.length j32.2.length) (b := .v (.int .i64 v24)) (by kernel_rfl) (by kernel_rfl) (ix_rl (e := cdB.enc) (xs := j32.2) (t' := 4) (el := 4) (k := 1) (ki := .i64) (by kernel_rfl) (by kernel_rfl) (by kernel_rfl) hv33))) ?_
          refine RunS.one e_evening_check_ok 0 rfl (op_q (wantedA_none rfl) rfl (q_load (p := .pt 0 v24.toNat 0) (by kernel_rfl) (ld_blk (B := ⟨1, 4, (j32.2.map cdB.enc), false⟩) (m := 1) (g := false) (e := cdB.enc) (xs := j32.2) (by kernel_rfl) (by kernel_rfl) (by kernel_rfl) rfl (idx_at hv33).2 (by kernel_rfl)))) ?_
          refine RunS.segF (n := 91) e_evening_check_ok 1 [(0, .v (.int .i64 x0)), (1, .sl 1 (x1.map cdI.enc)), (7, .v (.int .i64 c18)), (8, .v (.bool j32.1)), (9, .v (.bool c20)), (10, .rf 0 0 j32.2.length j32.2.length), (14, .v (.int .i64 v24)), (27, .sl 1 (x2.map (cdL 1 cdI).enc)), (28, .v (.int .i64 (x2.length : Int))), (29, .v (.int .i64 c9)), (51, .sl 1 (v11.map cdI.enc)), (52, .v (.int .i64 (v11.length : Int))), (53, .v (.int .i64 c22)), (75, .v (.bool (!v33)))] [some ⟨1, 4, (j32.2.map cdB.enc), false⟩] (by kernel_rfl) ?_
          exact RunS.done rfl (Wk.s3 [0] ⟨⟨_, rfl, bu_own⟩, trivial⟩ ⟨lv, lv, lv, lv, lv, lv, lv, lv, lv, lv, lv, lv, lv, lv, trivial⟩)
        obtain ⟨r36, hr36, h⟩ := Option.bind_eq_some_iff.1 h
        refine Sem.cut (evening_check_j3_ok x0 x1 x2 c9 v11 c18 c20 c22 v24 j32 v33 _ hr36) ?_
        obtain ⟨v37, hv37, h⟩ := Option.bind_eq_some_iff.1 h
        refine Sem.runS (s1 := ⟨Fr 91 [(0, .v (.int .i64 x0)), (1, .sl 1 (x1.map cdI.enc)), (7, .v (.int .i64 r36)), (8, .v (.bool j32.1)), (9, .v (.bool c20)), (10, .rf 0 0 (j32.2.set v24.toNat true).length (j32.2.set v24.toNat true).length), (27, .sl 1 (x2.map (cdL 1 cdI).enc)), (28, .v (.int .i64 (x2.length : Int))), (29, .v (.int .i64 c9)), (51, .sl 1 (v11.map cdI.enc)), (52, .v (.int .i64 (v11.length : Int))), (53, .v (.int .i64 c22))], [some ⟨1, 4, ((j32.2.set v24.toNat true).map cdB.enc), false⟩]⟩) ?_ ?_
        · refine RunS.segF (n := 91) e_evening_check_ok 2 [(0, .v (.int .i64 x0)), (1, .sl 1 (x1.map cdI.enc)), (7, .v (.int .i64 r36)), (8, .v (.bool j32.1)), (9, .v (.bool c20)), (10, .rf 0 0 j32.2.length j32.2.length), (27, .sl 1 (x2.map (cdL 1 cdI).enc)), (28, .v (.int .i64 (x2.length : Int))), (29, .v (.int .i64 c9)), (51, .sl 1 (v11.map cdI.enc)), (52, .v (.int .i64 (v11.length : Int))), (53, .v (.int .i64 c22)), (78, .rf 0 0 j32.2.length j32.2.length), (79, .v (.int .i64 v24))] [some ⟨1, 4, (j32.2.map cdB.enc), false⟩] (by kernel_rfl) ?_
          refine RunS.one e_evening_check_ok 0 rfl (op_q (wantedA_none rfl) rfl (q_indexAddr (a := .rf 0 0 j32.2.length j32.2.length) (b := .v (.int .i64 v24)) (by kernel_rfl) (by kernel_rfl) (ix_rl (e := cdB.enc) (xs := j32.2) (t' := 4) (el := 4) (k := 1) (ki := .i64) (by kernel_rfl) (by kernel_rfl) (by kernel_rfl) hv37))) ?_
          refine RunS.store e_evening_check_ok (y := .pt 0 v24.toNat 0) (z := .v (.bool true)) rfl (wantedA_none rfl) (by kernel_rfl) (by kernel_rfl) (st_blk (t' := 4) (k := 1) (e := cdB.enc) (xs := j32.2) (v := v37) (v' := true) (by kernel_rfl) (idx_at hv37).2 (by kernel_rfl) (by kernel_rfl) (by kernel_rfl)) ?_
          exact RunS.done rfl (Wk.s3 [0] ⟨⟨_, rfl, bu_own⟩, trivial⟩ ⟨lv, lv, lv, lv, lv, lu_rl (b' := 0) (n := j32.2.length) (by kernel_rfl) (by simp) (by kernel_rfl), lv, lv, lv, lv, lv, lv, trivial⟩)
        refine Sem.runS (s1 := ⟨Fr 91 [(0, .v (.int .i64 x0)), (1, .sl 1 (x1.map cdI.enc)), (7, .v (.int .i64 r36)), (8, .v (.bool j32.1)), (9, .v (.bool c20)), (10, .rf 0 0 (j32.2.set v24.toNat true).length (j32.2.set v24.toNat true).length), (27, .sl 1 (x2.map (cdL 1 cdI).enc)), (28, .v (.int .i64 (x2.length : Int))), (29, .v (.int .i64 c9)), (51, .sl 1 (v11.map cdI.enc)), (52, .v (.int .i64 (v11.length : Int))), (53, .v (.int .i64 (wr .i64 (c22 + 1))))], [some ⟨1, 4, ((j32.2.set v24.toNat true).map cdB.enc), false⟩]⟩) ?_ ?_
        · refine RunS.segF (n := 91) e_evening_check_ok 2 [(0, .v (.int .i64 x0)), (1, .sl 1 (x1.map cdI.enc)), (7, .v (.int .i64 r36)), (8, .v (.bool j32.1)), (9, .v (.bool c20)), (10, .rf 0 0 (j32.2.set v24.toNat true).length (j32.2.set v24.toNat true).length), (27, .sl 1 (x2.map (cdL 1 cdI).enc)), (28, .v (.int .i64 (x2.length : Int))), (29, .v (.int .i64 c9)), (51, .sl 1 (v11.map cdI.enc)), (52, .v (.int .i64 (v11.length : Int))), (53, .v (.int .i64 (wr .i64 (c22 + 1))))] [some ⟨1, 4, ((j32.2.set v24.toNat true).map cdB.enc), false⟩] (by kernel_rfl) ?_
          exact RunS.done rfl (Wk.s3 [0] ⟨⟨_, rfl, bu_own⟩, trivial⟩ ⟨lv, lv, lv, lv, lv, lv, lv, lv, lv, lv, lv, lv, trivial⟩)
        exact SemN.wk (s1 := ⟨Fr 91 [(0, .v (.int .i64 x0)), (1, .sl 1 (x1.map cdI.enc)), (7, .v (.int .i64 r36)), (8, .v (.bool j32.1)), (9, .v (.bool c20)), (10, .rf 0 0 (j32.2.set v24.toNat true).length (j32.2.set v24.toNat true).length), (27, .sl 1 (x2.map (cdL 1 cdI).enc)), (28, .v (.int .i64 (x2.length : Int))), (29, .v (.int .i64 c9)), (51, .sl 1 (v11.map cdI.enc)), (52, .v (.int .i64 (v11.length : Int))), (53, .v (.int .i64 (wr .i64 (c22 + 1))))], [some ⟨1, 4, ((j32.2.set v24.toNat true).map cdB.enc), false⟩]⟩) (Wk.s3 [0] ⟨⟨_, rfl, bu_own⟩, trivial⟩ ⟨lv, lv, lv, lv, lv, lv, lv, lv, lv, lv, lv, lv, trivial⟩) (ih r36 j32.1 c20 (j32.2.set v24.toNat true) (wr .i64 (c22 + 1)) h)
    · rw [if_f hb23] at h
      refine Sem.exit ?_
      have hq := Option.some.inj h; subst hq
      exact ⟨rfl, (Wk.s3 [0] ⟨⟨_, rfl, bu_own⟩, trivial⟩ ⟨lv, lv, lv, lv, lv, lv, lv, lv, lv, trivial⟩)⟩
set_option maxHeartbeats 4000000 in
set_option maxRecDepth 100000 in
theorem evening_check_1_ok (x0 : Int) (x1 : (List Int)) (x2 : (List (List Int))) : ∀ (f : Nat) (c5 : Int) (c6 : Bool) (c7 : Bool) (c8 : (List Bool)) (c9 : Int) (r : (Int × Bool × Bool) ⊕ (Int)), evening_check_1 x0 x1 x2 f c5 c6 c7 c8 c9 = some r → SemN e_evening_check ⟨none, false⟩ (pc cb_evening_check [1, 1, 1, 1, 0, 1, 0, 0]) f ⟨Fr 91 [(0, .v (.int .i64 x0)), (1, .sl 1 (x1.map cdI.enc)), (7, .v (.int .i64 c5)), (8, .v (.bool c6)), (9, .v (.bool c7)), (10, .rf 0 0 c8.length c8.length), (27, .sl 1 (x2.map (cdL 1 cdI).enc)), (28, .v (.int .i64 (x2.length : Int))), (29, .v (.int .i64 c9))], [some ⟨1, 4, (c8.map cdB.enc), false⟩]⟩ (fun e s => match r with
  | (.inl w) => e = (.exit 0) ∧ Wk e_evening_check s ⟨Fr 91 [(0, .v (.int .i64 x0)), (7, .v (.int .i64 w.1)), (8, .v (.bool w.2.1)), (9, .v (.bool w.2.2))], []⟩
  | (.inr w) => e = .ret ∧ Wk e_evening_check s ⟨Fr 91 [(6, .v (.int .i64 w))], []⟩) := by
  intro f
  induction f with
  | zero => intro c5 c6 c7 c8 c9 r h; cases h
  | succ f ih0 =>
    intro c5 c6 c7 c8 c9 r h
    have ih := fun (c5 : Int) (c6 : Bool) (c7 : Bool) (c8 : (List Bool)) (c9 : Int) => ih0 c5 c6 c7 c8 c9 r
    unfold evening_check_1 at h
    refine SemN.succ ?_
    refine Sem.seq ?_
    refine Sem.runS (s1 := ⟨Fr 91 [(0, .v (.int .i64 x0)), (1, .sl 1 (x1.map cdI.enc)), (7, .v (.int .i64 c5)), (8, .v (.bool c6)), (9, .v (.bool c7)), (10, .rf 0 0 c8.length c8.length), (27, .sl 1 (x2.map (cdL 1 cdI).enc)), (28, .v (.int .i64 (x2.length : Int))), (29, .v (.int .i64 c9)), (30, .v (.bool (decide (c9 < (x2.length : Int)))))], [some ⟨1, 4, (c8.map cdB.enc), false⟩]⟩) ?_ ?_
    · refine RunS.segF (n := 91) e_evening_check_ok 1 [(0, .v (.int .i64 x0)), (1, .sl 1 (x1.map cdI.enc)), (7, .v (.int .i64 c5)), (8, .v (.bool c6)), (9, .v (.bool c7)), (10, .rf 0 0 c8.length c8.length), (27, .sl 1 (x2.map (cdL 1 cdI).enc)), (28, .v (.int .i64 (x2.length : Int))), (29, .v (.int .i64 c9)), (30, .v (.bool (decide (c9 < (x2.length : Int)))))] [some ⟨1, 4, (c8.map cdB.enc), false⟩] (by kernel_rfl) ?_
      exact RunS.done rfl (Wk.s3 [0] ⟨⟨_, rfl, bu_own⟩, trivial⟩ ⟨lv, lv, lv, lv, lv, lv, lv, lv, lv, lv, trivial⟩)
    refine Sem.seq ?_
    refine Sem.cond (b := (decide (c9 < (x2.length : Int)))) (by kernel_rfl) (fun hb10 => ?_) (fun hb10 => ?_)
    · rw [if_pos hb10] at h
      refine Sem.skip ?_
      refine Sem.seq ?_
      refine Sem.block ?_
      refine Sem.seq ?_
      obtain ⟨v11, hv11, h⟩ := Option.bind_eq_some_iff.1 h
      refine Sem.runS (s1 := ⟨Fr 91 [(0, .v (.int .i64 x0)), (1, .sl 1 (x1.map cdI.enc)), (7, .v (.int .i64 c5)), (8, .v (.bool c6)), (9, .v (.bool c7)), (10, .rf 0 0 c8.length c8.length), (11, .v (.int .i64 c9)), (12, .sl 1 (v11.map cdI.enc)), (27, .sl 1 (x2.map (cdL 1 cdI).enc)), (28, .v (.int .i64 (x2.length : Int))), (29, .v (.int .i64 c9))], [some ⟨1, 4, (c8.map cdB.enc), false⟩]⟩) ?_ ?_
      · refine RunS.segF (n := 91) e_evening_check_ok 1 [(0, .v (.int .i64 x0)), (1, .sl 1 (x1.map cdI.enc)), (7, .v (.int .i64 c5)), (8, .v (.bool c6)), (9, .v (.bool c7)), (10, .rf 0 0 c8.length c8.length), (27, .sl 1 (x2.map (cdL 1 cdI).enc)), (28, .v (.int .i64 (x2.length : Int))), (29, .v (.int .i64 c9)), (31, .v (.int .i64 c9))] [some ⟨1, 4, (c8.map cdB.enc), false⟩] (by kernel_rfl) ?_
        refine RunS.one e_evening_check_ok 0 rfl (op_q (wantedA_none rfl) rfl (q_indexAddr (a := .sl 1 (x2.map (cdL 1 cdI).enc)) (b := .v (.int .i64 c9)) (by kernel_rfl) (by kernel_rfl) (ix_sl (e := (cdL 1 cdI).enc) (el := 31) (k := 1) (ki := .i64) (by kernel_rfl) (by kernel_rfl) hv11))) ?_
        refine RunS.segF (n := 91) e_evening_check_ok 3 [(0, .v (.int .i64 x0)), (1, .sl 1 (x1.map cdI.enc)), (7, .v (.int .i64 c5)), (8, .v (.bool c6)), (9, .v (.bool c7)), (10, .rf 0 0 c8.length c8.length), (11, .v (.int .i64 c9)), (12, .sl 1 (v11.map cdI.enc)), (27, .sl 1 (x2.map (cdL 1 cdI).enc)), (28, .v (.int .i64 (x2.length : Int))), (29, .v (.int .i64 c9))] [some ⟨1, 4, (c8.map cdB.enc), false⟩] (by kernel_rfl) ?_
        exact RunS.done rfl (Wk.s3 [0] ⟨⟨_, rfl, bu_own⟩, trivial⟩ ⟨lv, lv, lv, lv, lv, lv, lv, lv, lv, lv, lv, trivial⟩)
      refine Sem.seq ?_
      refine Sem.seq ?_
      obtain ⟨j15, hj15, h⟩ := Option.bind_eq_some_iff.1 h
      refine Sem.runS (s1 := ⟨Fr 91 [(0, .v (.int .i64 x0)), (1, .sl 1 (x1.map cdI.enc)), (7, .v (.int .i64 c5)), (8, .v (.bool c6)), (9, .v (.bool c7)), (10, .rf 0 0 j15.1.length j15.1.length), (12, .sl 1 (v11.map cdI.enc)), (27, .sl 1 (x2.map (cdL 1 cdI).enc)), (28, .v (.int .i64 (x2.length : Int))), (29, .v (.int .i64 c9)), (50, .v (.bool j15.2))], [some ⟨1, 4, (j15.1.map cdB.enc), false⟩]⟩) ?_ ?_
      · refine RunS.segF (n := 91) e_evening_check_ok 1 [(0, .v (.int .i64 x0)), (1, .sl 1 (x1.map cdI.enc)), (7, .v (.int .i64 c5)), (8, .v (.bool c6)), (9, .v (.bool c7)), (10, .rf 0 0 c8.length c8.length), (11, .v (.int .i64 c9)), (12, .sl 1 (v11.map cdI.enc)), (27, .sl 1 (x2.map (cdL 1 cdI).enc)), (28, .v (.int .i64 (x2.length : Int))), (29, .v (.int .i64 c9)), (34, .sl 1 (v11.map cdI.enc))] [some ⟨1, 4, (c8.map cdB.enc), false⟩] (by kernel_rfl) ?_
        refine RunS.one e_evening_check_ok 0 rfl (op_q (wantedA_none rfl) rfl (q_len (a := .sl 1 (v11.map cdI.enc)) (by kernel_rfl) (len_sl (el := 3) (by kernel_rfl)))) ?_
        refine RunS.segF (n := 91) e_evening_check_ok 2 [(0, .v (.int .i64 x0)), (1, .sl 1 (x1.map cdI.enc)), (7, .v (.int .i64 c5)), (8, .v (.bool c6)), (9, .v (.bool c7)), (10, .rf 0 0 c8.length c8.length), (11, .v (.int .i64 c9)), (12, .sl 1 (v11.map cdI.enc)), (27, .sl 1 (x2.map (cdL 1 cdI).enc)), (28, .v (.int .i64 (x2.length : Int))), (29, .v (.int .i64 c9)), (37, .v (.bool ((v11.length : Int) == 0)))] [some ⟨1, 4, (c8.map cdB.enc), false⟩] (by kernel_rfl) ?_
        rcases Bool.eq_false_or_eq_true ((v11.length : Int) == 0) with hc45 | hc45
        · rw [if_pos hc45] at hj15
          rw [hc45]
          refine RunS.segF (n := 91) e_evening_check_ok 13 [(0, .v (.int .i64 x0)), (1, .sl 1 (x1.map cdI.enc)), (7, .v (.int .i64 c5)), (8, .v (.bool c6)), (9, .v (.bool c7)), (10, .rf 0 0 c8.length c8.length), (12, .sl 1 (v11.map cdI.enc)), (27, .sl 1 (x2.map (cdL 1 cdI).enc)), (28, .v (.int .i64 (x2.length : Int))), (29, .v (.int .i64 c9)), (38, .tp []), (39, .tp []), (40, .tp []), (41, .tp []), (42, .tp []), (43, .tp []), (44, .tp []), (45, .tp []), (46, .tp []), (47, .tp []), (48, .tp []), (49, .tp []), (50, .v (.bool true))] [some ⟨1, 4, (c8.map cdB.enc), false⟩] (by kernel_rfl) ?_
          have hq := Option.some.inj hj15; subst hq
          exact RunS.done rfl (Wk.s3 [0] ⟨⟨_, rfl, bu_own⟩, trivial⟩ ⟨lv, lv, lv, lv, lv, lv, lv, lv, lv, lv, lv, trivial⟩)
        · rw [if_f hc45] at hj15
          rw [hc45]
          refine RunS.segF (n := 91) e_evening_check_ok 1 [(0, .v (.int .i64 x0)), (1, .sl 1 (x1.map cdI.enc)), (7, .v (.int .i64 c5)), (8, .v (.bool c6)), (9, .v (.bool c7)), (10, .rf 0 0 c8.length c8.length), (11, .v (.int .i64 c9)), (12, .sl 1 (v11.map cdI.enc)), (27, .sl 1 (x2.map (cdL 1 cdI).enc)), (28, .v (.int .i64 (x2.length : Int))), (29, .v (.int .i64 c9)), (37, .v (.bool false)), (38, .sl 1 (x1.map cdI.enc))] [some ⟨1, 4, (c8.map cdB.enc), false⟩] (by kernel_rfl) ?_
          refine RunS.one e_evening_check_ok 0 rfl (op_q (by kernel_rfl) rfl (q_len (a := .sl 1 (x1.map cdI.enc)) (by kernel_rfl) (len_sl (el := 3) (by kernel_rfl)))) ?_
          refine RunS.segF (n := 91) e_evening_check_ok 2 [(0, .v (.int .i64 x0)), (1, .sl 1 (x1.map cdI.enc)), (7, .v (.int .i64 c5)), (8, .v (.bool c6)), (9, .v (.bool c7)), (10, .rf 0 0 c8.length c8.length), (11, .v (.int .i64 c9)), (12, .sl 1 (v11.map cdI.enc)), (27, .sl 1 (x2.map (cdL 1 cdI).enc)), (28, .v (.int .i64 (x2.length : Int))), (29, .v (.int .i64 c9)), (37, .v (.bool false)), (38, .sl 1 (x1.map cdI.enc)), (39, .v (.int .i64 (x1.length : Int))), (40, .v (.bool (decide ((x1.length : Int) > 0)))), (41, .v (.bool (decide ((x1.length : Int) > 0))))] [some ⟨1, 4, (c8.map cdB.enc), false⟩] (by kernel_rfl) ?_
          rcases Bool.eq_false_or_eq_true (decide ((x1.length : Int) > 0)) with hc46 | hc46
          · rw [if_pos hc46] at hj15
            rw [hc46]
            refine RunS.segF (n := 91) e_evening_check_ok 1 [(0, .v (.int .i64 x0)), (1, .sl 1 (x1.map cdI.enc)), (7, .v (.int .i64 c5)), (8, .v (.bool c6)), (9, .v (.bool c7)), (10, .rf 0 0 c8.length c8.length), (11, .v (.int .i64 c9)), (12, .sl 1 (v11.map cdI.enc)), (27, .sl 1 (x2.map (cdL 1 cdI).enc)), (28, .v (.int .i64 (x2.length : Int))), (29, .v (.int .i64 c9)), (37, .v (.bool false)), (38, .sl 1 (x1.map cdI.enc)), (39, .v (.int .i64 (x1.length : Int))), (40, .v (.bool true)), (41, .v (.bool true)), (42, .sl 1 (v11.map cdI.enc))] [some ⟨1, 4, (c8.map cdB.enc), false⟩] (by kernel_rfl) ?_
            refine RunS.one e_evening_check_ok 0 rfl (op_q (by kernel_rfl) rfl (q_len (a := .sl 1 (v11.map cdI.enc)) (by kernel_rfl) (len_sl (el := 3) (by kernel_rfl)))) ?_
            refine RunS.segF (n := 91) e_evening_check_ok 2 [(0, .v (.int .i64 x0)), (1, .sl 1 (x1.map cdI.enc)), (7, .v (.int .i64 c5)), (8, .v (.bool c6)), (9, .v (.bool c7)), (10, .rf 0 0 c8.length c8.length), (12, .sl 1 (v11.map cdI.enc)), (27, .sl 1 (x2.map (cdL 1 cdI).enc)), (28, .v (.int .i64 (x2.length : Int))), (29, .v (.int .i64 c9)), (37, .v (.bool false)), (38, .sl 1 (x1.map cdI.enc)), (39, .v (.int .i64 (x1.length : Int))), (40, .v (.bool true)), (41, .v (.bool true)), (42, .sl 1 (v11.map cdI.enc)), (43, .v (.int .i64 (v11.length : Int))), (44, .sl 1 (x1.map cdI.enc)), (45, .v (.int .i64 c9))] [some ⟨1, 4, (c8.map cdB.enc), false⟩] (by kernel_rfl) ?_
            obtain ⟨v12, hv12, hj15⟩ := Option.bind_eq_some_iff.1 hj15
            refine RunS.one e_evening_check_ok 0 rfl (op_q (by kernel_rfl) rfl (q_indexAddr (a := .sl 1 (x1.map cdI.enc)) (b := .v (.int .i64 c9)) (by kernel_rfl) (by kernel_rfl) (ix_sl (e := cdI.enc) (el := 3) (k := 1) (ki := .i64) (by kernel_rfl) (by kernel_rfl) hv12))) ?_
            refine RunS.segF (n := 91) e_evening_check_ok 4 [(0, .v (.int .i64 x0)), (1, .sl 1 (x1.map cdI.enc)), (7, .v (.int .i64 c5)), (8, .v (.bool c6)), (9, .v (.bool c7)), (10, .rf 0 0 c8.length c8.length), (12, .sl 1 (v11.map cdI.enc)), (27, .sl 1 (x2.map (cdL 1 cdI).enc)), (28, .v (.int .i64 (x2.length : Int))), (29, .v (.int .i64 c9)), (38, .sl 1 (x1.map cdI.enc)), (39, .v (.int .i64 (x1.length : Int))), (40, .v (.bool true)), (41, .v (.bool true)), (42, .sl 1 (v11.map cdI.enc)), (43, .v (.int .i64 (v11.length : Int))), (44, .sl 1 (x1.map cdI.enc)), (45, .v (.int .i64 c9)), (46, .pe (.v (.int .i64 v12)) 0), (47, .v (.int .i64 v12)), (48, .v (.bool ((v11.length : Int) != v12))), (49, .v (.bool ((v11.length : Int) != v12))), (50, .v (.bool ((v11.length : Int) != v12)))] [some ⟨1, 4, (c8.map cdB.enc), false⟩] (by kernel_rfl) ?_
            have hq := Option.some.inj hj15; subst hq
            exact RunS.done rfl (Wk.s3 [0] ⟨⟨_, rfl, bu_own⟩, trivial⟩ ⟨lv, lv, lv, lv, lv, lv, lv, lv, lv, lv, lv, trivial⟩)
          · rw [if_f hc46] at hj15
            rw [hc46]
            refine RunS.segF (n := 91) e_evening_check_ok 9 [(0, .v (.int .i64 x0)), (1, .sl 1 (x1.map cdI.enc)), (7, .v (.int .i64 c5)), (8, .v (.bool c6)), (9, .v (.bool c7)), (10, .rf 0 0 c8.length c8.length), (12, .sl 1 (v11.map cdI.enc)), (27, .sl 1 (x2.map (cdL 1 cdI).enc)), (28, .v (.int .i64 (x2.length : Int))), (29, .v (.int .i64 c9)), (38, .sl 1 (x1.map cdI.enc)), (39, .v (.int .i64 (x1.length : Int))), (40, .v (.bool false)), (41, .v (.bool false)), (42, .tp []), (43, .tp []), (44, .tp []), (45, .tp []), (46, .tp []), (47, .tp []), (48, .tp []), (49, .v (.bool false)), (50, .v (.bool false))] [some ⟨1, 4, (c8.map cdB.enc), false⟩] (by kernel_rfl) ?_
            have hq := Option.some.inj hj15; subst hq
            exact RunS.done rfl (Wk.s3 [0] ⟨⟨_, rfl, bu_own⟩, trivial⟩ ⟨lv, lv, lv, lv, lv, lv, lv, lv, lv, lv, lv, trivial⟩)
      refine Sem.cond (b := j15.2) (by kernel_rfl) (fun hb16 => ?_) (fun hb16 => ?_)
      · rw [if_pos hb16] at h
        refine Sem.seq ?_
        refine Sem.runS (s1 := ⟨Fr 91 [(6, .v (.int .i64 2))], []⟩) ?_ ?_
        · refine RunS.segF (n := 91) e_evening_check_ok 1 [(6, .v (.int .i64 2))] [some ⟨1, 4, (j15.1.map cdB.enc), false⟩] (by kernel_rfl) ?_
          exact RunS.done rfl (Wk.s3 [] trivial ⟨lv, trivial⟩)
        refine Sem.ret ?_
        have hq := Option.some.inj h; subst hq
        exact ⟨rfl, Wk.f1⟩
      · rw [if_f hb16] at h
        refine Sem.skip ?_
        refine Sem.seq ?_
        refine Sem.runS (s1 := ⟨Fr 91 [(0, .v (.int .i64 x0)), (1, .sl 1 (x1.map cdI.enc)), (7, .v (.int .i64 c5)), (8, .v (.bool c6)), (9, .v (.bool c7)), (10, .rf 0 0 j15.1.length j15.1.length), (27, .sl 1 (x2.map (cdL 1 cdI).enc)), (28, .v (.int .i64 (x2.length : Int))), (29, .v (.int .i64 c9)), (51, .sl 1 (v11.map cdI.enc)), (52, .v (.int .i64 (v11.length : Int))), (53, .v (.int .i64 0))], [some ⟨1, 4, (j15.1.map cdB.enc), false⟩]⟩) ?_ ?_
        · refine RunS.segF (n := 91) e_evening_check_ok 1 [(0, .v (.int .i64 x0)), (1, .sl 1 (x1.map cdI.enc)), (7, .v (.int .i64 c5)), (8, .v (.bool c6)), (9, .v (.bool c7)), (10, .rf 0 0 j15.1.length j15.1.length), (27, .sl 1 (x2.map (cdL 1 cdI).enc)), (28, .v (.int .i64 (x2.length : Int))), (29, .v (.int .i64 c9)), (51, .sl 1 (v11.map cdI.enc))] [some ⟨1, 4, (j15.1.map cdB.enc), false⟩] (by kernel_rfl) ?_
          refine RunS.one e_evening_check_ok 0 rfl (op_q (wantedA_none rfl) rfl (q_len (a := .sl 1 (v11.map cdI.enc)) (by kernel_rfl) (len_sl (el := 3) (by kernel_rfl)))) ?_
          refine RunS.segF (n := 91) e_evening_check_ok 1 [(0, .v (.int .i64 x0)), (1, .sl 1 (x1.map cdI.enc)), (7, .v (.int .i64 c5)), (8, .v (.bool c6)), (9, .v (.bool c7)), (10, .rf 0 0 j15.1.length j15.1.length), (27, .sl 1 (x2.map (cdL 1 cdI).enc)), (28, .v (.int .i64 (x2.length : Int))), (29, .v (.int .i64 c9)), (51, .sl 1 (v11.map cdI.enc)), (52, .v (.int .i64 (v11.length : Int))), (53, .v (.int .i64 0))] [some ⟨1, 4, (j15.1.map cdB.enc), false⟩] (by kernel_rfl) ?_
          exact RunS.done rfl (Wk.s3 [0] ⟨⟨_, rfl, bu_own⟩, trivial⟩ ⟨lv, lv, lv, lv, lv, lv, lv, lv, lv, lv, lv, lv, trivial⟩)
        refine Sem.block ?_
        obtain ⟨r44, hr44, h⟩ := Option.bind_eq_some_iff.1 h
        refine Sem.loop (n := 100000) ?_
        refine Sem.cutN (SemN.wk (s1 := ⟨Fr 91 [(0, .v (.int .i64 x0)), (1, .sl 1 (x1.map cdI.enc)), (7, .v (.int .i64 c5)), (8, .v (.bool c6)), (9, .v (.bool c7)), (10, .rf 0 0 j15.1.length j15.1.length), (27, .sl 1 (x2.map (cdL 1 cdI).enc)), (28, .v (.int .i64 (x2.length : Int))), (29, .v (.int .i64 c9)), (51, .sl 1 (v11.map cdI.enc)), (52, .v (.int .i64 (v11.length : Int))), (53, .v (.int .i64 0))], [some ⟨1, 4, (j15.1.map cdB.enc), false⟩]⟩) (Wk.s3 [0] ⟨⟨_, rfl, bu_own⟩, trivial⟩ ⟨lv, lv, lv, lv, lv, lv, lv, lv, lv, lv, lv, lv, trivial⟩) (evening_check_2_ok x0 x1 x2 c9 v11 _ c5 c6 c7 j15.1 0 _ hr44)) ?_
        refine Sem.runS (s1 := ⟨Fr 91 [(0, .v (.int .i64 x0)), (1, .sl 1 (x1.map cdI.enc)), (7, .v (.int .i64 r44.1)), (8, .v (.bool r44.2.1)), (9, .v (.bool r44.2.2.1)), (10, .rf 0 0 r44.2.2.2.length r44.2.2.2.length), (27, .sl 1 (x2.map (cdL 1 cdI).enc)), (28, .v (.int .i64 (x2.length : Int))), (29, .v (.int .i64 (wr .i64 (c9 + 1))))], [some ⟨1, 4, (r44.2.2.2.map cdB.enc), false⟩]⟩) ?_ ?_
        · refine RunS.segF (n := 91) e_evening_check_ok 2 [(0, .v (.int .i64 x0)), (1, .sl 1 (x1.map cdI.enc)), (7, .v (.int .i64 r44.1)), (8, .v (.bool r44.2.1)), (9, .v (.bool r44.2.2.1)), (10, .rf 0 0 r44.2.2.2.length r44.2.2.2.length), (27, .sl 1 (x2.map (cdL 1 cdI).enc)), (28, .v (.int .i64 (x2.length : Int))), (29, .v (.int .i64 (wr .i64 (c9 + 1))))] [some ⟨1, 4, (r44.2.2.2.map cdB.enc), false⟩] (by kernel_rfl) ?_
          exact RunS.done rfl (Wk.s3 [0] ⟨⟨_, rfl, bu_own⟩, trivial⟩ ⟨lv, lv, lv, lv, lv, lv, lv, lv, lv, trivial⟩)
        exact SemN.wk (s1 := ⟨Fr 91 [(0, .v (.int .i64 x0)), (1, .sl 1 (x1.map cdI.enc)), (7, .v (.int .i64 r44.1)), (8, .v (.bool r44.2.1)), (9, .v (.bool r44.2.2.1)), (10, .rf 0 0 r44.2.2.2.length r44.2.2.2.length), (27, .sl 1 (x2.map (cdL 1 cdI).enc)), (28, .v (.int .i64 (x2.length : Int))), (29, .v (.int .i64 (wr .i64 (c9 + 1))))], [some ⟨1, 4, (r44.2.2.2.map cdB.enc), false⟩]⟩) (Wk.s3 [0] ⟨⟨_, rfl, bu_own⟩, trivial⟩ ⟨lv, lv, lv, lv, lv, lv, lv, lv, lv, trivial⟩) (ih r44.1 r44.2.1 r44.2.2.1 r44.2.2.2 (wr .i64 (c9 + 1)) h)
    · rw [if_f hb10] at h
      refine Sem.exit ?_
      have hq := Option.some.inj h; subst hq
      exact ⟨rfl, (Wk.s3 [] trivial ⟨lv, lv, lv, lv, trivial⟩)⟩
set_option maxHeartbeats 4000000 in
set_option maxRecDepth 100000 in
theorem evening_check_sem (x0 : Int) (x1 : (List Int)) (x2 : (List (List Int))) (r : Int) (h : evening_check x0 x1 x2 = some r) : Sem e_evening_check ⟨none, false⟩ cb_evening_check ⟨Fr 91 (pairs0 0 (cs_evening_check.enc (x0, x1, x2, ()))), []⟩ fun e s' => (e = .normal ∨ e = .ret) ∧ ∃ xs, resA e_evening_check.P s'.fr s'.hp Tryd.f83.results.toList = some xs ∧ retA xs = er_evening_check r := by
  unfold evening_check at h
  refine Sem.wkQ (Sem.wk (s1 := ⟨Fr 91 [(0, .v (.int .i64 x0)), (1, .sl 1 (x1.map cdI.enc)), (2, .sl 1 (x2.map (cdL 1 cdI).enc))], []⟩) Wk.f1 ?_)
  refine Sem.seq ?_
  refine Sem.runS (s1 := ⟨Fr 91 [(0, .v (.int .i64 x0)), (1, .sl 1 (x1.map cdI.enc)), (2, .sl 1 (x2.map (cdL 1 cdI).enc))], []⟩) ?_ ?_
  · refine RunS.segF (n := 91) e_evening_check_ok 1 [(0, .v (.int .i64 x0)), (1, .sl 1 (x1.map cdI.enc)), (2, .sl 1 (x2.map (cdL 1 cdI).enc))] [] (by kernel_rfl) ?_
    exact RunS.done rfl Wk.f1
  refine Sem.seq ?_
  refine Sem.seq ?_
  obtain ⟨j2, hj2, h⟩ := Option.bind_eq_some_iff.1 h
  refine Sem.runS (s1 := ⟨Fr 91 [(0, .v (.int .i64 x0)), (1, .sl 1 (x1.map cdI.enc)), (2, .sl 1 (x2.map (cdL 1 cdI).enc)), (24, .v (.bool j2))], []⟩) ?_ ?_
  · refine RunS.segF (n := 91) e_evening_check_ok 1 [(0, .v (.int .i64 x0)), (1, .sl 1 (x1.map cdI.enc)), (2, .sl 1 (x2.map (cdL 1 cdI).enc)), (15, .sl 1 (x1.map cdI.enc))] [] (by kernel_rfl) ?_
    refine RunS.one e_evening_check_ok 0 rfl (op_q (wantedA_none rfl) rfl (q_len (a := .sl 1 (x1.map cdI.enc)) (by kernel_rfl) (len_sl (el := 3) (by kernel_rfl)))) ?_
    refine RunS.segF (n := 91) e_evening_check_ok 2 [(0, .v (.int .i64 x0)), (1, .sl 1 (x1.map cdI.enc)), (2, .sl 1 (x2.map (cdL 1 cdI).enc)), (18, .v (.bool (decide ((x1.length : Int) > 0))))] [] (by kernel_rfl) ?_
    rcases Bool.eq_false_or_eq_true (decide ((x1.length : Int) > 0)) with hc56 | hc56
    · rw [if_pos hc56] at hj2
      rw [hc56]
      refine RunS.segF (n := 91) e_evening_check_ok 1 [(0, .v (.int .i64 x0)), (1, .sl 1 (x1.map cdI.enc)), (2, .sl 1 (x2.map (cdL 1 cdI).enc)), (18, .v (.bool true)), (19, .sl 1 (x1.map cdI.enc))] [] (by kernel_rfl) ?_
      refine RunS.one e_evening_check_ok 0 rfl (op_q (by kernel_rfl) rfl (q_len (a := .sl 1 (x1.map cdI.enc)) (by kernel_rfl) (len_sl (el := 3) (by kernel_rfl)))) ?_
      refine RunS.segF (n := 91) e_evening_check_ok 1 [(0, .v (.int .i64 x0)), (1, .sl 1 (x1.map cdI.enc)), (2, .sl 1 (x2.map (cdL 1 cdI).enc)), (18, .v (.bool true)), (20, .v (.int .i64 (x1.length : Int))), (21, .sl 1 (x2.map (cdL 1 cdI).enc))] [] (by kernel_rfl) ?_
      refine RunS.one e_evening_check_ok 0 rfl (op_q (by kernel_rfl) rfl (q_len (a := .sl 1 (x2.map (cdL 1 cdI).enc)) (by kernel_rfl) (len_sl (el := 31) (by kernel_rfl)))) ?_
      refine RunS.segF (n := 91) e_evening_check_ok 2 [(0, .v (.int .i64 x0)), (1, .sl 1 (x1.map cdI.enc)), (2, .sl 1 (x2.map (cdL 1 cdI).enc)), (24, .v (.bool ((x1.length : Int) != (x2.length : Int))))] [] (by kernel_rfl) ?_
      have hq := Option.some.inj hj2; subst hq
      exact RunS.done rfl Wk.f1
    · rw [if_f hc56] at hj2
      rw [hc56]
      refine RunS.segF (n := 91) e_evening_check_ok 6 [(0, .v (.int .i64 x0)), (1, .sl 1 (x1.map cdI.enc)), (2, .sl 1 (x2.map (cdL 1 cdI).enc)), (24, .v (.bool false))] [] (by kernel_rfl) ?_
      have hq := Option.some.inj hj2; subst hq
      exact RunS.done rfl Wk.f1
  refine Sem.cond (b := j2) (by kernel_rfl) (fun hb3 => ?_) (fun hb3 => ?_)
  · rw [if_pos hb3] at h
    refine Sem.seq ?_
    refine Sem.runS (s1 := ⟨Fr 91 [(6, .v (.int .i64 2))], []⟩) ?_ ?_
    · refine RunS.segF (n := 91) e_evening_check_ok 1 [(6, .v (.int .i64 2))] [] (by kernel_rfl) ?_
      exact RunS.done rfl Wk.f1
    refine Sem.ret ?_
    have hq := Option.some.inj h; subst hq
    exact ⟨⟨Fr 91 [(6, .v (.int .i64 2))], []⟩, Wk.f1, .inr rfl, [.v (.int .i64 2)], (by kernel_rfl), (by kernel_rfl)⟩
  · rw [if_f hb3] at h
    refine Sem.skip ?_
    refine Sem.seq ?_
    refine Sem.runS (s1 := ⟨Fr 91 [(0, .v (.int .i64 x0)), (1, .sl 1 (x1.map cdI.enc)), (2, .sl 1 (x2.map (cdL 1 cdI).enc)), (7, .v (.int .i64 0)), (8, .v (.bool false)), (9, .v (.bool false))], []⟩) ?_ ?_
    · refine RunS.segF (n := 91) e_evening_check_ok 3 [(0, .v (.int .i64 x0)), (1, .sl 1 (x1.map cdI.enc)), (2, .sl 1 (x2.map (cdL 1 cdI).enc)), (7, .v (.int .i64 0)), (8, .v (.bool false)), (9, .v (.bool false))] [] (by kernel_rfl) ?_
      exact RunS.done rfl Wk.f1
    refine Sem.seq ?_
    by_cases hk4 : (mkOk 1 x0) = true
    case neg => rw [if_neg hk4] at h; cases h
    rw [if_pos hk4] at h
    refine Sem.runS (s1 := ⟨Fr 91 [(0, .v (.int .i64 x0)), (1, .sl 1 (x1.map cdI.enc)), (2, .sl 1 (x2.map (cdL 1 cdI).enc)), (7, .v (.int .i64 0)), (8, .v (.bool false)), (9, .v (.bool false)), (10, .rf 0 0 (List.replicate x0.toNat false).length (List.replicate x0.toNat false).length)], [some ⟨1, 4, ((List.replicate x0.toNat false).map cdB.enc), false⟩]⟩) ?_ ?_
    · refine RunS.segF (n := 91) e_evening_check_ok 1 [(0, .v (.int .i64 x0)), (1, .sl 1 (x1.map cdI.enc)), (2, .sl 1 (x2.map (cdL 1 cdI).enc)), (7, .v (.int .i64 0)), (8, .v (.bool false)), (9, .v (.bool false)), (25, .v (.int .i64 x0))] [] (by kernel_rfl) ?_
      refine RunS.one e_evening_check_ok 0 rfl (op_n (wantedA_none rfl) rfl (by kernel_rfl) (n_make (x := .v (.int .i64 x0)) (y := .v (.int .i64 x0)) (by kernel_rfl) (by kernel_rfl) (make_B (c := cdB) (z := false) (k := 1) (bytes := 1) (el := 4) (by kernel_rfl) (by kernel_rfl) hk4))) ?_
      refine RunS.segF (n := 91) e_evening_check_ok 1 [(0, .v (.int .i64 x0)), (1, .sl 1 (x1.map cdI.enc)), (2, .sl 1 (x2.map (cdL 1 cdI).enc)), (7, .v (.int .i64 0)), (8, .v (.bool false)), (9, .v (.bool false)), (10, .rf 0 0 (List.replicate x0.toNat false).length (List.replicate x0.toNat false).length)] [some ⟨1, 4, ((List.replicate x0.toNat false).map cdB.enc), false⟩] (by kernel_rfl) ?_
      exact RunS.done rfl (Wk.s3 [0] ⟨⟨_, rfl, bu_own⟩, trivial⟩ ⟨lv, lv, lv, lv, lv, lv, lv, trivial⟩)
    refine Sem.seq ?_
    refine Sem.seq ?_
    refine Sem.runS (s1 := ⟨Fr 91 [(0, .v (.int .i64 x0)), (1, .sl 1 (x1.map cdI.enc)), (7, .v (.int .i64 0)), (8, .v (.bool false)), (9, .v (.bool false)), (10, .rf 0 0 (List.replicate x0.toNat false).length (List.replicate x0.toNat false).length), (27, .sl 1 (x2.map (cdL 1 cdI).enc)), (28, .v (.int .i64 (x2.length : Int))), (29, .v (.int .i64 0))], [some ⟨1, 4, ((List.replicate x0.toNat false).map cdB.enc), false⟩]⟩) ?_ ?_
    · refine RunS.segF (n := 91) e_evening_check_ok 1 [(0, .v (.int .i64 x0)), (1, .sl 1 (x1.map cdI.enc)), (7, .v (.int .i64 0)), (8, .v (.bool false)), (9, .v (.bool false)), (10, .rf 0 0 (List.replicate x0.toNat false).length (List.replicate x0.toNat false).length), (27, .sl 1 (x2.map (cdL 1 cdI).enc))] [some ⟨1, 4, ((List.replicate x0.toNat false).map cdB.enc), false⟩] (by kernel_rfl) ?_
      refine RunS.one e_evening_check_ok 0 rfl (op_q (wantedA_none rfl) rfl (q_len (a := .sl 1 (x2.map (cdL 1 cdI).enc)) (by kernel_rfl) (len_sl (el := 31) (by kernel_rfl)))) ?_
      refine RunS.segF (n := 91) e_evening_check_ok 1 [(0, .v (.int .i64 x0)), (1, .sl 1 (x1.map cdI.enc)), (7, .v (.int .i64 0)), (8, .v (.bool false)), (9, .v (.bool false)), (10, .rf 0 0 (List.replicate x0.toNat false).length (List.replicate x0.toNat false).length), (27, .sl 1 (x2.map (cdL 1 cdI).enc)), (28, .v (.int .i64 (x2.length : Int))), (29, .v (.int .i64 0))] [some ⟨1, 4, ((List.replicate x0.toNat false).map cdB.enc), false⟩] (by kernel_rfl) ?_
      exact RunS.done rfl (Wk.s3 [0] ⟨⟨_, rfl, bu_own⟩, trivial⟩ ⟨lv, lv, lv, lv, lv, lv, lv, lv, lv, trivial⟩)
    refine Sem.block ?_
    obtain ⟨r50, hr50, h⟩ := Option.bind_eq_some_iff.1 h
    refine Sem.loop (n := 100000) ?_
    rcases r50 with w51 | w55
    · try dsimp only at h
      refine Sem.cutN (SemN.wk (s1 := ⟨Fr 91 [(0, .v (.int .i64 x0)), (1, .sl 1 (x1.map cdI.enc)), (7, .v (.int .i64 0)), (8, .v (.bool false)), (9, .v (.bool false)), (10, .rf 0 0 (List.replicate x0.toNat false).length (List.replicate x0.toNat false).length), (27, .sl 1 (x2.map (cdL 1 cdI).enc)), (28, .v (.int .i64 (x2.length : Int))), (29, .v (.int .i64 0))], [some ⟨1, 4, ((List.replicate x0.toNat false).map cdB.enc), false⟩]⟩) (Wk.s3 [0] ⟨⟨_, rfl, bu_own⟩, trivial⟩ ⟨lv, lv, lv, lv, lv, lv, lv, lv, lv, trivial⟩) (evening_check_1_ok x0 x1 x2 _ 0 false false (List.replicate x0.toNat false) 0 _ hr50)) ?_
      refine Sem.seq ?_
      refine Sem.block ?_
      refine Sem.seq ?_
      refine Sem.runS (s1 := ⟨Fr 91 [(0, .v (.int .i64 x0)), (7, .v (.int .i64 w51.1)), (8, .v (.bool w51.2.1)), (83, .v (.bool w51.2.2))], []⟩) ?_ ?_
      · refine RunS.segF (n := 91) e_evening_check_ok 2 [(0, .v (.int .i64 x0)), (7, .v (.int .i64 w51.1)), (8, .v (.bool w51.2.1)), (83, .v (.bool w51.2.2))] [] (by kernel_rfl) ?_
        exact RunS.done rfl Wk.f1
      refine Sem.cond (b := w51.2.2) (by kernel_rfl) (fun hb52 => ?_) (fun hb52 => ?_)
      · rw [if_pos hb52] at h
        refine Sem.seq ?_
        refine Sem.runS (s1 := ⟨Fr 91 [(6, .v (.int .i64 6))], []⟩) ?_ ?_
        · refine RunS.segF (n := 91) e_evening_check_ok 1 [(6, .v (.int .i64 6))] [] (by kernel_rfl) ?_
          exact RunS.done rfl Wk.f1
        refine Sem.ret ?_
        have hq := Option.some.inj h; subst hq
        exact ⟨⟨Fr 91 [(6, .v (.int .i64 6))], []⟩, Wk.f1, .inr rfl, [.v (.int .i64 6)], (by kernel_rfl), (by kernel_rfl)⟩
      · rw [if_f hb52] at h
        refine Sem.seq ?_
        refine Sem.runS (s1 := ⟨Fr 91 [(0, .v (.int .i64 x0)), (7, .v (.int .i64 w51.1)), (85, .v (.bool w51.2.1))], []⟩) ?_ ?_
        · refine RunS.segF (n := 91) e_evening_check_ok 2 [(0, .v (.int .i64 x0)), (7, .v (.int .i64 w51.1)), (85, .v (.bool w51.2.1))] [] (by kernel_rfl) ?_
          exact RunS.done rfl Wk.f1
        refine Sem.cond (b := w51.2.1) (by kernel_rfl) (fun hb53 => ?_) (fun hb53 => ?_)
        · rw [if_pos hb53] at h
          refine Sem.seq ?_
          refine Sem.runS (s1 := ⟨Fr 91 [(6, .v (.int .i64 5))], []⟩) ?_ ?_
          · refine RunS.segF (n := 91) e_evening_check_ok 1 [(6, .v (.int .i64 5))] [] (by kernel_rfl) ?_
            exact RunS.done rfl Wk.f1
          refine Sem.ret ?_
          have hq := Option.some.inj h; subst hq
          exact ⟨⟨Fr 91 [(6, .v (.int .i64 5))], []⟩, Wk.f1, .inr rfl, [.v (.int .i64 5)], (by kernel_rfl), (by kernel_rfl)⟩
        · rw [if_f hb53] at h
          refine Sem.seq ?_
          refine Sem.runS (s1 := ⟨Fr 91 [(87, .v (.bool (decide (w51.1 < x0))))], []⟩) ?_ ?_
          · refine RunS.segF (n := 91) e_evening_check_ok 4 [(87, .v (.bool (decide (w51.1 < x0))))] [] (by kernel_rfl) ?_
            exact RunS.done rfl Wk.f1
          refine Sem.cond (b := (decide (w51.1 < x0))) (by kernel_rfl) (fun hb54 => ?_) (fun hb54 => ?_)
          · rw [if_pos hb54] at h
            refine Sem.seq ?_
            refine Sem.runS (s1 := ⟨Fr 91 [(6, .v (.int .i64 2))], []⟩) ?_ ?_
            · refine RunS.segF (n := 91) e_evening_check_ok 1 [(6, .v (.int .i64 2))] [] (by kernel_rfl) ?_
              exact RunS.done rfl Wk.f1
            refine Sem.ret ?_
            have hq := Option.some.inj h; subst hq
            exact ⟨⟨Fr 91 [(6, .v (.int .i64 2))], []⟩, Wk.f1, .inr rfl, [.v (.int .i64 2)], (by kernel_rfl), (by kernel_rfl)⟩
          · rw [if_f hb54] at h
            refine Sem.skip ?_
            refine Sem.seq ?_
            refine Sem.runS (s1 := ⟨Fr 91 [(6, .v (.int .i64 0))], []⟩) ?_ ?_
            · refine RunS.segF (n := 91) e_evening_check_ok 1 [(6, .v (.int .i64 0))] [] (by kernel_rfl) ?_
              exact RunS.done rfl Wk.f1
            refine Sem.ret ?_
            have hq := Option.some.inj h; subst hq
            exact ⟨⟨Fr 91 [(6, .v (.int .i64 0))], []⟩, Wk.f1, .inr rfl, [.v (.int .i64 0)], (by kernel_rfl), (by kernel_rfl)⟩
    · try dsimp only at h
      refine Sem.cutN (SemN.wk (s1 := ⟨Fr 91 [(0, .v (.int .i64 x0)), (1, .sl 1 (x1.map cdI.enc)), (7, .v (.int .i64 0)), (8, .v (.bool false)), (9, .v (.bool false)), (10, .rf 0 0 (List.replicate x0.toNat false).length (List.replicate x0.toNat false).length), (27, .sl 1 (x2.map (cdL 1 cdI).enc)), (28, .v (.int .i64 (x2.length : Int))), (29, .v (.int .i64 0))], [some ⟨1, 4, ((List.replicate x0.toNat false).map cdB.enc), false⟩]⟩) (Wk.s3 [0] ⟨⟨_, rfl, bu_own⟩, trivial⟩ ⟨lv, lv, lv, lv, lv, lv, lv, lv, lv, trivial⟩) (evening_check_1_ok x0 x1 x2 _ 0 false false (List.replicate x0.toNat false) 0 _ hr50)) ?_
      have hq := Option.some.inj h; subst hq
      exact ⟨⟨Fr 91 [(6, .v (.int .i64 w55))], []⟩, Wk.f1, .inr rfl, [.v (.int .i64 w55)], (by kernel_rfl), (by kernel_rfl)⟩
def t_evening_check : List AV → Option AV := told cs_evening_check (fun a => evening_check a.1 a.2.1 a.2.2.1) er_evening_check
theorem x_evening_check : XOk 83 t_evening_check := by
  refine EnvOk.x (E := e_evening_check) (contract_ok e_evening_check_ok (fn := Tryd.f83) (c := cb_evening_check) ?h1 ?h2 ⟨Tryd.call83⟩ cs_evening_check (fun a => evening_check a.1 a.2.1 a.2.2.1) er_evening_check (fun a => (by show 3 ≤ 91; decide)) ?h3 ?h4) rfl rfl
  case h1 => kernel_rfl
  case h2 => kernel_rfl
  case h3 => intro b; kernel_rfl
  case h4 => exact fun a b h => evening_check_sem a.1 a.2.1 a.2.2.1 b h
/- trestle/evening.Check -/
noncomputable def e_evening_Check : Env := (((E0.withX 82 t_evening_guests).withX 67 t_evening_fit).withX 83 t_evening_check)
theorem e_evening_Check_ok : EnvOk e_evening_Check := (EnvOk.withX (EnvOk.withX (EnvOk.withX E0_ok x_evening_guests.1 x_evening_guests.2) x_evening_fit.1 x_evening_fit.2) x_evening_check.1 x_evening_check.2)
noncomputable def cb_evening_Check : Code := codeOf Tryd.f27
def evening_Check_1 (x0 : Int) (x1 : (List Int)) (x2 : (List (List (List Int)))) : Nat → Int → Option ((Unit) ⊕ (Int × Int))
  | 0, _ => none
  | f + 1, c7 =>
    if (decide (c7 < (x2.length : Int))) = true then
    (idx x2 c7).bind fun v9 =>
    (evening_check x0 x1 v9).bind fun v10 =>
    if (v10 != 0) = true then
    some (.inr (c7, v10))
    else
    evening_Check_1 x0 x1 x2 f (wr .i64 (c7 + 1))
    else
    some (.inl ())
def evening_Check (x0 : Int) (x1 : (List Int)) (x2 : (List (List (List Int)))) : Option (Int × Int) :=
  (evening_guests x0).bind fun v1 =>
  (if (!v1) = true then some true else if (decide ((x1.length : Int) > 0)) = true then (evening_fit x0 x1).bind fun v2 =>
  some (!v2) else some false).bind fun j4 =>
  if j4 = true then
  some (0, 90)
  else
  if (decide ((x2.length : Int) > 64)) = true then
  some (0, 7)
  else
  (evening_Check_1 x0 x1 x2 100000 0).bind fun r14 =>
  match r14 with
  | (.inl w15) =>
    some (0, 0)
  | (.inr w16) =>
    some (w16.1, w16.2)
def cs_evening_Check : Cs (Int × (List Int) × (List (List (List Int))) × Unit) := (csC cdI (csC (cdL 1 cdI) (csC (cdL 1 (cdL 1 (cdL 1 cdI))) csN)))
def er_evening_Check (r : Int × Int) : AV := .tp [cdI.enc r.1, cdI.enc r.2]
set_option maxHeartbeats 4000000 in
set_option maxRecDepth 100000 in
theorem evening_Check_1_ok (x0 : Int) (x1 : (List Int)) (x2 : (List (List (List Int)))) : ∀ (f : Nat) (c7 : Int) (r : (Unit) ⊕ (Int × Int)), evening_Check_1 x0 x1 x2 f c7 = some r → SemN e_evening_Check ⟨none, false⟩ (pc cb_evening_Check [1, 1, 0, 1, 0, 0]) f ⟨Fr 46 [(0, .v (.int .i64 x0)), (1, .sl 1 (x1.map cdI.enc)), (30, .sl 1 (x2.map (cdL 1 (cdL 1 cdI)).enc)), (31, .v (.int .i64 (x2.length : Int))), (32, .v (.int .i64 c7))], []⟩ (fun e s => match r with
  | (.inl w) => e = (.exit 1) ∧ Wk e_evening_Check s ⟨Fr 46 [], []⟩
  | (.inr w) => e = .ret ∧ Wk e_evening_Check s ⟨Fr 46 [(6, .v (.int .i64 w.1)), (7, .v (.int .i64 w.2))], []⟩) := by
  intro f
  induction f with
  | zero => intro c7 r h; cases h
  | succ f ih0 =>
    intro c7 r h
    have ih := fun (c7 : Int) => ih0 c7 r
    unfold evening_Check_1 at h
    refine SemN.succ ?_
    refine Sem.seq ?_
    refine Sem.runS (s1 := ⟨Fr 46 [(0, .v (.int .i64 x0)), (1, .sl 1 (x1.map cdI.enc)), (30, .sl 1 (x2.map (cdL 1 (cdL 1 cdI)).enc)), (31, .v (.int .i64 (x2.length : Int))), (32, .v (.int .i64 c7)), (33, .v (.bool (decide (c7 < (x2.length : Int)))))], []⟩) ?_ ?_
    · refine RunS.segF (n := 46) e_evening_Check_ok 1 [(0, .v (.int .i64 x0)), (1, .sl 1 (x1.map cdI.enc)), (30, .sl 1 (x2.map (cdL 1 (cdL 1 cdI)).enc)), (31, .v (.int .i64 (x2.length : Int))), (32, .v (.int .i64 c7)), (33, .v (.bool (decide (c7 < (x2.length : Int)))))] [] (by kernel_rfl) ?_
      exact RunS.done rfl Wk.f1
    refine Sem.seq ?_
    refine Sem.cond (b := (decide (c7 < (x2.length : Int)))) (by kernel_rfl) (fun hb8 => ?_) (fun hb8 => ?_)
    · rw [if_pos hb8] at h
      refine Sem.skip ?_
      refine Sem.seq ?_
      refine Sem.block ?_
      refine Sem.seq ?_
      obtain ⟨v9, hv9, h⟩ := Option.bind_eq_some_iff.1 h
      refine Sem.runS (s1 := ⟨Fr 46 [(0, .v (.int .i64 x0)), (1, .sl 1 (x1.map cdI.enc)), (8, .v (.int .i64 c7)), (9, .sl 1 (v9.map (cdL 1 cdI).enc)), (30, .sl 1 (x2.map (cdL 1 (cdL 1 cdI)).enc)), (31, .v (.int .i64 (x2.length : Int))), (32, .v (.int .i64 c7))], []⟩) ?_ ?_
      · refine RunS.segF (n := 46) e_evening_Check_ok 1 [(0, .v (.int .i64 x0)), (1, .sl 1 (x1.map cdI.enc)), (30, .sl 1 (x2.map (cdL 1 (cdL 1 cdI)).enc)), (31, .v (.int .i64 (x2.length : Int))), (32, .v (.int .i64 c7)), (34, .v (.int .i64 c7))] [] (by kernel_rfl) ?_
        refine RunS.one e_evening_Check_ok 0 rfl (op_q (wantedA_none rfl) rfl (q_indexAddr (a := .sl 1 (x2.map (cdL 1 (cdL 1 cdI)).enc)) (b := .v (.int .i64 c7)) (by kernel_rfl) (by kernel_rfl) (ix_sl (e := (cdL 1 (cdL 1 cdI)).enc) (el := 50) (k := 1) (ki := .i64) (by kernel_rfl) (by kernel_rfl) hv9))) ?_
        refine RunS.segF (n := 46) e_evening_Check_ok 3 [(0, .v (.int .i64 x0)), (1, .sl 1 (x1.map cdI.enc)), (8, .v (.int .i64 c7)), (9, .sl 1 (v9.map (cdL 1 cdI).enc)), (30, .sl 1 (x2.map (cdL 1 (cdL 1 cdI)).enc)), (31, .v (.int .i64 (x2.length : Int))), (32, .v (.int .i64 c7))] [] (by kernel_rfl) ?_
        exact RunS.done rfl Wk.f1
      refine Sem.seq ?_
      obtain ⟨v10, hv10, h⟩ := Option.bind_eq_some_iff.1 h
      refine Sem.runS (s1 := ⟨Fr 46 [(0, .v (.int .i64 x0)), (1, .sl 1 (x1.map cdI.enc)), (8, .v (.int .i64 c7)), (10, .v (.int .i64 v10)), (30, .sl 1 (x2.map (cdL 1 (cdL 1 cdI)).enc)), (31, .v (.int .i64 (x2.length : Int))), (32, .v (.int .i64 c7))], []⟩) ?_ ?_
      · refine RunS.segF (n := 46) e_evening_Check_ok 3 [(0, .v (.int .i64 x0)), (1, .sl 1 (x1.map cdI.enc)), (8, .v (.int .i64 c7)), (30, .sl 1 (x2.map (cdL 1 (cdL 1 cdI)).enc)), (31, .v (.int .i64 (x2.length : Int))), (32, .v (.int .i64 c7)), (37, .v (.int .i64 x0)), (38, .sl 1 (x1.map cdI.enc)), (39, .sl 1 (v9.map (cdL 1 cdI).enc))] [] (by kernel_rfl) ?_
        refine RunS.call e_evening_Check_ok (fid := 83) (s := cs_evening_check) (F := fun a => evening_check a.1 a.2.1 a.2.2.1) (er := er_evening_check) (xs := [.v (.int .i64 x0), .sl 1 (x1.map cdI.enc), .sl 1 (v9.map (cdL 1 cdI).enc)]) (a := (x0, x1, v9, ())) rfl (wantedA_none rfl) (by kernel_rfl) (by kernel_rfl) (by kernel_rfl) (by kernel_rfl) (Sns.cons (Sn.enc (c := cdI) (v := x0)) (Sns.cons (Sn.enc (c := (cdL 1 cdI)) (v := x1)) (Sns.cons (Sn.enc (c := (cdL 1 (cdL 1 cdI))) (v := v9)) Sns.nil))) (.inl (by kernel_rfl)) hv10 ?_
        refine RunS.segF (n := 46) e_evening_Check_ok 1 [(0, .v (.int .i64 x0)), (1, .sl 1 (x1.map cdI.enc)), (8, .v (.int .i64 c7)), (10, .v (.int .i64 v10)), (30, .sl 1 (x2.map (cdL 1 (cdL 1 cdI)).enc)), (31, .v (.int .i64 (x2.length : Int))), (32, .v (.int .i64 c7))] [] (by kernel_rfl) ?_
        exact RunS.done rfl Wk.f1
      refine Sem.seq ?_
      refine Sem.runS (s1 := ⟨Fr 46 [(0, .v (.int .i64 x0)), (1, .sl 1 (x1.map cdI.enc)), (8, .v (.int .i64 c7)), (10, .v (.int .i64 v10)), (30, .sl 1 (x2.map (cdL 1 (cdL 1 cdI)).enc)), (31, .v (.int .i64 (x2.length : Int))), (32, .v (.int .i64 c7)), (42, .v (.bool (v10 != 0)))], []⟩) ?_ ?_
      · refine RunS.segF (n := 46) e_evening_Check_ok 2 [(0, .v (.int .i64 x0)), (1, .sl 1 (x1.map cdI.enc)), (8, .v (.int .i64 c7)), (10, .v (.int .i64 v10)), (30, .sl 1 (x2.map (cdL 1 (cdL 1 cdI)).enc)), (31, .v (.int .i64 (x2.length : Int))), (32, .v (.int .i64 c7)), (42, .v (.bool (v10 != 0)))] [] (by kernel_rfl) ?_
        exact RunS.done rfl Wk.f1
      refine Sem.cond (b := (v10 != 0)) (by kernel_rfl) (fun hb11 => ?_) (fun hb11 => ?_)
      · rw [if_pos hb11] at h
        refine Sem.seq ?_
        refine Sem.runS (s1 := ⟨Fr 46 [(6, .v (.int .i64 c7)), (7, .v (.int .i64 v10))], []⟩) ?_ ?_
        · refine RunS.segF (n := 46) e_evening_Check_ok 4 [(6, .v (.int .i64 c7)), (7, .v (.int .i64 v10))] [] (by kernel_rfl) ?_
          exact RunS.done rfl Wk.f1
        refine Sem.ret ?_
        have hq := Option.some.inj h; subst hq
        exact ⟨rfl, Wk.f1⟩
      · rw [if_f hb11] at h
        refine Sem.skip ?_
        refine Sem.runS (s1 := ⟨Fr 46 [(0, .v (.int .i64 x0)), (1, .sl 1 (x1.map cdI.enc)), (30, .sl 1 (x2.map (cdL 1 (cdL 1 cdI)).enc)), (31, .v (.int .i64 (x2.length : Int))), (32, .v (.int .i64 (wr .i64 (c7 + 1))))], []⟩) ?_ ?_
        · refine RunS.segF (n := 46) e_evening_Check_ok 2 [(0, .v (.int .i64 x0)), (1, .sl 1 (x1.map cdI.enc)), (30, .sl 1 (x2.map (cdL 1 (cdL 1 cdI)).enc)), (31, .v (.int .i64 (x2.length : Int))), (32, .v (.int .i64 (wr .i64 (c7 + 1))))] [] (by kernel_rfl) ?_
          exact RunS.done rfl Wk.f1
        exact SemN.wk (s1 := ⟨Fr 46 [(0, .v (.int .i64 x0)), (1, .sl 1 (x1.map cdI.enc)), (30, .sl 1 (x2.map (cdL 1 (cdL 1 cdI)).enc)), (31, .v (.int .i64 (x2.length : Int))), (32, .v (.int .i64 (wr .i64 (c7 + 1))))], []⟩) Wk.f1 (ih (wr .i64 (c7 + 1)) h)
    · rw [if_f hb8] at h
      refine Sem.exit ?_
      have hq := Option.some.inj h; subst hq
      exact ⟨rfl, Wk.f1⟩
set_option maxHeartbeats 4000000 in
set_option maxRecDepth 100000 in
theorem evening_Check_sem (x0 : Int) (x1 : (List Int)) (x2 : (List (List (List Int)))) (r : Int × Int) (h : evening_Check x0 x1 x2 = some r) : Sem e_evening_Check ⟨none, false⟩ cb_evening_Check ⟨Fr 46 (pairs0 0 (cs_evening_Check.enc (x0, x1, x2, ()))), []⟩ fun e s' => (e = .normal ∨ e = .ret) ∧ ∃ xs, resA e_evening_Check.P s'.fr s'.hp Tryd.f27.results.toList = some xs ∧ retA xs = er_evening_Check r := by
  unfold evening_Check at h
  refine Sem.wkQ (Sem.wk (s1 := ⟨Fr 46 [(0, .v (.int .i64 x0)), (1, .sl 1 (x1.map cdI.enc)), (2, .sl 1 (x2.map (cdL 1 (cdL 1 cdI)).enc))], []⟩) Wk.f1 ?_)
  refine Sem.seq ?_
  refine Sem.runS (s1 := ⟨Fr 46 [(0, .v (.int .i64 x0)), (1, .sl 1 (x1.map cdI.enc)), (2, .sl 1 (x2.map (cdL 1 (cdL 1 cdI)).enc))], []⟩) ?_ ?_
  · refine RunS.segF (n := 46) e_evening_Check_ok 2 [(0, .v (.int .i64 x0)), (1, .sl 1 (x1.map cdI.enc)), (2, .sl 1 (x2.map (cdL 1 (cdL 1 cdI)).enc))] [] (by kernel_rfl) ?_
    exact RunS.done rfl Wk.f1
  refine Sem.seq ?_
  refine Sem.block ?_
  refine Sem.seq ?_
  obtain ⟨v1, hv1, h⟩ := Option.bind_eq_some_iff.1 h
  obtain ⟨j4, hj4, h⟩ := Option.bind_eq_some_iff.1 h
  refine Sem.runS (s1 := ⟨Fr 46 [(0, .v (.int .i64 x0)), (1, .sl 1 (x1.map cdI.enc)), (2, .sl 1 (x2.map (cdL 1 (cdL 1 cdI)).enc)), (11, .v (.bool j4))], []⟩) ?_ ?_
  · refine RunS.segF (n := 46) e_evening_Check_ok 1 [(0, .v (.int .i64 x0)), (1, .sl 1 (x1.map cdI.enc)), (2, .sl 1 (x2.map (cdL 1 (cdL 1 cdI)).enc)), (12, .v (.int .i64 x0))] [] (by kernel_rfl) ?_
    refine RunS.call e_evening_Check_ok (fid := 82) (s := cs_evening_guests) (F := fun a => evening_guests a.1) (er := er_evening_guests) (xs := [.v (.int .i64 x0)]) (a := (x0, ())) rfl (wantedA_none rfl) (by kernel_rfl) (by kernel_rfl) (by kernel_rfl) (by kernel_rfl) (Sns.cons (Sn.enc (c := cdI) (v := x0)) Sns.nil) (.inl (by kernel_rfl)) hv1 ?_
    refine RunS.segF (n := 46) e_evening_Check_ok 2 [(0, .v (.int .i64 x0)), (1, .sl 1 (x1.map cdI.enc)), (2, .sl 1 (x2.map (cdL 1 (cdL 1 cdI)).enc)), (15, .v (.bool (!v1)))] [] (by kernel_rfl) ?_
    rcases Bool.eq_false_or_eq_true (!v1) with hc17 | hc17
    · rw [if_pos hc17] at hj4
      rw [hc17]
      refine RunS.segF (n := 46) e_evening_Check_ok 11 [(0, .v (.int .i64 x0)), (1, .sl 1 (x1.map cdI.enc)), (2, .sl 1 (x2.map (cdL 1 (cdL 1 cdI)).enc)), (11, .v (.bool true))] [] (by kernel_rfl) ?_
      have hq := Option.some.inj hj4; subst hq
      exact RunS.done rfl Wk.f1
    · rw [if_f hc17] at hj4
      rw [hc17]
      refine RunS.segF (n := 46) e_evening_Check_ok 1 [(0, .v (.int .i64 x0)), (1, .sl 1 (x1.map cdI.enc)), (2, .sl 1 (x2.map (cdL 1 (cdL 1 cdI)).enc)), (15, .v (.bool false)), (16, .sl 1 (x1.map cdI.enc))] [] (by kernel_rfl) ?_
      refine RunS.one e_evening_Check_ok 0 rfl (op_q (by kernel_rfl) rfl (q_len (a := .sl 1 (x1.map cdI.enc)) (by kernel_rfl) (len_sl (el := 3) (by kernel_rfl)))) ?_
      refine RunS.segF (n := 46) e_evening_Check_ok 2 [(0, .v (.int .i64 x0)), (1, .sl 1 (x1.map cdI.enc)), (2, .sl 1 (x2.map (cdL 1 (cdL 1 cdI)).enc)), (15, .v (.bool false)), (19, .v (.bool (decide ((x1.length : Int) > 0))))] [] (by kernel_rfl) ?_
      rcases Bool.eq_false_or_eq_true (decide ((x1.length : Int) > 0)) with hc18 | hc18
      · rw [if_pos hc18] at hj4
        rw [hc18]
        refine RunS.segF (n := 46) e_evening_Check_ok 2 [(0, .v (.int .i64 x0)), (1, .sl 1 (x1.map cdI.enc)), (2, .sl 1 (x2.map (cdL 1 (cdL 1 cdI)).enc)), (15, .v (.bool false)), (19, .v (.bool true)), (20, .v (.int .i64 x0)), (21, .sl 1 (x1.map cdI.enc))] [] (by kernel_rfl) ?_
        obtain ⟨v2, hv2, hj4⟩ := Option.bind_eq_some_iff.1 hj4
        refine RunS.call e_evening_Check_ok (fid := 67) (s := cs_evening_fit) (F := fun a => evening_fit a.1 a.2.1) (er := er_evening_fit) (xs := [.v (.int .i64 x0), .sl 1 (x1.map cdI.enc)]) (a := (x0, x1, ())) rfl (by kernel_rfl) (by kernel_rfl) (by kernel_rfl) (by kernel_rfl) (by kernel_rfl) (Sns.cons (Sn.enc (c := cdI) (v := x0)) (Sns.cons (Sn.enc (c := (cdL 1 cdI)) (v := x1)) Sns.nil)) (.inl (by kernel_rfl)) hv2 ?_
        refine RunS.segF (n := 46) e_evening_Check_ok 4 [(0, .v (.int .i64 x0)), (1, .sl 1 (x1.map cdI.enc)), (2, .sl 1 (x2.map (cdL 1 (cdL 1 cdI)).enc)), (11, .v (.bool (!v2)))] [] (by kernel_rfl) ?_
        have hq := Option.some.inj hj4; subst hq
        exact RunS.done rfl Wk.f1
      · rw [if_f hc18] at hj4
        rw [hc18]
        refine RunS.segF (n := 46) e_evening_Check_ok 7 [(0, .v (.int .i64 x0)), (1, .sl 1 (x1.map cdI.enc)), (2, .sl 1 (x2.map (cdL 1 (cdL 1 cdI)).enc)), (11, .v (.bool false))] [] (by kernel_rfl) ?_
        have hq := Option.some.inj hj4; subst hq
        exact RunS.done rfl Wk.f1
  refine Sem.cond (b := j4) (by kernel_rfl) (fun hb5 => ?_) (fun hb5 => ?_)
  · rw [if_pos hb5] at h
    refine Sem.seq ?_
    refine Sem.runS (s1 := ⟨Fr 46 [(6, .v (.int .i64 0)), (7, .v (.int .i64 90))], []⟩) ?_ ?_
    · refine RunS.segF (n := 46) e_evening_Check_ok 2 [(6, .v (.int .i64 0)), (7, .v (.int .i64 90))] [] (by kernel_rfl) ?_
      exact RunS.done rfl Wk.f1
    refine Sem.ret ?_
    have hq := Option.some.inj h; subst hq
    exact ⟨⟨Fr 46 [(6, .v (.int .i64 0)), (7, .v (.int .i64 90))], []⟩, Wk.f1, .inr rfl, [.v (.int .i64 0), .v (.int .i64 90)], (by kernel_rfl), (by kernel_rfl)⟩
  · rw [if_f hb5] at h
    refine Sem.seq ?_
    refine Sem.runS (s1 := ⟨Fr 46 [(0, .v (.int .i64 x0)), (1, .sl 1 (x1.map cdI.enc)), (2, .sl 1 (x2.map (cdL 1 (cdL 1 cdI)).enc)), (26, .v (.bool (decide ((x2.length : Int) > 64))))], []⟩) ?_ ?_
    · refine RunS.segF (n := 46) e_evening_Check_ok 1 [(0, .v (.int .i64 x0)), (1, .sl 1 (x1.map cdI.enc)), (2, .sl 1 (x2.map (cdL 1 (cdL 1 cdI)).enc)), (27, .sl 1 (x2.map (cdL 1 (cdL 1 cdI)).enc))] [] (by kernel_rfl) ?_
      refine RunS.one e_evening_Check_ok 0 rfl (op_q (wantedA_none rfl) rfl (q_len (a := .sl 1 (x2.map (cdL 1 (cdL 1 cdI)).enc)) (by kernel_rfl) (len_sl (el := 50) (by kernel_rfl)))) ?_
      refine RunS.segF (n := 46) e_evening_Check_ok 2 [(0, .v (.int .i64 x0)), (1, .sl 1 (x1.map cdI.enc)), (2, .sl 1 (x2.map (cdL 1 (cdL 1 cdI)).enc)), (26, .v (.bool (decide ((x2.length : Int) > 64))))] [] (by kernel_rfl) ?_
      exact RunS.done rfl Wk.f1
    refine Sem.cond (b := (decide ((x2.length : Int) > 64))) (by kernel_rfl) (fun hb6 => ?_) (fun hb6 => ?_)
    · rw [if_pos hb6] at h
      refine Sem.seq ?_
      refine Sem.runS (s1 := ⟨Fr 46 [(6, .v (.int .i64 0)), (7, .v (.int .i64 7))], []⟩) ?_ ?_
      · refine RunS.segF (n := 46) e_evening_Check_ok 2 [(6, .v (.int .i64 0)), (7, .v (.int .i64 7))] [] (by kernel_rfl) ?_
        exact RunS.done rfl Wk.f1
      refine Sem.ret ?_
      have hq := Option.some.inj h; subst hq
      exact ⟨⟨Fr 46 [(6, .v (.int .i64 0)), (7, .v (.int .i64 7))], []⟩, Wk.f1, .inr rfl, [.v (.int .i64 0), .v (.int .i64 7)], (by kernel_rfl), (by kernel_rfl)⟩
    · rw [if_f hb6] at h
      refine Sem.skip ?_
      refine Sem.seq ?_
      refine Sem.seq ?_
      refine Sem.runS (s1 := ⟨Fr 46 [(0, .v (.int .i64 x0)), (1, .sl 1 (x1.map cdI.enc)), (30, .sl 1 (x2.map (cdL 1 (cdL 1 cdI)).enc)), (31, .v (.int .i64 (x2.length : Int))), (32, .v (.int .i64 0))], []⟩) ?_ ?_
      · refine RunS.segF (n := 46) e_evening_Check_ok 1 [(0, .v (.int .i64 x0)), (1, .sl 1 (x1.map cdI.enc)), (30, .sl 1 (x2.map (cdL 1 (cdL 1 cdI)).enc))] [] (by kernel_rfl) ?_
        refine RunS.one e_evening_Check_ok 0 rfl (op_q (wantedA_none rfl) rfl (q_len (a := .sl 1 (x2.map (cdL 1 (cdL 1 cdI)).enc)) (by kernel_rfl) (len_sl (el := 50) (by kernel_rfl)))) ?_
        refine RunS.segF (n := 46) e_evening_Check_ok 1 [(0, .v (.int .i64 x0)), (1, .sl 1 (x1.map cdI.enc)), (30, .sl 1 (x2.map (cdL 1 (cdL 1 cdI)).enc)), (31, .v (.int .i64 (x2.length : Int))), (32, .v (.int .i64 0))] [] (by kernel_rfl) ?_
        exact RunS.done rfl Wk.f1
      refine Sem.block ?_
      obtain ⟨r14, hr14, h⟩ := Option.bind_eq_some_iff.1 h
      refine Sem.loop (n := 100000) ?_
      rcases r14 with w15 | w16
      · try dsimp only at h
        refine Sem.cutN (SemN.wk (s1 := ⟨Fr 46 [(0, .v (.int .i64 x0)), (1, .sl 1 (x1.map cdI.enc)), (30, .sl 1 (x2.map (cdL 1 (cdL 1 cdI)).enc)), (31, .v (.int .i64 (x2.length : Int))), (32, .v (.int .i64 0))], []⟩) Wk.f1 (evening_Check_1_ok x0 x1 x2 _ 0 _ hr14)) ?_
        refine Sem.seq ?_
        refine Sem.runS (s1 := ⟨Fr 46 [(6, .v (.int .i64 0)), (7, .v (.int .i64 0))], []⟩) ?_ ?_
        · refine RunS.segF (n := 46) e_evening_Check_ok 2 [(6, .v (.int .i64 0)), (7, .v (.int .i64 0))] [] (by kernel_rfl) ?_
          exact RunS.done rfl Wk.f1
        refine Sem.ret ?_
        have hq := Option.some.inj h; subst hq
        exact ⟨⟨Fr 46 [(6, .v (.int .i64 0)), (7, .v (.int .i64 0))], []⟩, Wk.f1, .inr rfl, [.v (.int .i64 0), .v (.int .i64 0)], (by kernel_rfl), (by kernel_rfl)⟩
      · try dsimp only at h
        refine Sem.cutN (SemN.wk (s1 := ⟨Fr 46 [(0, .v (.int .i64 x0)), (1, .sl 1 (x1.map cdI.enc)), (30, .sl 1 (x2.map (cdL 1 (cdL 1 cdI)).enc)), (31, .v (.int .i64 (x2.length : Int))), (32, .v (.int .i64 0))], []⟩) Wk.f1 (evening_Check_1_ok x0 x1 x2 _ 0 _ hr14)) ?_
        have hq := Option.some.inj h; subst hq
        exact ⟨⟨Fr 46 [(6, .v (.int .i64 w16.1)), (7, .v (.int .i64 w16.2))], []⟩, Wk.f1, .inr rfl, [.v (.int .i64 w16.1), .v (.int .i64 w16.2)], (by kernel_rfl), (by kernel_rfl)⟩
def t_evening_Check : List AV → Option AV := told cs_evening_Check (fun a => evening_Check a.1 a.2.1 a.2.2.1) er_evening_Check
theorem x_evening_Check : XOk 27 t_evening_Check := by
  refine EnvOk.x (E := e_evening_Check) (contract_ok e_evening_Check_ok (fn := Tryd.f27) (c := cb_evening_Check) ?h1 ?h2 ⟨Tryd.call27⟩ cs_evening_Check (fun a => evening_Check a.1 a.2.1 a.2.2.1) er_evening_Check (fun a => (by show 3 ≤ 46; decide)) ?h3 ?h4) rfl rfl
  case h1 => kernel_rfl
  case h2 => kernel_rfl
  case h3 => intro b; kernel_rfl
  case h4 => exact fun a b h => evening_Check_sem a.1 a.2.1 a.2.2.1 b h
/- trestle/trestlekit.SameInts -/
noncomputable def e_kit_SameInts : Env := E0
theorem e_kit_SameInts_ok : EnvOk e_kit_SameInts := E0_ok
noncomputable def cb_kit_SameInts : Code := codeOf Tryd.f43
def kit_SameInts_1 (x0 : (List Int)) (x1 : (List Int)) : Nat → Int → Option ((Unit) ⊕ (Bool))
  | 0, _ => none
  | f + 1, c2 =>
    if (decide (c2 < (x0.length : Int))) = true then
    (idx x0 c2).bind fun v4 =>
    (idx x1 c2).bind fun v5 =>
    if (v4 != v5) = true then
    some (.inr false)
    else
    kit_SameInts_1 x0 x1 f (wr .i64 (c2 + 1))
    else
    some (.inl ())
def kit_SameInts (x0 : (List Int)) (x1 : (List Int)) : Option (Bool) :=
  if ((x0.length : Int) != (x1.length : Int)) = true then
  some false
  else
  (kit_SameInts_1 x0 x1 100000 0).bind fun r8 =>
  match r8 with
  | (.inl w9) =>
    some true
  | (.inr w10) =>
    some w10
def cs_kit_SameInts : Cs ((List Int) × (List Int) × Unit) := (csC (cdL 1 cdI) (csC (cdL 1 cdI) csN))
def er_kit_SameInts (r : Bool) : AV := cdB.enc r
set_option maxHeartbeats 4000000 in
set_option maxRecDepth 100000 in
theorem kit_SameInts_1_ok (x0 : (List Int)) (x1 : (List Int)) : ∀ (f : Nat) (c2 : Int) (r : (Unit) ⊕ (Bool)), kit_SameInts_1 x0 x1 f c2 = some r → SemN e_kit_SameInts ⟨none, false⟩ (pc cb_kit_SameInts [1, 1, 0, 1, 0, 0]) f ⟨Fr 26 [(0, .sl 1 (x0.map cdI.enc)), (1, .sl 1 (x1.map cdI.enc)), (5, .v (.int .i64 c2))], []⟩ (fun e s => match r with
  | (.inl w) => e = (.exit 0) ∧ Wk e_kit_SameInts s ⟨Fr 26 [], []⟩
  | (.inr w) => e = .ret ∧ Wk e_kit_SameInts s ⟨Fr 26 [(4, .v (.bool w))], []⟩) := by
  intro f
  induction f with
  | zero => intro c2 r h; cases h
  | succ f ih0 =>
    intro c2 r h
    have ih := fun (c2 : Int) => ih0 c2 r
    unfold kit_SameInts_1 at h
    refine SemN.succ ?_
    refine Sem.seq ?_
    refine Sem.seq ?_
    refine Sem.runS (s1 := ⟨Fr 26 [(0, .sl 1 (x0.map cdI.enc)), (1, .sl 1 (x1.map cdI.enc)), (5, .v (.int .i64 c2)), (14, .v (.bool (decide (c2 < (x0.length : Int)))))], []⟩) ?_ ?_
    · refine RunS.segF (n := 26) e_kit_SameInts_ok 2 [(0, .sl 1 (x0.map cdI.enc)), (1, .sl 1 (x1.map cdI.enc)), (5, .v (.int .i64 c2)), (11, .v (.int .i64 c2)), (12, .sl 1 (x0.map cdI.enc))] [] (by kernel_rfl) ?_
      refine RunS.one e_kit_SameInts_ok 0 rfl (op_q (wantedA_none rfl) rfl (q_len (a := .sl 1 (x0.map cdI.enc)) (by kernel_rfl) (len_sl (el := 3) (by kernel_rfl)))) ?_
      refine RunS.segF (n := 26) e_kit_SameInts_ok 1 [(0, .sl 1 (x0.map cdI.enc)), (1, .sl 1 (x1.map cdI.enc)), (5, .v (.int .i64 c2)), (14, .v (.bool (decide (c2 < (x0.length : Int)))))] [] (by kernel_rfl) ?_
      exact RunS.done rfl Wk.f1
    refine Sem.cond (b := (decide (c2 < (x0.length : Int)))) (by kernel_rfl) (fun hb3 => ?_) (fun hb3 => ?_)
    · rw [if_pos hb3] at h
      refine Sem.skip ?_
      refine Sem.seq ?_
      refine Sem.block ?_
      refine Sem.seq ?_
      obtain ⟨v4, hv4, h⟩ := Option.bind_eq_some_iff.1 h
      obtain ⟨v5, hv5, h⟩ := Option.bind_eq_some_iff.1 h
      refine Sem.runDS e_kit_SameInts_ok (s1 := ⟨Fr 26 [(0, .sl 1 (x0.map cdI.enc)), (1, .sl 1 (x1.map cdI.enc)), (5, .v (.int .i64 c2)), (25, .v (.bool (v4 != v5)))], []⟩) (by kernel_rfl) ?_ ?_
      · refine RunDS.segF (n := 26) e_kit_SameInts_ok 2 [(0, .sl 1 (x0.map cdI.enc)), (1, .sl 1 (x1.map cdI.enc)), (5, .v (.int .i64 c2)), (17, .sl 1 (x0.map cdI.enc)), (18, .v (.int .i64 c2))] [] (by kernel_rfl) (by kernel_rfl) ?_
        refine RunDS.one e_kit_SameInts_ok rfl (by kernel_rfl) (opd_q (by kernel_rfl) (wantedA_none rfl) rfl (q_indexAddr (a := .sl 1 (x0.map cdI.enc)) (b := .v (.int .i64 c2)) (by kernel_rfl) (by kernel_rfl) (ix_sl (e := cdI.enc) (el := 3) (k := 1) (ki := .i64) (by kernel_rfl) (by kernel_rfl) hv4)) (by kernel_rfl)) ?_
        refine RunDS.segF (n := 26) e_kit_SameInts_ok 3 [(0, .sl 1 (x0.map cdI.enc)), (1, .sl 1 (x1.map cdI.enc)), (5, .v (.int .i64 c2)), (20, .v (.int .i64 v4)), (21, .sl 1 (x1.map cdI.enc)), (22, .v (.int .i64 c2))] [] (by kernel_rfl) (by kernel_rfl) ?_
        refine RunDS.one e_kit_SameInts_ok rfl (by kernel_rfl) (opd_q (by kernel_rfl) (wantedA_none rfl) rfl (q_indexAddr (a := .sl 1 (x1.map cdI.enc)) (b := .v (.int .i64 c2)) (by kernel_rfl) (by kernel_rfl) (ix_sl (e := cdI.enc) (el := 3) (k := 1) (ki := .i64) (by kernel_rfl) (by kernel_rfl) hv5)) (by kernel_rfl)) ?_
        refine RunDS.segF (n := 26) e_kit_SameInts_ok 2 [(0, .sl 1 (x0.map cdI.enc)), (1, .sl 1 (x1.map cdI.enc)), (5, .v (.int .i64 c2)), (25, .v (.bool (v4 != v5)))] [] (by kernel_rfl) (by kernel_rfl) ?_
        exact RunDS.done rfl Wk.f1
      refine Sem.cond (b := (v4 != v5)) (by kernel_rfl) (fun hb6 => ?_) (fun hb6 => ?_)
      · rw [if_pos hb6] at h
        refine Sem.seq ?_
        refine Sem.runS (s1 := ⟨Fr 26 [(4, .v (.bool false))], []⟩) ?_ ?_
        · refine RunS.segF (n := 26) e_kit_SameInts_ok 1 [(4, .v (.bool false))] [] (by kernel_rfl) ?_
          exact RunS.done rfl Wk.f1
        refine Sem.ret ?_
        have hq := Option.some.inj h; subst hq
        exact ⟨rfl, Wk.f1⟩
      · rw [if_f hb6] at h
        refine Sem.skip ?_
        refine Sem.runS (s1 := ⟨Fr 26 [(0, .sl 1 (x0.map cdI.enc)), (1, .sl 1 (x1.map cdI.enc)), (5, .v (.int .i64 (wr .i64 (c2 + 1))))], []⟩) ?_ ?_
        · refine RunS.segF (n := 26) e_kit_SameInts_ok 3 [(0, .sl 1 (x0.map cdI.enc)), (1, .sl 1 (x1.map cdI.enc)), (5, .v (.int .i64 (wr .i64 (c2 + 1))))] [] (by kernel_rfl) ?_
          exact RunS.done rfl Wk.f1
        exact SemN.wk (s1 := ⟨Fr 26 [(0, .sl 1 (x0.map cdI.enc)), (1, .sl 1 (x1.map cdI.enc)), (5, .v (.int .i64 (wr .i64 (c2 + 1))))], []⟩) Wk.f1 (ih (wr .i64 (c2 + 1)) h)
    · rw [if_f hb3] at h
      refine Sem.exit ?_
      have hq := Option.some.inj h; subst hq
      exact ⟨rfl, Wk.f1⟩
set_option maxHeartbeats 4000000 in
set_option maxRecDepth 100000 in
theorem kit_SameInts_sem (x0 : (List Int)) (x1 : (List Int)) (r : Bool) (h : kit_SameInts x0 x1 = some r) : Sem e_kit_SameInts ⟨none, false⟩ cb_kit_SameInts ⟨Fr 26 (pairs0 0 (cs_kit_SameInts.enc (x0, x1, ()))), []⟩ fun e s' => (e = .normal ∨ e = .ret) ∧ ∃ xs, resA e_kit_SameInts.P s'.fr s'.hp Tryd.f43.results.toList = some xs ∧ retA xs = er_kit_SameInts r := by
  unfold kit_SameInts at h
  refine Sem.wkQ (Sem.wk (s1 := ⟨Fr 26 [(0, .sl 1 (x0.map cdI.enc)), (1, .sl 1 (x1.map cdI.enc))], []⟩) Wk.f1 ?_)
  refine Sem.seq ?_
  refine Sem.runS (s1 := ⟨Fr 26 [(0, .sl 1 (x0.map cdI.enc)), (1, .sl 1 (x1.map cdI.enc))], []⟩) ?_ ?_
  · refine RunS.segF (n := 26) e_kit_SameInts_ok 1 [(0, .sl 1 (x0.map cdI.enc)), (1, .sl 1 (x1.map cdI.enc))] [] (by kernel_rfl) ?_
    exact RunS.done rfl Wk.f1
  refine Sem.seq ?_
  refine Sem.seq ?_
  refine Sem.runS (s1 := ⟨Fr 26 [(0, .sl 1 (x0.map cdI.enc)), (1, .sl 1 (x1.map cdI.enc)), (10, .v (.bool ((x0.length : Int) != (x1.length : Int))))], []⟩) ?_ ?_
  · refine RunS.segF (n := 26) e_kit_SameInts_ok 1 [(0, .sl 1 (x0.map cdI.enc)), (1, .sl 1 (x1.map cdI.enc)), (6, .sl 1 (x0.map cdI.enc))] [] (by kernel_rfl) ?_
    refine RunS.one e_kit_SameInts_ok 0 rfl (op_q (wantedA_none rfl) rfl (q_len (a := .sl 1 (x0.map cdI.enc)) (by kernel_rfl) (len_sl (el := 3) (by kernel_rfl)))) ?_
    refine RunS.segF (n := 26) e_kit_SameInts_ok 1 [(0, .sl 1 (x0.map cdI.enc)), (1, .sl 1 (x1.map cdI.enc)), (7, .v (.int .i64 (x0.length : Int))), (8, .sl 1 (x1.map cdI.enc))] [] (by kernel_rfl) ?_
    refine RunS.one e_kit_SameInts_ok 0 rfl (op_q (wantedA_none rfl) rfl (q_len (a := .sl 1 (x1.map cdI.enc)) (by kernel_rfl) (len_sl (el := 3) (by kernel_rfl)))) ?_
    refine RunS.segF (n := 26) e_kit_SameInts_ok 1 [(0, .sl 1 (x0.map cdI.enc)), (1, .sl 1 (x1.map cdI.enc)), (10, .v (.bool ((x0.length : Int) != (x1.length : Int))))] [] (by kernel_rfl) ?_
    exact RunS.done rfl Wk.f1
  refine Sem.cond (b := ((x0.length : Int) != (x1.length : Int))) (by kernel_rfl) (fun hb1 => ?_) (fun hb1 => ?_)
  · rw [if_pos hb1] at h
    refine Sem.seq ?_
    refine Sem.runS (s1 := ⟨Fr 26 [(4, .v (.bool false))], []⟩) ?_ ?_
    · refine RunS.segF (n := 26) e_kit_SameInts_ok 1 [(4, .v (.bool false))] [] (by kernel_rfl) ?_
      exact RunS.done rfl Wk.f1
    refine Sem.ret ?_
    have hq := Option.some.inj h; subst hq
    exact ⟨⟨Fr 26 [(4, .v (.bool false))], []⟩, Wk.f1, .inr rfl, [.v (.bool false)], (by kernel_rfl), (by kernel_rfl)⟩
  · rw [if_f hb1] at h
    refine Sem.skip ?_
    refine Sem.seq ?_
    refine Sem.seq ?_
    refine Sem.runS (s1 := ⟨Fr 26 [(0, .sl 1 (x0.map cdI.enc)), (1, .sl 1 (x1.map cdI.enc)), (5, .v (.int .i64 0))], []⟩) ?_ ?_
    · refine RunS.segF (n := 26) e_kit_SameInts_ok 1 [(0, .sl 1 (x0.map cdI.enc)), (1, .sl 1 (x1.map cdI.enc)), (5, .v (.int .i64 0))] [] (by kernel_rfl) ?_
      exact RunS.done rfl Wk.f1
    refine Sem.block ?_
    obtain ⟨r8, hr8, h⟩ := Option.bind_eq_some_iff.1 h
    refine Sem.loop (n := 100000) ?_
    rcases r8 with w9 | w10
    · try dsimp only at h
      refine Sem.cutN (SemN.wk (s1 := ⟨Fr 26 [(0, .sl 1 (x0.map cdI.enc)), (1, .sl 1 (x1.map cdI.enc)), (5, .v (.int .i64 0))], []⟩) Wk.f1 (kit_SameInts_1_ok x0 x1 _ 0 _ hr8)) ?_
      refine Sem.seq ?_
      refine Sem.runS (s1 := ⟨Fr 26 [(4, .v (.bool true))], []⟩) ?_ ?_
      · refine RunS.segF (n := 26) e_kit_SameInts_ok 1 [(4, .v (.bool true))] [] (by kernel_rfl) ?_
        exact RunS.done rfl Wk.f1
      refine Sem.ret ?_
      have hq := Option.some.inj h; subst hq
      exact ⟨⟨Fr 26 [(4, .v (.bool true))], []⟩, Wk.f1, .inr rfl, [.v (.bool true)], (by kernel_rfl), (by kernel_rfl)⟩
    · try dsimp only at h
      refine Sem.cutN (SemN.wk (s1 := ⟨Fr 26 [(0, .sl 1 (x0.map cdI.enc)), (1, .sl 1 (x1.map cdI.enc)), (5, .v (.int .i64 0))], []⟩) Wk.f1 (kit_SameInts_1_ok x0 x1 _ 0 _ hr8)) ?_
      have hq := Option.some.inj h; subst hq
      exact ⟨⟨Fr 26 [(4, .v (.bool w10))], []⟩, Wk.f1, .inr rfl, [.v (.bool w10)], (by kernel_rfl), (by kernel_rfl)⟩
def t_kit_SameInts : List AV → Option AV := told cs_kit_SameInts (fun a => kit_SameInts a.1 a.2.1) er_kit_SameInts
theorem x_kit_SameInts : XOk 43 t_kit_SameInts := by
  refine EnvOk.x (E := e_kit_SameInts) (contract_ok e_kit_SameInts_ok (fn := Tryd.f43) (c := cb_kit_SameInts) ?h1 ?h2 ⟨Tryd.call43⟩ cs_kit_SameInts (fun a => kit_SameInts a.1 a.2.1) er_kit_SameInts (fun a => (by show 2 ≤ 26; decide)) ?h3 ?h4) rfl rfl
  case h1 => kernel_rfl
  case h2 => kernel_rfl
  case h3 => intro b; kernel_rfl
  case h4 => exact fun a b h => kit_SameInts_sem a.1 a.2.1 b h
/- trestle/trestlekit.SameLists -/
noncomputable def e_kit_SameLists : Env := (E0.withX 43 t_kit_SameInts)
theorem e_kit_SameLists_ok : EnvOk e_kit_SameLists := (EnvOk.withX E0_ok x_kit_SameInts.1 x_kit_SameInts.2)
noncomputable def cb_kit_SameLists : Code := codeOf Tryd.f56
def kit_SameLists_1 (x0 : (List (List Int))) (x1 : (List (List Int))) : Nat → Int → Option ((Unit) ⊕ (Bool))
  | 0, _ => none
  | f + 1, c2 =>
    if (decide (c2 < (x0.length : Int))) = true then
    (idx x0 c2).bind fun v4 =>
    (idx x1 c2).bind fun v5 =>
    (kit_SameInts v4 v5).bind fun v6 =>
    if (!v6) = true then
    some (.inr false)
    else
    kit_SameLists_1 x0 x1 f (wr .i64 (c2 + 1))
    else
    some (.inl ())
def kit_SameLists (x0 : (List (List Int))) (x1 : (List (List Int))) : Option (Bool) :=
  if ((x0.length : Int) != (x1.length : Int)) = true then
  some false
  else
  (kit_SameLists_1 x0 x1 100000 0).bind fun r9 =>
  match r9 with
  | (.inl w10) =>
    some true
  | (.inr w11) =>
    some w11
def cs_kit_SameLists : Cs ((List (List Int)) × (List (List Int)) × Unit) := (csC (cdL 1 (cdL 1 cdI)) (csC (cdL 1 (cdL 1 cdI)) csN))
def er_kit_SameLists (r : Bool) : AV := cdB.enc r
set_option maxHeartbeats 4000000 in
set_option maxRecDepth 100000 in
theorem kit_SameLists_1_ok (x0 : (List (List Int))) (x1 : (List (List Int))) : ∀ (f : Nat) (c2 : Int) (r : (Unit) ⊕ (Bool)), kit_SameLists_1 x0 x1 f c2 = some r → SemN e_kit_SameLists ⟨none, false⟩ (pc cb_kit_SameLists [1, 1, 0, 1, 0, 0]) f ⟨Fr 27 [(0, .sl 1 (x0.map (cdL 1 cdI).enc)), (1, .sl 1 (x1.map (cdL 1 cdI).enc)), (5, .v (.int .i64 c2))], []⟩ (fun e s => match r with
  | (.inl w) => e = (.exit 0) ∧ Wk e_kit_SameLists s ⟨Fr 27 [], []⟩
  | (.inr w) => e = .ret ∧ Wk e_kit_SameLists s ⟨Fr 27 [(4, .v (.bool w))], []⟩) := by
  intro f
  induction f with
  | zero => intro c2 r h; cases h
  | succ f ih0 =>
    intro c2 r h
    have ih := fun (c2 : Int) => ih0 c2 r
    unfold kit_SameLists_1 at h
    refine SemN.succ ?_
    refine Sem.seq ?_
    refine Sem.seq ?_
    refine Sem.runS (s1 := ⟨Fr 27 [(0, .sl 1 (x0.map (cdL 1 cdI).enc)), (1, .sl 1 (x1.map (cdL 1 cdI).enc)), (5, .v (.int .i64 c2)), (14, .v (.bool (decide (c2 < (x0.length : Int)))))], []⟩) ?_ ?_
    · refine RunS.segF (n := 27) e_kit_SameLists_ok 2 [(0, .sl 1 (x0.map (cdL 1 cdI).enc)), (1, .sl 1 (x1.map (cdL 1 cdI).enc)), (5, .v (.int .i64 c2)), (11, .v (.int .i64 c2)), (12, .sl 1 (x0.map (cdL 1 cdI).enc))] [] (by kernel_rfl) ?_
      refine RunS.one e_kit_SameLists_ok 0 rfl (op_q (wantedA_none rfl) rfl (q_len (a := .sl 1 (x0.map (cdL 1 cdI).enc)) (by kernel_rfl) (len_sl (el := 31) (by kernel_rfl)))) ?_
      refine RunS.segF (n := 27) e_kit_SameLists_ok 1 [(0, .sl 1 (x0.map (cdL 1 cdI).enc)), (1, .sl 1 (x1.map (cdL 1 cdI).enc)), (5, .v (.int .i64 c2)), (14, .v (.bool (decide (c2 < (x0.length : Int)))))] [] (by kernel_rfl) ?_
      exact RunS.done rfl Wk.f1
    refine Sem.cond (b := (decide (c2 < (x0.length : Int)))) (by kernel_rfl) (fun hb3 => ?_) (fun hb3 => ?_)
    · rw [if_pos hb3] at h
      refine Sem.skip ?_
      refine Sem.seq ?_
      refine Sem.block ?_
      refine Sem.seq ?_
      obtain ⟨v4, hv4, h⟩ := Option.bind_eq_some_iff.1 h
      obtain ⟨v5, hv5, h⟩ := Option.bind_eq_some_iff.1 h
      obtain ⟨v6, hv6, h⟩ := Option.bind_eq_some_iff.1 h
      refine Sem.runDS e_kit_SameLists_ok (s1 := ⟨Fr 27 [(0, .sl 1 (x0.map (cdL 1 cdI).enc)), (1, .sl 1 (x1.map (cdL 1 cdI).enc)), (5, .v (.int .i64 c2)), (26, .v (.bool (!v6)))], []⟩) (by kernel_rfl) ?_ ?_
      · refine RunDS.segF (n := 27) e_kit_SameLists_ok 2 [(0, .sl 1 (x0.map (cdL 1 cdI).enc)), (1, .sl 1 (x1.map (cdL 1 cdI).enc)), (5, .v (.int .i64 c2)), (17, .sl 1 (x0.map (cdL 1 cdI).enc)), (18, .v (.int .i64 c2))] [] (by kernel_rfl) (by kernel_rfl) ?_
        refine RunDS.one e_kit_SameLists_ok rfl (by kernel_rfl) (opd_q (by kernel_rfl) (wantedA_none rfl) rfl (q_indexAddr (a := .sl 1 (x0.map (cdL 1 cdI).enc)) (b := .v (.int .i64 c2)) (by kernel_rfl) (by kernel_rfl) (ix_sl (e := (cdL 1 cdI).enc) (el := 31) (k := 1) (ki := .i64) (by kernel_rfl) (by kernel_rfl) hv4)) (by kernel_rfl)) ?_
        refine RunDS.segF (n := 27) e_kit_SameLists_ok 3 [(0, .sl 1 (x0.map (cdL 1 cdI).enc)), (1, .sl 1 (x1.map (cdL 1 cdI).enc)), (5, .v (.int .i64 c2)), (20, .sl 1 (v4.map cdI.enc)), (21, .sl 1 (x1.map (cdL 1 cdI).enc)), (22, .v (.int .i64 c2))] [] (by kernel_rfl) (by kernel_rfl) ?_
        refine RunDS.one e_kit_SameLists_ok rfl (by kernel_rfl) (opd_q (by kernel_rfl) (wantedA_none rfl) rfl (q_indexAddr (a := .sl 1 (x1.map (cdL 1 cdI).enc)) (b := .v (.int .i64 c2)) (by kernel_rfl) (by kernel_rfl) (ix_sl (e := (cdL 1 cdI).enc) (el := 31) (k := 1) (ki := .i64) (by kernel_rfl) (by kernel_rfl) hv5)) (by kernel_rfl)) ?_
        refine RunDS.segF (n := 27) e_kit_SameLists_ok 1 [(0, .sl 1 (x0.map (cdL 1 cdI).enc)), (1, .sl 1 (x1.map (cdL 1 cdI).enc)), (5, .v (.int .i64 c2)), (20, .sl 1 (v4.map cdI.enc)), (24, .sl 1 (v5.map cdI.enc))] [] (by kernel_rfl) (by kernel_rfl) ?_
        refine RunDS.call e_kit_SameLists_ok (fid := 43) (s := cs_kit_SameInts) (F := fun a => kit_SameInts a.1 a.2.1) (er := er_kit_SameInts) (xs := [.sl 1 (v4.map cdI.enc), .sl 1 (v5.map cdI.enc)]) (a := (v4, v5, ())) rfl (wantedA_none rfl) (by kernel_rfl) (by kernel_rfl) (by kernel_rfl) (Sns.cons (Sn.enc (c := (cdL 1 cdI)) (v := v4)) (Sns.cons (Sn.enc (c := (cdL 1 cdI)) (v := v5)) Sns.nil)) (by kernel_rfl) hv6 ?_
        refine RunDS.segF (n := 27) e_kit_SameLists_ok 1 [(0, .sl 1 (x0.map (cdL 1 cdI).enc)), (1, .sl 1 (x1.map (cdL 1 cdI).enc)), (5, .v (.int .i64 c2)), (26, .v (.bool (!v6)))] [] (by kernel_rfl) (by kernel_rfl) ?_
        exact RunDS.done rfl Wk.f1
      refine Sem.cond (b := (!v6)) (by kernel_rfl) (fun hb7 => ?_) (fun hb7 => ?_)
      · rw [if_pos hb7] at h
        refine Sem.seq ?_
        refine Sem.runS (s1 := ⟨Fr 27 [(4, .v (.bool false))], []⟩) ?_ ?_
        · refine RunS.segF (n := 27) e_kit_SameLists_ok 1 [(4, .v (.bool false))] [] (by kernel_rfl) ?_
          exact RunS.done rfl Wk.f1
        refine Sem.ret ?_
        have hq := Option.some.inj h; subst hq
        exact ⟨rfl, Wk.f1⟩
      · rw [if_f hb7] at h
        refine Sem.skip ?_
        refine Sem.runS (s1 := ⟨Fr 27 [(0, .sl 1 (x0.map (cdL 1 cdI).enc)), (1, .sl 1 (x1.map (cdL 1 cdI).enc)), (5, .v (.int .i64 (wr .i64 (c2 + 1))))], []⟩) ?_ ?_
        · refine RunS.segF (n := 27) e_kit_SameLists_ok 3 [(0, .sl 1 (x0.map (cdL 1 cdI).enc)), (1, .sl 1 (x1.map (cdL 1 cdI).enc)), (5, .v (.int .i64 (wr .i64 (c2 + 1))))] [] (by kernel_rfl) ?_
          exact RunS.done rfl Wk.f1
        exact SemN.wk (s1 := ⟨Fr 27 [(0, .sl 1 (x0.map (cdL 1 cdI).enc)), (1, .sl 1 (x1.map (cdL 1 cdI).enc)), (5, .v (.int .i64 (wr .i64 (c2 + 1))))], []⟩) Wk.f1 (ih (wr .i64 (c2 + 1)) h)
    · rw [if_f hb3] at h
      refine Sem.exit ?_
      have hq := Option.some.inj h; subst hq
      exact ⟨rfl, Wk.f1⟩
set_option maxHeartbeats 4000000 in
set_option maxRecDepth 100000 in
theorem kit_SameLists_sem (x0 : (List (List Int))) (x1 : (List (List Int))) (r : Bool) (h : kit_SameLists x0 x1 = some r) : Sem e_kit_SameLists ⟨none, false⟩ cb_kit_SameLists ⟨Fr 27 (pairs0 0 (cs_kit_SameLists.enc (x0, x1, ()))), []⟩ fun e s' => (e = .normal ∨ e = .ret) ∧ ∃ xs, resA e_kit_SameLists.P s'.fr s'.hp Tryd.f56.results.toList = some xs ∧ retA xs = er_kit_SameLists r := by
  unfold kit_SameLists at h
  refine Sem.wkQ (Sem.wk (s1 := ⟨Fr 27 [(0, .sl 1 (x0.map (cdL 1 cdI).enc)), (1, .sl 1 (x1.map (cdL 1 cdI).enc))], []⟩) Wk.f1 ?_)
  refine Sem.seq ?_
  refine Sem.runS (s1 := ⟨Fr 27 [(0, .sl 1 (x0.map (cdL 1 cdI).enc)), (1, .sl 1 (x1.map (cdL 1 cdI).enc))], []⟩) ?_ ?_
  · refine RunS.segF (n := 27) e_kit_SameLists_ok 1 [(0, .sl 1 (x0.map (cdL 1 cdI).enc)), (1, .sl 1 (x1.map (cdL 1 cdI).enc))] [] (by kernel_rfl) ?_
    exact RunS.done rfl Wk.f1
  refine Sem.seq ?_
  refine Sem.seq ?_
  refine Sem.runS (s1 := ⟨Fr 27 [(0, .sl 1 (x0.map (cdL 1 cdI).enc)), (1, .sl 1 (x1.map (cdL 1 cdI).enc)), (10, .v (.bool ((x0.length : Int) != (x1.length : Int))))], []⟩) ?_ ?_
  · refine RunS.segF (n := 27) e_kit_SameLists_ok 1 [(0, .sl 1 (x0.map (cdL 1 cdI).enc)), (1, .sl 1 (x1.map (cdL 1 cdI).enc)), (6, .sl 1 (x0.map (cdL 1 cdI).enc))] [] (by kernel_rfl) ?_
    refine RunS.one e_kit_SameLists_ok 0 rfl (op_q (wantedA_none rfl) rfl (q_len (a := .sl 1 (x0.map (cdL 1 cdI).enc)) (by kernel_rfl) (len_sl (el := 31) (by kernel_rfl)))) ?_
    refine RunS.segF (n := 27) e_kit_SameLists_ok 1 [(0, .sl 1 (x0.map (cdL 1 cdI).enc)), (1, .sl 1 (x1.map (cdL 1 cdI).enc)), (7, .v (.int .i64 (x0.length : Int))), (8, .sl 1 (x1.map (cdL 1 cdI).enc))] [] (by kernel_rfl) ?_
    refine RunS.one e_kit_SameLists_ok 0 rfl (op_q (wantedA_none rfl) rfl (q_len (a := .sl 1 (x1.map (cdL 1 cdI).enc)) (by kernel_rfl) (len_sl (el := 31) (by kernel_rfl)))) ?_
    refine RunS.segF (n := 27) e_kit_SameLists_ok 1 [(0, .sl 1 (x0.map (cdL 1 cdI).enc)), (1, .sl 1 (x1.map (cdL 1 cdI).enc)), (10, .v (.bool ((x0.length : Int) != (x1.length : Int))))] [] (by kernel_rfl) ?_
    exact RunS.done rfl Wk.f1
  refine Sem.cond (b := ((x0.length : Int) != (x1.length : Int))) (by kernel_rfl) (fun hb1 => ?_) (fun hb1 => ?_)
  · rw [if_pos hb1] at h
    refine Sem.seq ?_
    refine Sem.runS (s1 := ⟨Fr 27 [(4, .v (.bool false))], []⟩) ?_ ?_
    · refine RunS.segF (n := 27) e_kit_SameLists_ok 1 [(4, .v (.bool false))] [] (by kernel_rfl) ?_
      exact RunS.done rfl Wk.f1
    refine Sem.ret ?_
    have hq := Option.some.inj h; subst hq
    exact ⟨⟨Fr 27 [(4, .v (.bool false))], []⟩, Wk.f1, .inr rfl, [.v (.bool false)], (by kernel_rfl), (by kernel_rfl)⟩
  · rw [if_f hb1] at h
    refine Sem.skip ?_
    refine Sem.seq ?_
    refine Sem.seq ?_
    refine Sem.runS (s1 := ⟨Fr 27 [(0, .sl 1 (x0.map (cdL 1 cdI).enc)), (1, .sl 1 (x1.map (cdL 1 cdI).enc)), (5, .v (.int .i64 0))], []⟩) ?_ ?_
    · refine RunS.segF (n := 27) e_kit_SameLists_ok 1 [(0, .sl 1 (x0.map (cdL 1 cdI).enc)), (1, .sl 1 (x1.map (cdL 1 cdI).enc)), (5, .v (.int .i64 0))] [] (by kernel_rfl) ?_
      exact RunS.done rfl Wk.f1
    refine Sem.block ?_
    obtain ⟨r9, hr9, h⟩ := Option.bind_eq_some_iff.1 h
    refine Sem.loop (n := 100000) ?_
    rcases r9 with w10 | w11
    · try dsimp only at h
      refine Sem.cutN (SemN.wk (s1 := ⟨Fr 27 [(0, .sl 1 (x0.map (cdL 1 cdI).enc)), (1, .sl 1 (x1.map (cdL 1 cdI).enc)), (5, .v (.int .i64 0))], []⟩) Wk.f1 (kit_SameLists_1_ok x0 x1 _ 0 _ hr9)) ?_
      refine Sem.seq ?_
      refine Sem.runS (s1 := ⟨Fr 27 [(4, .v (.bool true))], []⟩) ?_ ?_
      · refine RunS.segF (n := 27) e_kit_SameLists_ok 1 [(4, .v (.bool true))] [] (by kernel_rfl) ?_
        exact RunS.done rfl Wk.f1
      refine Sem.ret ?_
      have hq := Option.some.inj h; subst hq
      exact ⟨⟨Fr 27 [(4, .v (.bool true))], []⟩, Wk.f1, .inr rfl, [.v (.bool true)], (by kernel_rfl), (by kernel_rfl)⟩
    · try dsimp only at h
      refine Sem.cutN (SemN.wk (s1 := ⟨Fr 27 [(0, .sl 1 (x0.map (cdL 1 cdI).enc)), (1, .sl 1 (x1.map (cdL 1 cdI).enc)), (5, .v (.int .i64 0))], []⟩) Wk.f1 (kit_SameLists_1_ok x0 x1 _ 0 _ hr9)) ?_
      have hq := Option.some.inj h; subst hq
      exact ⟨⟨Fr 27 [(4, .v (.bool w11))], []⟩, Wk.f1, .inr rfl, [.v (.bool w11)], (by kernel_rfl), (by kernel_rfl)⟩
def t_kit_SameLists : List AV → Option AV := told cs_kit_SameLists (fun a => kit_SameLists a.1 a.2.1) er_kit_SameLists
theorem x_kit_SameLists : XOk 56 t_kit_SameLists := by
  refine EnvOk.x (E := e_kit_SameLists) (contract_ok e_kit_SameLists_ok (fn := Tryd.f56) (c := cb_kit_SameLists) ?h1 ?h2 ⟨Tryd.call56⟩ cs_kit_SameLists (fun a => kit_SameLists a.1 a.2.1) er_kit_SameLists (fun a => (by show 2 ≤ 27; decide)) ?h3 ?h4) rfl rfl
  case h1 => kernel_rfl
  case h2 => kernel_rfl
  case h3 => intro b; kernel_rfl
  case h4 => exact fun a b h => kit_SameLists_sem a.1 a.2.1 b h
/- trestle/trestlelaw09.Same$1 -/
noncomputable def e_law09_Same_1 : Env := (E0.withX 56 t_kit_SameLists)
theorem e_law09_Same_1_ok : EnvOk e_law09_Same_1 := (EnvOk.withX E0_ok x_kit_SameLists.1 x_kit_SameLists.2)
noncomputable def cb_law09_Same_1 : Code := codeOf Tryd.f55
def law09_Same_1 (x0 : (List (List Int))) (x1 : (List (List Int))) : Option (Bool) :=
  (kit_SameLists x0 x1).bind fun v1 =>
  some v1
def cs_law09_Same_1 : Cs ((List (List Int)) × (List (List Int)) × Unit) := (csC (cdL 1 (cdL 1 cdI)) (csC (cdL 1 (cdL 1 cdI)) csN))
def er_law09_Same_1 (r : Bool) : AV := cdB.enc r
set_option maxHeartbeats 4000000 in
set_option maxRecDepth 100000 in
theorem law09_Same_1_sem (x0 : (List (List Int))) (x1 : (List (List Int))) (r : Bool) (h : law09_Same_1 x0 x1 = some r) : Sem e_law09_Same_1 ⟨none, false⟩ cb_law09_Same_1 ⟨Fr 8 (pairs0 0 (cs_law09_Same_1.enc (x0, x1, ()))), []⟩ fun e s' => (e = .normal ∨ e = .ret) ∧ ∃ xs, resA e_law09_Same_1.P s'.fr s'.hp Tryd.f55.results.toList = some xs ∧ retA xs = er_law09_Same_1 r := by
  unfold law09_Same_1 at h
  refine Sem.wkQ (Sem.wk (s1 := ⟨Fr 8 [(0, .sl 1 (x0.map (cdL 1 cdI).enc)), (1, .sl 1 (x1.map (cdL 1 cdI).enc))], []⟩) Wk.f1 ?_)
  refine Sem.seq ?_
  refine Sem.runS (s1 := ⟨Fr 8 [(0, .sl 1 (x0.map (cdL 1 cdI).enc)), (1, .sl 1 (x1.map (cdL 1 cdI).enc))], []⟩) ?_ ?_
  · refine RunS.segF (n := 8) e_law09_Same_1_ok 1 [(0, .sl 1 (x0.map (cdL 1 cdI).enc)), (1, .sl 1 (x1.map (cdL 1 cdI).enc))] [] (by kernel_rfl) ?_
    exact RunS.done rfl Wk.f1
  refine Sem.seq ?_
  obtain ⟨v1, hv1, h⟩ := Option.bind_eq_some_iff.1 h
  refine Sem.runS (s1 := ⟨Fr 8 [(4, .v (.bool v1))], []⟩) ?_ ?_
  · refine RunS.segF (n := 8) e_law09_Same_1_ok 2 [(5, .sl 1 (x0.map (cdL 1 cdI).enc)), (6, .sl 1 (x1.map (cdL 1 cdI).enc))] [] (by kernel_rfl) ?_
    refine RunS.call e_law09_Same_1_ok (fid := 56) (s := cs_kit_SameLists) (F := fun a => kit_SameLists a.1 a.2.1) (er := er_kit_SameLists) (xs := [.sl 1 (x0.map (cdL 1 cdI).enc), .sl 1 (x1.map (cdL 1 cdI).enc)]) (a := (x0, x1, ())) rfl (wantedA_none rfl) (by kernel_rfl) (by kernel_rfl) (by kernel_rfl) (by kernel_rfl) (Sns.cons (Sn.enc (c := (cdL 1 (cdL 1 cdI))) (v := x0)) (Sns.cons (Sn.enc (c := (cdL 1 (cdL 1 cdI))) (v := x1)) Sns.nil)) (.inl (by kernel_rfl)) hv1 ?_
    refine RunS.segF (n := 8) e_law09_Same_1_ok 1 [(4, .v (.bool v1))] [] (by kernel_rfl) ?_
    exact RunS.done rfl Wk.f1
  refine Sem.ret ?_
  have hq := Option.some.inj h; subst hq
  exact ⟨⟨Fr 8 [(4, .v (.bool v1))], []⟩, Wk.f1, .inr rfl, [.v (.bool v1)], (by kernel_rfl), (by kernel_rfl)⟩
def t_law09_Same_1 : List AV → Option AV := told cs_law09_Same_1 (fun a => law09_Same_1 a.1 a.2.1) er_law09_Same_1
theorem x_law09_Same_1 : XOk 55 t_law09_Same_1 := by
  refine EnvOk.x (E := e_law09_Same_1) (contract_ok e_law09_Same_1_ok (fn := Tryd.f55) (c := cb_law09_Same_1) ?h1 ?h2 ⟨Tryd.call55⟩ cs_law09_Same_1 (fun a => law09_Same_1 a.1 a.2.1) er_law09_Same_1 (fun a => (by show 2 ≤ 8; decide)) ?h3 ?h4) rfl rfl
  case h1 => kernel_rfl
  case h2 => kernel_rfl
  case h3 => intro b; kernel_rfl
  case h4 => exact fun a b h => law09_Same_1_sem a.1 a.2.1 b h
end Go.Proofs.YtcmgmkepodbpkaaDoor
