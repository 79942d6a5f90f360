/- Lemmas for the proof. -/
import Derived.Test.YtcmgmkepodbpkaaDoorEveningPlansM1
import Derived.Test.YtcmgmkepodbpkaaDoorEveningPlansM2
import Derived.Test.YtcmgmkepodbpkaaDoorEveningPlansM3
namespace Go.Proofs.YtcmgmkepodbpkaaDoor
open Go.RowKit
/- trestle/evening.Plan -/
noncomputable def e_evening_Plan : Env := ((E0.withX 67 t_evening_fit).withX 70 t_evening_choose)
theorem e_evening_Plan_ok : EnvOk e_evening_Plan := (EnvOk.withX (EnvOk.withX E0_ok x_evening_fit.1 x_evening_fit.2) x_evening_choose.1 x_evening_choose.2)
noncomputable def cb_evening_Plan : Code := codeOf Tryd.f21
noncomputable def e_evening_Plan_k1 : Env := E0
theorem e_evening_Plan_k1_ok : EnvOk e_evening_Plan_k1 := E0_ok
noncomputable def cb_evening_Plan_k1 : Code := codeOf Tryd.f68
def evening_Plan_k1 (y0 : Int) : Option (Int × Int × (List Int)) :=
  if (mkOk 8 (wr .i64 (y0 * y0))) = true then
  some (y0, y0, (List.replicate (wr .i64 (y0 * y0)).toNat (0 : Int)))
  else none
set_option maxHeartbeats 4000000 in
set_option maxRecDepth 100000 in
theorem evening_Plan_k1_sem (y0 : Int) (r : Int × Int × (List Int)) (h : evening_Plan_k1 y0 = some r) : SemY e_evening_Plan_k1 ⟨none, false⟩ cb_evening_Plan_k1 ⟨Fr 9 (pairs0 0 [.v (.int .i64 y0)]), []⟩ fun x s' => (x = .normal ∨ x = .ret) ∧ ∃ ys, resA e_evening_Plan_k1.P s'.fr s'.hp Tryd.f68.results.toList = some ys ∧ (retA ys = .ag [.v (.int .i64 r.1), .rf 1 0 r.2.2.length r.2.2.length] ∧ s'.hp = [some ⟨2, 94, [.ag [.v (.int .i64 r.2.1), .rf 1 0 r.2.2.length r.2.2.length]], false⟩, some ⟨1, 3, (r.2.2.map cdI.enc), false⟩]) := by
  unfold evening_Plan_k1 at h
  refine SemY.seq ?_
  refine SemY.region ?_
  refine RunY.segF (n := 9) e_evening_Plan_k1_ok 1 [(0, .v (.int .i64 y0)), (2, .pt 0 0 0)] [some ⟨2, 94, [.ag [.v (.int .i64 0), .e0]], false⟩] (by kernel_rfl) ?_
  refine RunY.done rfl (SemY.fr (l' := [(0, .v (.int .i64 y0)), (2, .pt 0 0 0)]) (by kernel_rfl) ?_)
  refine SemY.seq ?_
  refine SemY.region ?_
  refine RunY.segF (n := 9) e_evening_Plan_k1_ok 4 [(2, .pt 0 0 0), (3, .v (.int .i64 y0)), (6, .v (.int .i64 (wr .i64 (y0 * y0))))] [some ⟨2, 94, [.ag [.v (.int .i64 0), .e0]], false⟩] (by kernel_rfl) ?_
  by_cases hk1 : (mkOk 8 (wr .i64 (y0 * y0))) = true
  case neg => rw [if_neg hk1] at h; cases h
  rw [if_pos hk1] at h
  refine RunY.one e_evening_Plan_k1_ok 0 rfl (op_n (wantedA_none rfl) rfl (by kernel_rfl) (n_make (x := .v (.int .i64 (wr .i64 (y0 * y0)))) (y := .v (.int .i64 (wr .i64 (y0 * y0)))) (by kernel_rfl) (by kernel_rfl) (make_B (c := cdI) (z := (0 : Int)) (k := 1) (bytes := 8) (el := 3) (by kernel_rfl) (by kernel_rfl) hk1))) ?_
  refine RunY.segF (n := 9) e_evening_Plan_k1_ok 2 [(2, .pt 0 0 0)] [some ⟨2, 94, [.ag [.v (.int .i64 y0), .rf 1 0 (List.replicate (wr .i64 (y0 * y0)).toNat (0 : Int)).length (List.replicate (wr .i64 (y0 * y0)).toNat (0 : Int)).length]], false⟩, some ⟨1, 3, ((List.replicate (wr .i64 (y0 * y0)).toNat (0 : Int)).map cdI.enc), false⟩] (by kernel_rfl) ?_
  refine RunY.done rfl (SemY.fr (l' := [(2, .pt 0 0 0)]) (by kernel_rfl) ?_)
  refine SemY.ret ?_
  have hq := Option.some.inj h; subst hq
  exact ⟨.inr rfl, [.ag [.v (.int .i64 y0), .rf 1 0 (List.replicate (wr .i64 (y0 * y0)).toNat (0 : Int)).length (List.replicate (wr .i64 (y0 * y0)).toNat (0 : Int)).length]], (by kernel_rfl), (by kernel_rfl), (by kernel_rfl)⟩
def evening_Plan_3 (x0 : Int) (x1 : (List Int)) (x2 : Int) (v6 : Int × Int × (List Int)) (c97 : (List Int)) (c98 : (List (List (List Int)))) (c99 : Int) (c146 : (List (List Int))) (c147 : Int) (v149 : Int) : Nat → (List Int) → (List Int) → Int → Option (((List Int) × (List Int)))
  | 0, _, _, _ => none
  | f + 1, c168, c169, c170 =>
    if (decide (c170 < v149)) = true then
    (evening_choose (v6.1, c97) c169 c168).bind fun v172 =>
    (idx c168 v172).bind fun v173 =>
    if (capOk 8 (c169.length + 1)) = true then
    (del1 c168 v172 (wr .i64 (v172 + 1))).bind fun v175 =>
    evening_Plan_3 x0 x1 x2 v6 c97 c98 c99 c146 c147 v149 f v175 (c169 ++ [v173]) (wr .i64 (c170 + 1))
    else none
    else
    some (c168, c169)
def evening_Plan_2 (x0 : Int) (x1 : (List Int)) (x2 : Int) (v6 : Int × Int × (List Int)) (c97 : (List Int)) (c98 : (List (List (List Int)))) (c99 : Int) : Nat → (List Int) → (List (List Int)) → Int → Option (((List (List Int))))
  | 0, _, _, _ => none
  | f + 1, c145, c146, c147 =>
    if (decide (c147 < (x1.length : Int))) = true then
    (idx x1 c147).bind fun v149 =>
    (evening_Plan_3 x0 x1 x2 v6 c97 c98 c99 c146 c147 v149 100000 c145 [] 0).bind fun r178 =>
    if (capOk 24 (c146.length + 1)) = true then
    evening_Plan_2 x0 x1 x2 v6 c97 c98 c99 f r178.1 (c146 ++ [r178.2]) (wr .i64 (c147 + 1))
    else none
    else
    some c146
noncomputable def e_evening_Plan_k2 : Env := E0
theorem e_evening_Plan_k2_ok : EnvOk e_evening_Plan_k2 := E0_ok
noncomputable def cb_evening_Plan_k2 : Code := codeOf Tryd.f72
def evening_Plan_k2 (y0 : Int) (y1 : (List Int)) (y2 : (List (List (List Int)))) (y3 : (List (List Int))) : Option ((List (List Int))) :=
  some y3
set_option maxHeartbeats 4000000 in
set_option maxRecDepth 100000 in
theorem evening_Plan_k2_sem (y0 : Int) (y1 : (List Int)) (y2 : (List (List (List Int)))) (y3 : (List (List Int))) (r : (List (List Int))) (h : evening_Plan_k2 y0 y1 y2 y3 = some r) : SemY e_evening_Plan_k2 ⟨none, false⟩ cb_evening_Plan_k2 ⟨Fr 4 (pairs0 0 [.sl 1 (y3.map (cdL 1 cdI).enc)]), [some ⟨2, 94, [.ag [.v (.int .i64 y0), .rf 1 0 y1.length y1.length]], false⟩, some ⟨1, 3, (y1.map cdI.enc), false⟩, mk 1 50 (y2.map (cdL 1 (cdL 1 cdI)).enc), none]⟩ fun x s' => (x = .normal ∨ x = .ret) ∧ ∃ ys, resA e_evening_Plan_k2.P s'.fr s'.hp Tryd.f72.results.toList = some ys ∧ (retA ys = .fn 108 [] [.pt 4 0 0] ∧ s'.hp = [some ⟨2, 94, [.ag [.v (.int .i64 y0), .rf 1 0 y1.length y1.length]], false⟩, some ⟨1, 3, (y1.map cdI.enc), false⟩, mk 1 50 (y2.map (cdL 1 (cdL 1 cdI)).enc), none, some ⟨1, 50, [.sl 1 (r.map (cdL 1 cdI).enc)], false⟩]) := by
  unfold evening_Plan_k2 at h
  refine SemY.seq ?_
  refine SemY.region ?_
  refine RunY.segF (n := 4) e_evening_Plan_k2_ok 2 [(1, .pt 4 0 0)] [some ⟨2, 94, [.ag [.v (.int .i64 y0), .rf 1 0 y1.length y1.length]], false⟩, some ⟨1, 3, (y1.map cdI.enc), false⟩, mk 1 50 (y2.map (cdL 1 (cdL 1 cdI)).enc), none, some ⟨1, 50, [.sl 1 (y3.map (cdL 1 cdI).enc)], false⟩] (by kernel_rfl) ?_
  refine RunY.done rfl (SemY.fr (l' := [(1, .pt 4 0 0)]) (by kernel_rfl) ?_)
  refine SemY.seq ?_
  refine SemY.region ?_
  refine RunY.segF (n := 4) e_evening_Plan_k2_ok 2 [(2, .fn 108 [] [.pt 4 0 0])] [some ⟨2, 94, [.ag [.v (.int .i64 y0), .rf 1 0 y1.length y1.length]], false⟩, some ⟨1, 3, (y1.map cdI.enc), false⟩, mk 1 50 (y2.map (cdL 1 (cdL 1 cdI)).enc), none, some ⟨1, 50, [.sl 1 (y3.map (cdL 1 cdI).enc)], false⟩] (by kernel_rfl) ?_
  refine RunY.done rfl (SemY.fr (l' := [(2, .fn 108 [] [.pt 4 0 0])]) (by kernel_rfl) ?_)
  refine SemY.ret ?_
  have hq := Option.some.inj h; subst hq
  exact ⟨.inr rfl, [.fn 108 [] [.pt 4 0 0]], (by kernel_rfl), (by kernel_rfl), (by kernel_rfl)⟩
noncomputable def e_evening_Plan_k3 : Env := E0
theorem e_evening_Plan_k3_ok : EnvOk e_evening_Plan_k3 := E0_ok
noncomputable def cb_evening_Plan_k3 : Code := codeOf Tryd.f108
noncomputable def cx_evening_Plan_k3 (y2 : (List (List (List Int)))) (y4 : Int) (y5 : (List Int)) (y6 : (List (List Int))) (y7 : Int) (y8 : Int) : Cx := ⟨some ⟨4, Fr 86 [(0, .v (.int .i64 y4)), (1, .sl 1 (y5.map cdI.enc)), (8, .pt 0 0 0), (9, hd 2 (y2.map (cdL 1 (cdL 1 cdI)).enc)), (11, .sl 1 (y6.map (cdL 1 cdI).enc)), (32, .v (.int .i64 y7)), (33, .v (.int .i64 y8)), (69, .fn 108 [] [.pt 3 0 0])], [70, 71], asgOf (pc cb_evening_Plan [1, 1, 1, 1, 0, 1, 0, 0, 1, 1, 0, 0, 1, 1, 1, 0, 1, 0]), bdyOf (pc cb_evening_Plan [1, 1, 1, 1, 0, 1, 0, 0, 1, 1, 0, 0, 1, 1, 1, 0, 1, 0])⟩, false⟩
noncomputable def e_evening_Plan_k3_y_k1 : Env := E0
theorem e_evening_Plan_k3_y_k1_ok : EnvOk e_evening_Plan_k3_y_k1 := E0_ok
noncomputable def cb_evening_Plan_k3_y_k1 : Code := codeOf Tryd.f73
def evening_Plan_k3_y_k1 (y0 : Int) (y1 : (List Int)) (y2 : (List (List (List Int)))) (y3 : (List (List Int))) (y4 : Int) (y5 : Int) (y6 : Int) : Option (Int) :=
  (idx y1 (wr .i64 ((wr .i64 (y5 * y4)) + y6))).bind fun v1 =>
  some y4
set_option maxHeartbeats 4000000 in
set_option maxRecDepth 100000 in
theorem evening_Plan_k3_y_k1_sem (y0 : Int) (y1 : (List Int)) (y2 : (List (List (List Int)))) (y3 : (List (List Int))) (y4 : Int) (y5 : Int) (y6 : Int) (r : Int) (h : evening_Plan_k3_y_k1 y0 y1 y2 y3 y4 y5 y6 = some r) : SemY e_evening_Plan_k3_y_k1 ⟨none, false⟩ cb_evening_Plan_k3_y_k1 ⟨Fr 16 (pairs0 0 [.ag [.v (.int .i64 y4), .rf 1 0 y1.length y1.length], .v (.int .i64 y5), .v (.int .i64 y6)]), [some ⟨2, 94, [.ag [.v (.int .i64 y0), .rf 1 0 y1.length y1.length]], false⟩, some ⟨1, 3, (y1.map cdI.enc), false⟩, mk 1 50 (y2.map (cdL 1 (cdL 1 cdI)).enc), some ⟨1, 50, [.sl 1 (y3.map (cdL 1 cdI).enc)], false⟩, none]⟩ fun x s' => (x = .normal ∨ x = .ret) ∧ ∃ ys, resA e_evening_Plan_k3_y_k1.P s'.fr s'.hp Tryd.f73.results.toList = some ys ∧ (retA ys = .pt 1 ((wr .i64 ((wr .i64 (y5 * y4)) + y6)).toNat) 0 ∧ s'.hp = [some ⟨2, 94, [.ag [.v (.int .i64 y0), .rf 1 0 y1.length y1.length]], false⟩, some ⟨1, 3, (y1.map cdI.enc), false⟩, mk 1 50 (y2.map (cdL 1 (cdL 1 cdI)).enc), some ⟨1, 50, [.sl 1 (y3.map (cdL 1 cdI).enc)], false⟩, none, some ⟨2, 94, [.ag [.v (.int .i64 r), .rf 1 0 y1.length y1.length]], false⟩]) := by
  unfold evening_Plan_k3_y_k1 at h
  refine SemY.seq ?_
  refine SemY.region ?_
  refine RunY.segF (n := 16) e_evening_Plan_k3_y_k1_ok 2 [(1, .v (.int .i64 y5)), (2, .v (.int .i64 y6)), (3, .pt 5 0 0)] [some ⟨2, 94, [.ag [.v (.int .i64 y0), .rf 1 0 y1.length y1.length]], false⟩, some ⟨1, 3, (y1.map cdI.enc), false⟩, mk 1 50 (y2.map (cdL 1 (cdL 1 cdI)).enc), some ⟨1, 50, [.sl 1 (y3.map (cdL 1 cdI).enc)], false⟩, none, some ⟨2, 94, [.ag [.v (.int .i64 y4), .rf 1 0 y1.length y1.length]], false⟩] (by kernel_rfl) ?_
  refine RunY.done rfl (SemY.fr (l' := [(1, .v (.int .i64 y5)), (2, .v (.int .i64 y6)), (3, .pt 5 0 0)]) (by kernel_rfl) ?_)
  refine SemY.seq ?_
  refine SemY.region ?_
  refine RunY.segF (n := 16) e_evening_Plan_k3_y_k1_ok 8 [(8, .rf 1 0 y1.length y1.length), (14, .v (.int .i64 (wr .i64 ((wr .i64 (y5 * y4)) + y6))))] [some ⟨2, 94, [.ag [.v (.int .i64 y0), .rf 1 0 y1.length y1.length]], false⟩, some ⟨1, 3, (y1.map cdI.enc), false⟩, mk 1 50 (y2.map (cdL 1 (cdL 1 cdI)).enc), some ⟨1, 50, [.sl 1 (y3.map (cdL 1 cdI).enc)], false⟩, none, some ⟨2, 94, [.ag [.v (.int .i64 y4), .rf 1 0 y1.length y1.length]], false⟩] (by kernel_rfl) ?_
  obtain ⟨v1, hv1, h⟩ := Option.bind_eq_some_iff.1 h
  refine RunY.one e_evening_Plan_k3_y_k1_ok 0 rfl (op_q (wantedA_none rfl) rfl (q_indexAddr (a := .rf 1 0 y1.length y1.length) (b := .v (.int .i64 (wr .i64 ((wr .i64 (y5 * y4)) + y6)))) (by kernel_rfl) (by kernel_rfl) (ix_rl (e := cdI.enc) (xs := y1) (t' := 3) (el := 3) (k := 1) (ki := .i64) (by kernel_rfl) (by kernel_rfl) (by kernel_rfl) hv1))) ?_
  refine RunY.segF (n := 16) e_evening_Plan_k3_y_k1_ok 1 [(6, .pt 1 ((wr .i64 ((wr .i64 (y5 * y4)) + y6)).toNat) 0)] [some ⟨2, 94, [.ag [.v (.int .i64 y0), .rf 1 0 y1.length y1.length]], false⟩, some ⟨1, 3, (y1.map cdI.enc), false⟩, mk 1 50 (y2.map (cdL 1 (cdL 1 cdI)).enc), some ⟨1, 50, [.sl 1 (y3.map (cdL 1 cdI).enc)], false⟩, none, some ⟨2, 94, [.ag [.v (.int .i64 y4), .rf 1 0 y1.length y1.length]], false⟩] (by kernel_rfl) ?_
  refine RunY.done rfl (SemY.fr (l' := [(6, .pt 1 ((wr .i64 ((wr .i64 (y5 * y4)) + y6)).toNat) 0)]) (by kernel_rfl) ?_)
  refine SemY.ret ?_
  have hq := Option.some.inj h; subst hq
  exact ⟨.inr rfl, [.pt 1 ((wr .i64 ((wr .i64 (y5 * y4)) + y6)).toNat) 0], (by kernel_rfl), (by kernel_rfl), (by kernel_rfl)⟩
def evening_Plan_k3_y (y0 : Int) (y1 : (List Int)) (y2 : (List (List (List Int)))) (y3 : (List (List Int))) (y4 : Int) (y5 : (List Int)) (y6 : (List (List Int))) (y7 : Int) (y8 : Int) (y9 : Int) (y10 : Int) : Option ((List Int)) :=
  (evening_Plan_k3_y_k1 y0 y1 y2 y3 y0 y9 y10).bind fun v1 =>
  (idx y1 (wr .i64 ((wr .i64 (y9 * y0)) + y10))).bind fun v2 =>
  some (y1.set ((wr .i64 ((wr .i64 (y9 * y0)) + y10)).toNat) (wr .i64 (v2 + 1)))
set_option maxHeartbeats 4000000 in
set_option maxRecDepth 100000 in
theorem evening_Plan_k3_y_sem (y0 : Int) (y1 : (List Int)) (y2 : (List (List (List Int)))) (y3 : (List (List Int))) (y4 : Int) (y5 : (List Int)) (y6 : (List (List Int))) (y7 : Int) (y8 : Int) (y9 : Int) (y10 : Int) (r : (List Int)) (h : evening_Plan_k3_y y0 y1 y2 y3 y4 y5 y6 y7 y8 y9 y10 = some r) : SemY e_evening_Plan ⟨none, true⟩ (asgOf (pc cb_evening_Plan [1, 1, 1, 1, 0, 1, 0, 0, 1, 1, 0, 0, 1, 1, 1, 0, 1, 0])) ⟨Fr 86 [(71, .v (.int .i64 y10)), (70, .v (.int .i64 y9)), (0, .v (.int .i64 y4)), (1, .sl 1 (y5.map cdI.enc)), (8, .pt 0 0 0), (9, hd 2 (y2.map (cdL 1 (cdL 1 cdI)).enc)), (11, .sl 1 (y6.map (cdL 1 cdI).enc)), (32, .v (.int .i64 y7)), (33, .v (.int .i64 y8)), (69, .fn 108 [] [.pt 3 0 0])], [some ⟨2, 94, [.ag [.v (.int .i64 y0), .rf 1 0 y1.length y1.length]], false⟩, some ⟨1, 3, (y1.map cdI.enc), false⟩, mk 1 50 (y2.map (cdL 1 (cdL 1 cdI)).enc), some ⟨1, 50, [.sl 1 (y3.map (cdL 1 cdI).enc)], false⟩, none]⟩ fun e s1 => e = .normal ∧ SemY e_evening_Plan ⟨none, true⟩ (bdyOf (pc cb_evening_Plan [1, 1, 1, 1, 0, 1, 0, 0, 1, 1, 0, 0, 1, 1, 1, 0, 1, 0])) s1 fun e s2 => e = .normal ∧ s2.hp = [some ⟨2, 94, [.ag [.v (.int .i64 y0), .rf 1 0 r.length r.length]], false⟩, some ⟨1, 3, (r.map cdI.enc), false⟩, mk 1 50 (y2.map (cdL 1 (cdL 1 cdI)).enc), some ⟨1, 50, [.sl 1 (y3.map (cdL 1 cdI).enc)], false⟩, none] := by
  unfold evening_Plan_k3_y at h
  refine SemY.seq ?_
  refine SemY.region ?_
  refine RunY.segF (n := 86) e_evening_Plan_ok 1 [(8, .pt 0 0 0), (16, .v (.int .i64 y9)), (71, .v (.int .i64 y10))] [some ⟨2, 94, [.ag [.v (.int .i64 y0), .rf 1 0 y1.length y1.length]], false⟩, some ⟨1, 3, (y1.map cdI.enc), false⟩, mk 1 50 (y2.map (cdL 1 (cdL 1 cdI)).enc), some ⟨1, 50, [.sl 1 (y3.map (cdL 1 cdI).enc)], false⟩, none] (by kernel_rfl) ?_
  refine RunY.done rfl (SemY.fr (l' := [(8, .pt 0 0 0), (16, .v (.int .i64 y9)), (71, .v (.int .i64 y10))]) (by kernel_rfl) ?_)
  refine SemY.region ?_
  refine RunY.segF (n := 86) e_evening_Plan_ok 1 [(8, .pt 0 0 0), (16, .v (.int .i64 y9)), (17, .v (.int .i64 y10))] [some ⟨2, 94, [.ag [.v (.int .i64 y0), .rf 1 0 y1.length y1.length]], false⟩, some ⟨1, 3, (y1.map cdI.enc), false⟩, mk 1 50 (y2.map (cdL 1 (cdL 1 cdI)).enc), some ⟨1, 50, [.sl 1 (y3.map (cdL 1 cdI).enc)], false⟩, none] (by kernel_rfl) ?_
  refine RunY.done rfl ?_
  refine ⟨rfl, ?_⟩
  refine SemY.block ?_
  refine SemY.region ?_
  refine RunY.segF (n := 86) e_evening_Plan_ok 3 [(72, .ag [.v (.int .i64 y0), .rf 1 0 y1.length y1.length]), (73, .v (.int .i64 y9)), (74, .v (.int .i64 y10))] [some ⟨2, 94, [.ag [.v (.int .i64 y0), .rf 1 0 y1.length y1.length]], false⟩, some ⟨1, 3, (y1.map cdI.enc), false⟩, mk 1 50 (y2.map (cdL 1 (cdL 1 cdI)).enc), some ⟨1, 50, [.sl 1 (y3.map (cdL 1 cdI).enc)], false⟩, none] (by kernel_rfl) ?_
  obtain ⟨v1, hv1, h⟩ := Option.bind_eq_some_iff.1 h
  obtain ⟨v2, hv2, h⟩ := Option.bind_eq_some_iff.1 h
  refine RunY.inl (fid := 73) (caps := []) (xs := [.ag [.v (.int .i64 y0), .rf 1 0 y1.length y1.length], .v (.int .i64 y9), .v (.int .i64 y10)]) (fn := Tryd.f73) (Out := fun x h' => x = .pt 1 ((wr .i64 ((wr .i64 (y9 * y0)) + y10)).toNat) 0 ∧ h' = [some ⟨2, 94, [.ag [.v (.int .i64 y0), .rf 1 0 y1.length y1.length]], false⟩, some ⟨1, 3, (y1.map cdI.enc), false⟩, mk 1 50 (y2.map (cdL 1 (cdL 1 cdI)).enc), some ⟨1, 50, [.sl 1 (y3.map (cdL 1 cdI).enc)], false⟩, none, some ⟨2, 94, [.ag [.v (.int .i64 v1), .rf 1 0 y1.length y1.length]], false⟩]) rfl rfl e_evening_Plan_k3_y_k1_ok rfl rfl 5 (by kernel_rfl) rfl (wantedA_none rfl) (by kernel_rfl) (by kernel_rfl) (by kernel_rfl) (by kernel_rfl) (by show 3 ≤ 16; decide) (evening_Plan_k3_y_k1_sem y0 y1 y2 y3 y0 y9 y10 _ hv1) ?_
  rintro x h' ⟨rfl, rfl⟩
  refine ⟨[some ⟨2, 94, [.ag [.v (.int .i64 y0), .rf 1 0 y1.length y1.length]], false⟩, some ⟨1, 3, (y1.map cdI.enc), false⟩, mk 1 50 (y2.map (cdL 1 (cdL 1 cdI)).enc), some ⟨1, 50, [.sl 1 (y3.map (cdL 1 cdI).enc)], false⟩, none], by kernel_rfl, ⟨⟨_, rfl, bu_d⟩, ⟨_, rfl, bu_own⟩, ⟨_, rfl, bu_mk⟩, ⟨_, rfl, bu_d⟩, ⟨_, rfl, bu_none⟩, trivial⟩, ⟨by kernel_rfl, by kernel_rfl⟩, ?_⟩
  refine RunY.segF (n := 86) e_evening_Plan_ok 1 [(75, .pt 1 ((wr .i64 ((wr .i64 (y9 * y0)) + y10)).toNat) 0), (76, .pt 1 ((wr .i64 ((wr .i64 (y9 * y0)) + y10)).toNat) 0)] [some ⟨2, 94, [.ag [.v (.int .i64 y0), .rf 1 0 y1.length y1.length]], false⟩, some ⟨1, 3, (y1.map cdI.enc), false⟩, mk 1 50 (y2.map (cdL 1 (cdL 1 cdI)).enc), some ⟨1, 50, [.sl 1 (y3.map (cdL 1 cdI).enc)], false⟩, none] (by kernel_rfl) ?_
  refine RunY.one e_evening_Plan_ok 0 rfl (op_q (wantedA_none rfl) rfl (q_load (p := .pt 1 ((wr .i64 ((wr .i64 (y9 * y0)) + y10)).toNat) 0) (by kernel_rfl) (ld_blk (B := ⟨1, 3, (y1.map cdI.enc), false⟩) (m := 1) (g := false) (e := cdI.enc) (xs := y1) (by kernel_rfl) (by kernel_rfl) (by kernel_rfl) rfl (idx_at hv2).2 (by kernel_rfl)))) ?_
  refine RunY.segF (n := 86) e_evening_Plan_ok 2 [(78, .v (.int .i64 (wr .i64 (v2 + 1)))), (79, .pt 1 ((wr .i64 ((wr .i64 (y9 * y0)) + y10)).toNat) 0)] [some ⟨2, 94, [.ag [.v (.int .i64 y0), .rf 1 0 y1.length y1.length]], false⟩, some ⟨1, 3, (y1.map cdI.enc), false⟩, mk 1 50 (y2.map (cdL 1 (cdL 1 cdI)).enc), some ⟨1, 50, [.sl 1 (y3.map (cdL 1 cdI).enc)], false⟩, none] (by kernel_rfl) ?_
  refine RunY.store e_evening_Plan_ok (y := .pt 1 ((wr .i64 ((wr .i64 (y9 * y0)) + y10)).toNat) 0) (z := .v (.int .i64 (wr .i64 (v2 + 1)))) rfl (wantedA_none rfl) (by kernel_rfl) (by kernel_rfl) (st_blk (t' := 3) (k := 1) (e := cdI.enc) (xs := y1) (v := v2) (v' := (wr .i64 (v2 + 1))) (by kernel_rfl) (idx_at hv2).2 (by kernel_rfl) (by kernel_rfl) (by kernel_rfl)) ?_
  refine RunY.done rfl ?_
  have hq := Option.some.inj h; subst hq
  exact ⟨rfl, Eq.trans (b := [some ⟨2, 94, [.ag [.v (.int .i64 y0), .rf 1 0 y1.length y1.length]], false⟩, some ⟨1, 3, ((y1.set ((wr .i64 ((wr .i64 (y9 * y0)) + y10)).toNat) (wr .i64 (v2 + 1))).map cdI.enc), false⟩, mk 1 50 (y2.map (cdL 1 (cdL 1 cdI)).enc), some ⟨1, 50, [.sl 1 (y3.map (cdL 1 cdI).enc)], false⟩, none]) (by kernel_rfl) (by simp only [List.length_set])⟩
def evening_Plan_k3_3 (y0 : Int) (y2 : (List (List (List Int)))) (y3 : (List (List Int))) (y4 : Int) (y5 : (List Int)) (y6 : (List (List Int))) (y7 : Int) (y8 : Int) (c186 : Int) (v189 : (List Int)) (c222 : Int) (v225 : Int) : Nat → Int → (List Int) → Option (((List Int)))
  | 0, _, _ => none
  | f + 1, c239, c240 =>
    if (decide (c239 < (v189.length : Int))) = true then
    (idx v189 c239).bind fun v242 =>
    if (c222 != c239) = true then
    (evening_Plan_k3_y y0 c240 y2 y3 y4 y5 y6 y7 y8 v225 v242).bind fun v243 =>
    evening_Plan_k3_3 y0 y2 y3 y4 y5 y6 y7 y8 c186 v189 c222 v225 f (wr .i64 (c239 + 1)) v243
    else
    evening_Plan_k3_3 y0 y2 y3 y4 y5 y6 y7 y8 c186 v189 c222 v225 f (wr .i64 (c239 + 1)) c240
    else
    some c240
def evening_Plan_k3_2 (y0 : Int) (y2 : (List (List (List Int)))) (y3 : (List (List Int))) (y4 : Int) (y5 : (List Int)) (y6 : (List (List Int))) (y7 : Int) (y8 : Int) (c186 : Int) (v189 : (List Int)) : Nat → Int → (List Int) → Option (((List Int)))
  | 0, _, _ => none
  | f + 1, c222, c223 =>
    if (decide (c222 < (v189.length : Int))) = true then
    (idx v189 c222).bind fun v225 =>
    (evening_Plan_k3_3 y0 y2 y3 y4 y5 y6 y7 y8 c186 v189 c222 v225 100000 0 c223).bind fun r246 =>
    evening_Plan_k3_2 y0 y2 y3 y4 y5 y6 y7 y8 c186 v189 f (wr .i64 (c222 + 1)) r246
    else
    some c223
def evening_Plan_k3_1 (y0 : Int) (y2 : (List (List (List Int)))) (y3 : (List (List Int))) (y4 : Int) (y5 : (List Int)) (y6 : (List (List Int))) (y7 : Int) (y8 : Int) : Nat → Int → (List Int) → Option (((List Int)))
  | 0, _, _ => none
  | f + 1, c186, c187 =>
    if (decide (c186 < (y3.length : Int))) = true then
    (idx y3 c186).bind fun v189 =>
    (evening_Plan_k3_2 y0 y2 y3 y4 y5 y6 y7 y8 c186 v189 100000 0 c187).bind fun r248 =>
    evening_Plan_k3_1 y0 y2 y3 y4 y5 y6 y7 y8 f (wr .i64 (c186 + 1)) r248
    else
    some c187
def evening_Plan_k3 (y0 : Int) (y1 : (List Int)) (y2 : (List (List (List Int)))) (y3 : (List (List Int))) (y4 : Int) (y5 : (List Int)) (y6 : (List (List Int))) (y7 : Int) (y8 : Int) : Option ((List Int)) :=
  (evening_Plan_k3_1 y0 y2 y3 y4 y5 y6 y7 y8 100000 0 y1).bind fun r250 =>
  some r250
set_option maxHeartbeats 4000000 in
set_option maxRecDepth 100000 in
theorem evening_Plan_k3_3_ok (y0 : Int) (y2 : (List (List (List Int)))) (y3 : (List (List Int))) (y4 : Int) (y5 : (List Int)) (y6 : (List (List Int))) (y7 : Int) (y8 : Int) (c186 : Int) (v189 : (List Int)) (c222 : Int) (v225 : Int) : ∀ (f : Nat) (c239 : Int) (c240 : (List Int)) (r : ((List Int))), evening_Plan_k3_3 y0 y2 y3 y4 y5 y6 y7 y8 c186 v189 c222 v225 f c239 c240 = some r → SemYN e_evening_Plan_k3 (cx_evening_Plan_k3 y2 y4 y5 y6 y7 y8) (pc cb_evening_Plan_k3 [1, 0, 0, 1, 1, 0, 0, 1, 1, 0, 0, 1, 1, 0, 0, 1, 1, 0, 0]) f ⟨Fr 42 [(0, .yl 4), (4, .sl 1 (v189.map cdI.enc)), (5, .v (.int .i64 c222)), (6, .v (.int .i64 v225)), (9, .sl 1 (y3.map (cdL 1 cdI).enc)), (10, .v (.int .i64 (y3.length : Int))), (11, .v (.int .i64 c186)), (15, .sl 1 (v189.map cdI.enc)), (16, .v (.int .i64 (v189.length : Int))), (17, .v (.int .i64 c222)), (22, .sl 1 (v189.map cdI.enc)), (23, .v (.int .i64 (v189.length : Int))), (24, .v (.int .i64 c239))], [some ⟨2, 94, [.ag [.v (.int .i64 y0), .rf 1 0 c240.length c240.length]], false⟩, some ⟨1, 3, (c240.map cdI.enc), false⟩, mk 1 50 (y2.map (cdL 1 (cdL 1 cdI)).enc), some ⟨1, 50, [.sl 1 (y3.map (cdL 1 cdI).enc)], false⟩, none]⟩ (fun e s => e = (.exit 4) ∧ WkY e_evening_Plan_k3 s ⟨Fr 42 [(0, .yl 4), (4, .sl 1 (v189.map cdI.enc)), (9, .sl 1 (y3.map (cdL 1 cdI).enc)), (10, .v (.int .i64 (y3.length : Int))), (11, .v (.int .i64 c186)), (15, .sl 1 (v189.map cdI.enc)), (16, .v (.int .i64 (v189.length : Int))), (17, .v (.int .i64 c222))], [some ⟨2, 94, [.ag [.v (.int .i64 y0), .rf 1 0 r.length r.length]], false⟩, some ⟨1, 3, (r.map cdI.enc), false⟩, mk 1 50 (y2.map (cdL 1 (cdL 1 cdI)).enc), some ⟨1, 50, [.sl 1 (y3.map (cdL 1 cdI).enc)], false⟩, none]⟩) := by
  intro f
  induction f with
  | zero => intro c239 c240 r h; cases h
  | succ f ih0 =>
    intro c239 c240 r h
    have ih := fun (c239 : Int) (c240 : (List Int)) => ih0 c239 c240 r
    unfold evening_Plan_k3_3 at h
    refine SemYN.succ ?_
    refine SemY.seq ?_
    refine SemY.region ?_
    refine RunY.segF (n := 42) e_evening_Plan_k3_ok 1 [(0, .yl 4), (4, .sl 1 (v189.map cdI.enc)), (5, .v (.int .i64 c222)), (6, .v (.int .i64 v225)), (9, .sl 1 (y3.map (cdL 1 cdI).enc)), (10, .v (.int .i64 (y3.length : Int))), (11, .v (.int .i64 c186)), (15, .sl 1 (v189.map cdI.enc)), (16, .v (.int .i64 (v189.length : Int))), (17, .v (.int .i64 c222)), (22, .sl 1 (v189.map cdI.enc)), (23, .v (.int .i64 (v189.length : Int))), (24, .v (.int .i64 c239)), (25, .v (.bool (decide (c239 < (v189.length : Int)))))] [some ⟨2, 94, [.ag [.v (.int .i64 y0), .rf 1 0 c240.length c240.length]], false⟩, some ⟨1, 3, (c240.map cdI.enc), false⟩, mk 1 50 (y2.map (cdL 1 (cdL 1 cdI)).enc), some ⟨1, 50, [.sl 1 (y3.map (cdL 1 cdI).enc)], false⟩, none] (by kernel_rfl) ?_
    refine RunY.done rfl (SemY.fr (l' := [(0, .yl 4), (4, .sl 1 (v189.map cdI.enc)), (5, .v (.int .i64 c222)), (6, .v (.int .i64 v225)), (9, .sl 1 (y3.map (cdL 1 cdI).enc)), (10, .v (.int .i64 (y3.length : Int))), (11, .v (.int .i64 c186)), (15, .sl 1 (v189.map cdI.enc)), (16, .v (.int .i64 (v189.length : Int))), (17, .v (.int .i64 c222)), (22, .sl 1 (v189.map cdI.enc)), (23, .v (.int .i64 (v189.length : Int))), (24, .v (.int .i64 c239)), (25, .v (.bool (decide (c239 < (v189.length : Int)))))]) (by kernel_rfl) ?_)
    refine SemY.seq ?_
    refine SemY.cond (b := (decide (c239 < (v189.length : Int)))) (by kernel_rfl) (fun hb241 => ?_) (fun hb241 => ?_)
    · rw [if_pos hb241] at h
      refine SemY.skip ?_
      refine SemY.seq ?_
      refine SemY.block ?_
      refine SemY.seq ?_
      refine SemY.region ?_
      refine RunY.segF (n := 42) e_evening_Plan_k3_ok 1 [(0, .yl 4), (4, .sl 1 (v189.map cdI.enc)), (5, .v (.int .i64 c222)), (6, .v (.int .i64 v225)), (9, .sl 1 (y3.map (cdL 1 cdI).enc)), (10, .v (.int .i64 (y3.length : Int))), (11, .v (.int .i64 c186)), (15, .sl 1 (v189.map cdI.enc)), (16, .v (.int .i64 (v189.length : Int))), (17, .v (.int .i64 c222)), (22, .sl 1 (v189.map cdI.enc)), (23, .v (.int .i64 (v189.length : Int))), (24, .v (.int .i64 c239)), (26, .v (.int .i64 c239))] [some ⟨2, 94, [.ag [.v (.int .i64 y0), .rf 1 0 c240.length c240.length]], false⟩, some ⟨1, 3, (c240.map cdI.enc), false⟩, mk 1 50 (y2.map (cdL 1 (cdL 1 cdI)).enc), some ⟨1, 50, [.sl 1 (y3.map (cdL 1 cdI).enc)], false⟩, none] (by kernel_rfl) ?_
      obtain ⟨v242, hv242, h⟩ := Option.bind_eq_some_iff.1 h
      refine RunY.one e_evening_Plan_k3_ok 0 rfl (op_q (wantedA_none rfl) rfl (q_indexAddr (a := .sl 1 (v189.map cdI.enc)) (b := .v (.int .i64 c239)) (by kernel_rfl) (by kernel_rfl) (ix_sl (e := cdI.enc) (el := 3) (k := 1) (ki := .i64) (by kernel_rfl) (by kernel_rfl) hv242))) ?_
      refine RunY.segF (n := 42) e_evening_Plan_k3_ok 3 [(0, .yl 4), (4, .sl 1 (v189.map cdI.enc)), (5, .v (.int .i64 c222)), (6, .v (.int .i64 v225)), (7, .v (.int .i64 c239)), (8, .v (.int .i64 v242)), (9, .sl 1 (y3.map (cdL 1 cdI).enc)), (10, .v (.int .i64 (y3.length : Int))), (11, .v (.int .i64 c186)), (15, .sl 1 (v189.map cdI.enc)), (16, .v (.int .i64 (v189.length : Int))), (17, .v (.int .i64 c222)), (22, .sl 1 (v189.map cdI.enc)), (23, .v (.int .i64 (v189.length : Int))), (24, .v (.int .i64 c239))] [some ⟨2, 94, [.ag [.v (.int .i64 y0), .rf 1 0 c240.length c240.length]], false⟩, some ⟨1, 3, (c240.map cdI.enc), false⟩, mk 1 50 (y2.map (cdL 1 (cdL 1 cdI)).enc), some ⟨1, 50, [.sl 1 (y3.map (cdL 1 cdI).enc)], false⟩, none] (by kernel_rfl) ?_
      refine RunY.done rfl (SemY.fr (l' := [(0, .yl 4), (4, .sl 1 (v189.map cdI.enc)), (5, .v (.int .i64 c222)), (6, .v (.int .i64 v225)), (7, .v (.int .i64 c239)), (8, .v (.int .i64 v242)), (9, .sl 1 (y3.map (cdL 1 cdI).enc)), (10, .v (.int .i64 (y3.length : Int))), (11, .v (.int .i64 c186)), (15, .sl 1 (v189.map cdI.enc)), (16, .v (.int .i64 (v189.length : Int))), (17, .v (.int .i64 c222)), (22, .sl 1 (v189.map cdI.enc)), (23, .v (.int .i64 (v189.length : Int))), (24, .v (.int .i64 c239))]) (by kernel_rfl) ?_)
      refine SemY.seq ?_
      refine SemY.region ?_
      refine RunY.segF (n := 42) e_evening_Plan_k3_ok 4 [(0, .yl 4), (4, .sl 1 (v189.map cdI.enc)), (5, .v (.int .i64 c222)), (6, .v (.int .i64 v225)), (8, .v (.int .i64 v242)), (9, .sl 1 (y3.map (cdL 1 cdI).enc)), (10, .v (.int .i64 (y3.length : Int))), (11, .v (.int .i64 c186)), (15, .sl 1 (v189.map cdI.enc)), (16, .v (.int .i64 (v189.length : Int))), (17, .v (.int .i64 c222)), (22, .sl 1 (v189.map cdI.enc)), (23, .v (.int .i64 (v189.length : Int))), (24, .v (.int .i64 c239)), (32, .v (.bool (c222 != c239)))] [some ⟨2, 94, [.ag [.v (.int .i64 y0), .rf 1 0 c240.length c240.length]], false⟩, some ⟨1, 3, (c240.map cdI.enc), false⟩, mk 1 50 (y2.map (cdL 1 (cdL 1 cdI)).enc), some ⟨1, 50, [.sl 1 (y3.map (cdL 1 cdI).enc)], false⟩, none] (by kernel_rfl) ?_
      rcases Bool.eq_false_or_eq_true (c222 != c239) with hc244 | hc244
      · rw [if_pos hc244] at h
        rw [hc244]
        refine RunY.segF (n := 42) e_evening_Plan_k3_ok 3 [(0, .yl 4), (4, .sl 1 (v189.map cdI.enc)), (5, .v (.int .i64 c222)), (6, .v (.int .i64 v225)), (9, .sl 1 (y3.map (cdL 1 cdI).enc)), (10, .v (.int .i64 (y3.length : Int))), (11, .v (.int .i64 c186)), (15, .sl 1 (v189.map cdI.enc)), (16, .v (.int .i64 (v189.length : Int))), (17, .v (.int .i64 c222)), (22, .sl 1 (v189.map cdI.enc)), (23, .v (.int .i64 (v189.length : Int))), (24, .v (.int .i64 c239)), (32, .v (.bool true)), (33, .yl 4), (34, .v (.int .i64 v225)), (35, .v (.int .i64 v242))] [some ⟨2, 94, [.ag [.v (.int .i64 y0), .rf 1 0 c240.length c240.length]], false⟩, some ⟨1, 3, (c240.map cdI.enc), false⟩, mk 1 50 (y2.map (cdL 1 (cdL 1 cdI)).enc), some ⟨1, 50, [.sl 1 (y3.map (cdL 1 cdI).enc)], false⟩, none] (by kernel_rfl) ?_
        obtain ⟨v243, hv243, h⟩ := Option.bind_eq_some_iff.1 h
        refine RunY.yield (K1 := fun h' => h' = [some ⟨2, 94, [.ag [.v (.int .i64 y0), .rf 1 0 v243.length v243.length]], false⟩, some ⟨1, 3, (v243.map cdI.enc), false⟩, mk 1 50 (y2.map (cdL 1 (cdL 1 cdI)).enc), some ⟨1, 50, [.sl 1 (y3.map (cdL 1 cdI).enc)], false⟩, none]) rfl rfl (eb := e_evening_Plan) rfl rfl rfl rfl rfl (by kernel_rfl) (by kernel_rfl) (xs := [.v (.int .i64 v225), .v (.int .i64 v242)]) (by kernel_rfl) rfl rfl (evening_Plan_k3_y_sem y0 c240 y2 y3 y4 y5 y6 y7 y8 v225 v242 _ hv243) ?_
        rintro h' rfl
        refine RunY.segF (n := 42) e_evening_Plan_k3_ok 2 [(0, .yl 4), (4, .sl 1 (v189.map cdI.enc)), (5, .v (.int .i64 c222)), (6, .v (.int .i64 v225)), (9, .sl 1 (y3.map (cdL 1 cdI).enc)), (10, .v (.int .i64 (y3.length : Int))), (11, .v (.int .i64 c186)), (15, .sl 1 (v189.map cdI.enc)), (16, .v (.int .i64 (v189.length : Int))), (17, .v (.int .i64 c222)), (22, .sl 1 (v189.map cdI.enc)), (23, .v (.int .i64 (v189.length : Int))), (24, .v (.int .i64 c239)), (33, .yl 4), (34, .v (.int .i64 v225)), (35, .v (.int .i64 v242)), (36, .v (.bool true)), (37, .v (.bool false)), (38, .v (.bool false))] [some ⟨2, 94, [.ag [.v (.int .i64 y0), .rf 1 0 v243.length v243.length]], false⟩, some ⟨1, 3, (v243.map cdI.enc), false⟩, mk 1 50 (y2.map (cdL 1 (cdL 1 cdI)).enc), some ⟨1, 50, [.sl 1 (y3.map (cdL 1 cdI).enc)], false⟩, none] (by kernel_rfl) ?_
        refine RunY.done rfl (SemY.fr (l' := [(0, .yl 4), (4, .sl 1 (v189.map cdI.enc)), (5, .v (.int .i64 c222)), (6, .v (.int .i64 v225)), (9, .sl 1 (y3.map (cdL 1 cdI).enc)), (10, .v (.int .i64 (y3.length : Int))), (11, .v (.int .i64 c186)), (15, .sl 1 (v189.map cdI.enc)), (16, .v (.int .i64 (v189.length : Int))), (17, .v (.int .i64 c222)), (22, .sl 1 (v189.map cdI.enc)), (23, .v (.int .i64 (v189.length : Int))), (24, .v (.int .i64 c239)), (33, .yl 4), (34, .v (.int .i64 v225)), (35, .v (.int .i64 v242)), (36, .v (.bool true)), (37, .v (.bool false)), (38, .v (.bool false))]) (by kernel_rfl) ?_)
        refine SemY.cond_false (by kernel_rfl) ?_
        refine SemY.skip ?_
        refine SemY.region ?_
        refine RunY.segF (n := 42) e_evening_Plan_k3_ok 2 [(0, .yl 4), (4, .sl 1 (v189.map cdI.enc)), (5, .v (.int .i64 c222)), (6, .v (.int .i64 v225)), (9, .sl 1 (y3.map (cdL 1 cdI).enc)), (10, .v (.int .i64 (y3.length : Int))), (11, .v (.int .i64 c186)), (15, .sl 1 (v189.map cdI.enc)), (16, .v (.int .i64 (v189.length : Int))), (17, .v (.int .i64 c222)), (22, .sl 1 (v189.map cdI.enc)), (23, .v (.int .i64 (v189.length : Int))), (24, .v (.int .i64 (wr .i64 (c239 + 1)))), (33, .yl 4), (34, .v (.int .i64 v225)), (35, .v (.int .i64 v242)), (36, .v (.bool true)), (37, .v (.bool false))] [some ⟨2, 94, [.ag [.v (.int .i64 y0), .rf 1 0 v243.length v243.length]], false⟩, some ⟨1, 3, (v243.map cdI.enc), false⟩, mk 1 50 (y2.map (cdL 1 (cdL 1 cdI)).enc), some ⟨1, 50, [.sl 1 (y3.map (cdL 1 cdI).enc)], false⟩, none] (by kernel_rfl) ?_
        refine RunY.done rfl ?_
        exact SemYN.wk (s1 := ⟨Fr 42 [(0, .yl 4), (4, .sl 1 (v189.map cdI.enc)), (5, .v (.int .i64 c222)), (6, .v (.int .i64 v225)), (9, .sl 1 (y3.map (cdL 1 cdI).enc)), (10, .v (.int .i64 (y3.length : Int))), (11, .v (.int .i64 c186)), (15, .sl 1 (v189.map cdI.enc)), (16, .v (.int .i64 (v189.length : Int))), (17, .v (.int .i64 c222)), (22, .sl 1 (v189.map cdI.enc)), (23, .v (.int .i64 (v189.length : Int))), (24, .v (.int .i64 (wr .i64 (c239 + 1))))], [some ⟨2, 94, [.ag [.v (.int .i64 y0), .rf 1 0 v243.length v243.length]], false⟩, some ⟨1, 3, (v243.map cdI.enc), false⟩, mk 1 50 (y2.map (cdL 1 (cdL 1 cdI)).enc), some ⟨1, 50, [.sl 1 (y3.map (cdL 1 cdI).enc)], false⟩, none]⟩) (WkY.fr (by kernel_rfl)) (ih (wr .i64 (c239 + 1)) v243 h)
      · rw [if_f hc244] at h
        rw [hc244]
        refine RunY.segF (n := 42) e_evening_Plan_k3_ok 6 [(0, .yl 4), (4, .sl 1 (v189.map cdI.enc)), (5, .v (.int .i64 c222)), (6, .v (.int .i64 v225)), (9, .sl 1 (y3.map (cdL 1 cdI).enc)), (10, .v (.int .i64 (y3.length : Int))), (11, .v (.int .i64 c186)), (15, .sl 1 (v189.map cdI.enc)), (16, .v (.int .i64 (v189.length : Int))), (17, .v (.int .i64 c222)), (22, .sl 1 (v189.map cdI.enc)), (23, .v (.int .i64 (v189.length : Int))), (24, .v (.int .i64 c239)), (33, .tp []), (34, .tp []), (35, .tp []), (36, .tp []), (37, .tp []), (38, .v (.bool false))] [some ⟨2, 94, [.ag [.v (.int .i64 y0), .rf 1 0 c240.length c240.length]], false⟩, some ⟨1, 3, (c240.map cdI.enc), false⟩, mk 1 50 (y2.map (cdL 1 (cdL 1 cdI)).enc), some ⟨1, 50, [.sl 1 (y3.map (cdL 1 cdI).enc)], false⟩, none] (by kernel_rfl) ?_
        refine RunY.done rfl (SemY.fr (l' := [(0, .yl 4), (4, .sl 1 (v189.map cdI.enc)), (5, .v (.int .i64 c222)), (6, .v (.int .i64 v225)), (9, .sl 1 (y3.map (cdL 1 cdI).enc)), (10, .v (.int .i64 (y3.length : Int))), (11, .v (.int .i64 c186)), (15, .sl 1 (v189.map cdI.enc)), (16, .v (.int .i64 (v189.length : Int))), (17, .v (.int .i64 c222)), (22, .sl 1 (v189.map cdI.enc)), (23, .v (.int .i64 (v189.length : Int))), (24, .v (.int .i64 c239)), (33, .tp []), (34, .tp []), (35, .tp []), (36, .tp []), (37, .tp []), (38, .v (.bool false))]) (by kernel_rfl) ?_)
        refine SemY.cond_false (by kernel_rfl) ?_
        refine SemY.skip ?_
        refine SemY.region ?_
        refine RunY.segF (n := 42) e_evening_Plan_k3_ok 2 [(0, .yl 4), (4, .sl 1 (v189.map cdI.enc)), (5, .v (.int .i64 c222)), (6, .v (.int .i64 v225)), (9, .sl 1 (y3.map (cdL 1 cdI).enc)), (10, .v (.int .i64 (y3.length : Int))), (11, .v (.int .i64 c186)), (15, .sl 1 (v189.map cdI.enc)), (16, .v (.int .i64 (v189.length : Int))), (17, .v (.int .i64 c222)), (22, .sl 1 (v189.map cdI.enc)), (23, .v (.int .i64 (v189.length : Int))), (24, .v (.int .i64 (wr .i64 (c239 + 1)))), (33, .tp []), (34, .tp []), (35, .tp []), (36, .tp []), (37, .tp [])] [some ⟨2, 94, [.ag [.v (.int .i64 y0), .rf 1 0 c240.length c240.length]], false⟩, some ⟨1, 3, (c240.map cdI.enc), false⟩, mk 1 50 (y2.map (cdL 1 (cdL 1 cdI)).enc), some ⟨1, 50, [.sl 1 (y3.map (cdL 1 cdI).enc)], false⟩, none] (by kernel_rfl) ?_
        refine RunY.done rfl ?_
        exact SemYN.wk (s1 := ⟨Fr 42 [(0, .yl 4), (4, .sl 1 (v189.map cdI.enc)), (5, .v (.int .i64 c222)), (6, .v (.int .i64 v225)), (9, .sl 1 (y3.map (cdL 1 cdI).enc)), (10, .v (.int .i64 (y3.length : Int))), (11, .v (.int .i64 c186)), (15, .sl 1 (v189.map cdI.enc)), (16, .v (.int .i64 (v189.length : Int))), (17, .v (.int .i64 c222)), (22, .sl 1 (v189.map cdI.enc)), (23, .v (.int .i64 (v189.length : Int))), (24, .v (.int .i64 (wr .i64 (c239 + 1))))], [some ⟨2, 94, [.ag [.v (.int .i64 y0), .rf 1 0 c240.length c240.length]], false⟩, some ⟨1, 3, (c240.map cdI.enc), false⟩, mk 1 50 (y2.map (cdL 1 (cdL 1 cdI)).enc), some ⟨1, 50, [.sl 1 (y3.map (cdL 1 cdI).enc)], false⟩, none]⟩) (WkY.fr (by kernel_rfl)) (ih (wr .i64 (c239 + 1)) c240 h)
    · rw [if_f hb241] at h
      refine SemY.exit ?_
      have hq := Option.some.inj h; subst hq
      exact ⟨rfl, (WkY.fr (by kernel_rfl))⟩
set_option maxHeartbeats 4000000 in
set_option maxRecDepth 100000 in
theorem evening_Plan_k3_2_ok (y0 : Int) (y2 : (List (List (List Int)))) (y3 : (List (List Int))) (y4 : Int) (y5 : (List Int)) (y6 : (List (List Int))) (y7 : Int) (y8 : Int) (c186 : Int) (v189 : (List Int)) : ∀ (f : Nat) (c222 : Int) (c223 : (List Int)) (r : ((List Int))), evening_Plan_k3_2 y0 y2 y3 y4 y5 y6 y7 y8 c186 v189 f c222 c223 = some r → SemYN e_evening_Plan_k3 (cx_evening_Plan_k3 y2 y4 y5 y6 y7 y8) (pc cb_evening_Plan_k3 [1, 0, 0, 1, 1, 0, 0, 1, 1, 0, 0]) f ⟨Fr 42 [(0, .yl 4), (4, .sl 1 (v189.map cdI.enc)), (9, .sl 1 (y3.map (cdL 1 cdI).enc)), (10, .v (.int .i64 (y3.length : Int))), (11, .v (.int .i64 c186)), (15, .sl 1 (v189.map cdI.enc)), (16, .v (.int .i64 (v189.length : Int))), (17, .v (.int .i64 c222))], [some ⟨2, 94, [.ag [.v (.int .i64 y0), .rf 1 0 c223.length c223.length]], false⟩, some ⟨1, 3, (c223.map cdI.enc), false⟩, mk 1 50 (y2.map (cdL 1 (cdL 1 cdI)).enc), some ⟨1, 50, [.sl 1 (y3.map (cdL 1 cdI).enc)], false⟩, none]⟩ (fun e s => e = (.exit 2) ∧ WkY e_evening_Plan_k3 s ⟨Fr 42 [(0, .yl 4), (9, .sl 1 (y3.map (cdL 1 cdI).enc)), (10, .v (.int .i64 (y3.length : Int))), (11, .v (.int .i64 c186))], [some ⟨2, 94, [.ag [.v (.int .i64 y0), .rf 1 0 r.length r.length]], false⟩, some ⟨1, 3, (r.map cdI.enc), false⟩, mk 1 50 (y2.map (cdL 1 (cdL 1 cdI)).enc), some ⟨1, 50, [.sl 1 (y3.map (cdL 1 cdI).enc)], false⟩, none]⟩) := by
  intro f
  induction f with
  | zero => intro c222 c223 r h; cases h
  | succ f ih0 =>
    intro c222 c223 r h
    have ih := fun (c222 : Int) (c223 : (List Int)) => ih0 c222 c223 r
    unfold evening_Plan_k3_2 at h
    refine SemYN.succ ?_
    refine SemY.seq ?_
    refine SemY.region ?_
    refine RunY.segF (n := 42) e_evening_Plan_k3_ok 1 [(0, .yl 4), (4, .sl 1 (v189.map cdI.enc)), (9, .sl 1 (y3.map (cdL 1 cdI).enc)), (10, .v (.int .i64 (y3.length : Int))), (11, .v (.int .i64 c186)), (15, .sl 1 (v189.map cdI.enc)), (16, .v (.int .i64 (v189.length : Int))), (17, .v (.int .i64 c222)), (18, .v (.bool (decide (c222 < (v189.length : Int)))))] [some ⟨2, 94, [.ag [.v (.int .i64 y0), .rf 1 0 c223.length c223.length]], false⟩, some ⟨1, 3, (c223.map cdI.enc), false⟩, mk 1 50 (y2.map (cdL 1 (cdL 1 cdI)).enc), some ⟨1, 50, [.sl 1 (y3.map (cdL 1 cdI).enc)], false⟩, none] (by kernel_rfl) ?_
    refine RunY.done rfl (SemY.fr (l' := [(0, .yl 4), (4, .sl 1 (v189.map cdI.enc)), (9, .sl 1 (y3.map (cdL 1 cdI).enc)), (10, .v (.int .i64 (y3.length : Int))), (11, .v (.int .i64 c186)), (15, .sl 1 (v189.map cdI.enc)), (16, .v (.int .i64 (v189.length : Int))), (17, .v (.int .i64 c222)), (18, .v (.bool (decide (c222 < (v189.length : Int)))))]) (by kernel_rfl) ?_)
    refine SemY.seq ?_
    refine SemY.cond (b := (decide (c222 < (v189.length : Int)))) (by kernel_rfl) (fun hb224 => ?_) (fun hb224 => ?_)
    · rw [if_pos hb224] at h
      refine SemY.skip ?_
      refine SemY.seq ?_
      refine SemY.block ?_
      refine SemY.seq ?_
      refine SemY.region ?_
      refine RunY.segF (n := 42) e_evening_Plan_k3_ok 1 [(0, .yl 4), (4, .sl 1 (v189.map cdI.enc)), (9, .sl 1 (y3.map (cdL 1 cdI).enc)), (10, .v (.int .i64 (y3.length : Int))), (11, .v (.int .i64 c186)), (15, .sl 1 (v189.map cdI.enc)), (16, .v (.int .i64 (v189.length : Int))), (17, .v (.int .i64 c222)), (19, .v (.int .i64 c222))] [some ⟨2, 94, [.ag [.v (.int .i64 y0), .rf 1 0 c223.length c223.length]], false⟩, some ⟨1, 3, (c223.map cdI.enc), false⟩, mk 1 50 (y2.map (cdL 1 (cdL 1 cdI)).enc), some ⟨1, 50, [.sl 1 (y3.map (cdL 1 cdI).enc)], false⟩, none] (by kernel_rfl) ?_
      obtain ⟨v225, hv225, h⟩ := Option.bind_eq_some_iff.1 h
      refine RunY.one e_evening_Plan_k3_ok 0 rfl (op_q (wantedA_none rfl) rfl (q_indexAddr (a := .sl 1 (v189.map cdI.enc)) (b := .v (.int .i64 c222)) (by kernel_rfl) (by kernel_rfl) (ix_sl (e := cdI.enc) (el := 3) (k := 1) (ki := .i64) (by kernel_rfl) (by kernel_rfl) hv225))) ?_
      refine RunY.segF (n := 42) e_evening_Plan_k3_ok 3 [(0, .yl 4), (4, .sl 1 (v189.map cdI.enc)), (5, .v (.int .i64 c222)), (6, .v (.int .i64 v225)), (9, .sl 1 (y3.map (cdL 1 cdI).enc)), (10, .v (.int .i64 (y3.length : Int))), (11, .v (.int .i64 c186)), (15, .sl 1 (v189.map cdI.enc)), (16, .v (.int .i64 (v189.length : Int))), (17, .v (.int .i64 c222))] [some ⟨2, 94, [.ag [.v (.int .i64 y0), .rf 1 0 c223.length c223.length]], false⟩, some ⟨1, 3, (c223.map cdI.enc), false⟩, mk 1 50 (y2.map (cdL 1 (cdL 1 cdI)).enc), some ⟨1, 50, [.sl 1 (y3.map (cdL 1 cdI).enc)], false⟩, none] (by kernel_rfl) ?_
      refine RunY.done rfl (SemY.fr (l' := [(0, .yl 4), (4, .sl 1 (v189.map cdI.enc)), (5, .v (.int .i64 c222)), (6, .v (.int .i64 v225)), (9, .sl 1 (y3.map (cdL 1 cdI).enc)), (10, .v (.int .i64 (y3.length : Int))), (11, .v (.int .i64 c186)), (15, .sl 1 (v189.map cdI.enc)), (16, .v (.int .i64 (v189.length : Int))), (17, .v (.int .i64 c222))]) (by kernel_rfl) ?_)
      refine SemY.seq ?_
      refine SemY.region ?_
      refine RunY.segF (n := 42) e_evening_Plan_k3_ok 1 [(0, .yl 4), (4, .sl 1 (v189.map cdI.enc)), (5, .v (.int .i64 c222)), (6, .v (.int .i64 v225)), (9, .sl 1 (y3.map (cdL 1 cdI).enc)), (10, .v (.int .i64 (y3.length : Int))), (11, .v (.int .i64 c186)), (15, .sl 1 (v189.map cdI.enc)), (16, .v (.int .i64 (v189.length : Int))), (17, .v (.int .i64 c222)), (22, .sl 1 (v189.map cdI.enc))] [some ⟨2, 94, [.ag [.v (.int .i64 y0), .rf 1 0 c223.length c223.length]], false⟩, some ⟨1, 3, (c223.map cdI.enc), false⟩, mk 1 50 (y2.map (cdL 1 (cdL 1 cdI)).enc), some ⟨1, 50, [.sl 1 (y3.map (cdL 1 cdI).enc)], false⟩, none] (by kernel_rfl) ?_
      refine RunY.one e_evening_Plan_k3_ok 0 rfl (op_q (wantedA_none rfl) rfl (q_len (a := .sl 1 (v189.map cdI.enc)) (by kernel_rfl) (len_sl (el := 3) (by kernel_rfl)))) ?_
      refine RunY.segF (n := 42) e_evening_Plan_k3_ok 1 [(0, .yl 4), (4, .sl 1 (v189.map cdI.enc)), (5, .v (.int .i64 c222)), (6, .v (.int .i64 v225)), (9, .sl 1 (y3.map (cdL 1 cdI).enc)), (10, .v (.int .i64 (y3.length : Int))), (11, .v (.int .i64 c186)), (15, .sl 1 (v189.map cdI.enc)), (16, .v (.int .i64 (v189.length : Int))), (17, .v (.int .i64 c222)), (22, .sl 1 (v189.map cdI.enc)), (23, .v (.int .i64 (v189.length : Int))), (24, .v (.int .i64 0))] [some ⟨2, 94, [.ag [.v (.int .i64 y0), .rf 1 0 c223.length c223.length]], false⟩, some ⟨1, 3, (c223.map cdI.enc), false⟩, mk 1 50 (y2.map (cdL 1 (cdL 1 cdI)).enc), some ⟨1, 50, [.sl 1 (y3.map (cdL 1 cdI).enc)], false⟩, none] (by kernel_rfl) ?_
      refine RunY.done rfl (SemY.fr (l' := [(0, .yl 4), (4, .sl 1 (v189.map cdI.enc)), (5, .v (.int .i64 c222)), (6, .v (.int .i64 v225)), (9, .sl 1 (y3.map (cdL 1 cdI).enc)), (10, .v (.int .i64 (y3.length : Int))), (11, .v (.int .i64 c186)), (15, .sl 1 (v189.map cdI.enc)), (16, .v (.int .i64 (v189.length : Int))), (17, .v (.int .i64 c222)), (22, .sl 1 (v189.map cdI.enc)), (23, .v (.int .i64 (v189.length : Int))), (24, .v (.int .i64 0))]) (by kernel_rfl) ?_)
      refine SemY.block ?_
      obtain ⟨r246, hr246, h⟩ := Option.bind_eq_some_iff.1 h
      refine SemY.loop (n := 100000) ?_
      refine SemY.cutN (SemYN.wk (s1 := ⟨Fr 42 [(0, .yl 4), (4, .sl 1 (v189.map cdI.enc)), (5, .v (.int .i64 c222)), (6, .v (.int .i64 v225)), (9, .sl 1 (y3.map (cdL 1 cdI).enc)), (10, .v (.int .i64 (y3.length : Int))), (11, .v (.int .i64 c186)), (15, .sl 1 (v189.map cdI.enc)), (16, .v (.int .i64 (v189.length : Int))), (17, .v (.int .i64 c222)), (22, .sl 1 (v189.map cdI.enc)), (23, .v (.int .i64 (v189.length : Int))), (24, .v (.int .i64 0))], [some ⟨2, 94, [.ag [.v (.int .i64 y0), .rf 1 0 c223.length c223.length]], false⟩, some ⟨1, 3, (c223.map cdI.enc), false⟩, mk 1 50 (y2.map (cdL 1 (cdL 1 cdI)).enc), some ⟨1, 50, [.sl 1 (y3.map (cdL 1 cdI).enc)], false⟩, none]⟩) (WkY.fr (by kernel_rfl)) (evening_Plan_k3_3_ok y0 y2 y3 y4 y5 y6 y7 y8 c186 v189 c222 v225 _ 0 c223 _ hr246)) ?_
      refine SemY.region ?_
      refine RunY.segF (n := 42) e_evening_Plan_k3_ok 2 [(0, .yl 4), (4, .sl 1 (v189.map cdI.enc)), (9, .sl 1 (y3.map (cdL 1 cdI).enc)), (10, .v (.int .i64 (y3.length : Int))), (11, .v (.int .i64 c186)), (15, .sl 1 (v189.map cdI.enc)), (16, .v (.int .i64 (v189.length : Int))), (17, .v (.int .i64 (wr .i64 (c222 + 1))))] [some ⟨2, 94, [.ag [.v (.int .i64 y0), .rf 1 0 r246.length r246.length]], false⟩, some ⟨1, 3, (r246.map cdI.enc), false⟩, mk 1 50 (y2.map (cdL 1 (cdL 1 cdI)).enc), some ⟨1, 50, [.sl 1 (y3.map (cdL 1 cdI).enc)], false⟩, none] (by kernel_rfl) ?_
      refine RunY.done rfl ?_
      exact SemYN.wk (s1 := ⟨Fr 42 [(0, .yl 4), (4, .sl 1 (v189.map cdI.enc)), (9, .sl 1 (y3.map (cdL 1 cdI).enc)), (10, .v (.int .i64 (y3.length : Int))), (11, .v (.int .i64 c186)), (15, .sl 1 (v189.map cdI.enc)), (16, .v (.int .i64 (v189.length : Int))), (17, .v (.int .i64 (wr .i64 (c222 + 1))))], [some ⟨2, 94, [.ag [.v (.int .i64 y0), .rf 1 0 r246.length r246.length]], false⟩, some ⟨1, 3, (r246.map cdI.enc), false⟩, mk 1 50 (y2.map (cdL 1 (cdL 1 cdI)).enc), some ⟨1, 50, [.sl 1 (y3.map (cdL 1 cdI).enc)], false⟩, none]⟩) (WkY.fr (by kernel_rfl)) (ih (wr .i64 (c222 + 1)) r246 h)
    · rw [if_f hb224] at h
      refine SemY.exit ?_
      have hq := Option.some.inj h; subst hq
      exact ⟨rfl, (WkY.fr (by kernel_rfl))⟩
set_option maxHeartbeats 4000000 in
set_option maxRecDepth 100000 in
theorem evening_Plan_k3_1_ok (y0 : Int) (y2 : (List (List (List Int)))) (y3 : (List (List Int))) (y4 : Int) (y5 : (List Int)) (y6 : (List (List Int))) (y7 : Int) (y8 : Int) : ∀ (f : Nat) (c186 : Int) (c187 : (List Int)) (r : ((List Int))), evening_Plan_k3_1 y0 y2 y3 y4 y5 y6 y7 y8 f c186 c187 = some r → SemYN e_evening_Plan_k3 (cx_evening_Plan_k3 y2 y4 y5 y6 y7 y8) (pc cb_evening_Plan_k3 [1, 0, 0]) f ⟨Fr 42 [(0, .yl 4), (9, .sl 1 (y3.map (cdL 1 cdI).enc)), (10, .v (.int .i64 (y3.length : Int))), (11, .v (.int .i64 c186))], [some ⟨2, 94, [.ag [.v (.int .i64 y0), .rf 1 0 c187.length c187.length]], false⟩, some ⟨1, 3, (c187.map cdI.enc), false⟩, mk 1 50 (y2.map (cdL 1 (cdL 1 cdI)).enc), some ⟨1, 50, [.sl 1 (y3.map (cdL 1 cdI).enc)], false⟩, none]⟩ (fun e s => e = (.exit 0) ∧ WkY e_evening_Plan_k3 s ⟨Fr 42 [], [some ⟨2, 94, [.ag [.v (.int .i64 y0), .rf 1 0 r.length r.length]], false⟩, some ⟨1, 3, (r.map cdI.enc), false⟩, mk 1 50 (y2.map (cdL 1 (cdL 1 cdI)).enc), some ⟨1, 50, [.sl 1 (y3.map (cdL 1 cdI).enc)], false⟩, none]⟩) := by
  intro f
  induction f with
  | zero => intro c186 c187 r h; cases h
  | succ f ih0 =>
    intro c186 c187 r h
    have ih := fun (c186 : Int) (c187 : (List Int)) => ih0 c186 c187 r
    unfold evening_Plan_k3_1 at h
    refine SemYN.succ ?_
    refine SemY.seq ?_
    refine SemY.region ?_
    refine RunY.segF (n := 42) e_evening_Plan_k3_ok 1 [(0, .yl 4), (9, .sl 1 (y3.map (cdL 1 cdI).enc)), (10, .v (.int .i64 (y3.length : Int))), (11, .v (.int .i64 c186)), (12, .v (.bool (decide (c186 < (y3.length : Int)))))] [some ⟨2, 94, [.ag [.v (.int .i64 y0), .rf 1 0 c187.length c187.length]], false⟩, some ⟨1, 3, (c187.map cdI.enc), false⟩, mk 1 50 (y2.map (cdL 1 (cdL 1 cdI)).enc), some ⟨1, 50, [.sl 1 (y3.map (cdL 1 cdI).enc)], false⟩, none] (by kernel_rfl) ?_
    refine RunY.done rfl (SemY.fr (l' := [(0, .yl 4), (9, .sl 1 (y3.map (cdL 1 cdI).enc)), (10, .v (.int .i64 (y3.length : Int))), (11, .v (.int .i64 c186)), (12, .v (.bool (decide (c186 < (y3.length : Int)))))]) (by kernel_rfl) ?_)
    refine SemY.seq ?_
    refine SemY.cond (b := (decide (c186 < (y3.length : Int)))) (by kernel_rfl) (fun hb188 => ?_) (fun hb188 => ?_)
    · rw [if_pos hb188] at h
      refine SemY.skip ?_
      refine SemY.seq ?_
      refine SemY.block ?_
      refine SemY.seq ?_
      refine SemY.region ?_
      obtain ⟨v189, hv189, h⟩ := Option.bind_eq_some_iff.1 h
      refine RunY.one e_evening_Plan_k3_ok 0 rfl (op_q (wantedA_none rfl) rfl (q_indexAddr (a := .sl 1 (y3.map (cdL 1 cdI).enc)) (b := .v (.int .i64 c186)) (by kernel_rfl) (by kernel_rfl) (ix_sl (e := (cdL 1 cdI).enc) (el := 31) (k := 1) (ki := .i64) (by kernel_rfl) (by kernel_rfl) hv189))) ?_
      refine RunY.segF (n := 42) e_evening_Plan_k3_ok 2 [(0, .yl 4), (4, .sl 1 (v189.map cdI.enc)), (9, .sl 1 (y3.map (cdL 1 cdI).enc)), (10, .v (.int .i64 (y3.length : Int))), (11, .v (.int .i64 c186))] [some ⟨2, 94, [.ag [.v (.int .i64 y0), .rf 1 0 c187.length c187.length]], false⟩, some ⟨1, 3, (c187.map cdI.enc), false⟩, mk 1 50 (y2.map (cdL 1 (cdL 1 cdI)).enc), some ⟨1, 50, [.sl 1 (y3.map (cdL 1 cdI).enc)], false⟩, none] (by kernel_rfl) ?_
      refine RunY.done rfl (SemY.fr (l' := [(0, .yl 4), (4, .sl 1 (v189.map cdI.enc)), (9, .sl 1 (y3.map (cdL 1 cdI).enc)), (10, .v (.int .i64 (y3.length : Int))), (11, .v (.int .i64 c186))]) (by kernel_rfl) ?_)
      refine SemY.seq ?_
      refine SemY.region ?_
      refine RunY.segF (n := 42) e_evening_Plan_k3_ok 1 [(0, .yl 4), (4, .sl 1 (v189.map cdI.enc)), (9, .sl 1 (y3.map (cdL 1 cdI).enc)), (10, .v (.int .i64 (y3.length : Int))), (11, .v (.int .i64 c186)), (15, .sl 1 (v189.map cdI.enc))] [some ⟨2, 94, [.ag [.v (.int .i64 y0), .rf 1 0 c187.length c187.length]], false⟩, some ⟨1, 3, (c187.map cdI.enc), false⟩, mk 1 50 (y2.map (cdL 1 (cdL 1 cdI)).enc), some ⟨1, 50, [.sl 1 (y3.map (cdL 1 cdI).enc)], false⟩, none] (by kernel_rfl) ?_
      refine RunY.one e_evening_Plan_k3_ok 0 rfl (op_q (wantedA_none rfl) rfl (q_len (a := .sl 1 (v189.map cdI.enc)) (by kernel_rfl) (len_sl (el := 3) (by kernel_rfl)))) ?_
      refine RunY.segF (n := 42) e_evening_Plan_k3_ok 1 [(0, .yl 4), (4, .sl 1 (v189.map cdI.enc)), (9, .sl 1 (y3.map (cdL 1 cdI).enc)), (10, .v (.int .i64 (y3.length : Int))), (11, .v (.int .i64 c186)), (15, .sl 1 (v189.map cdI.enc)), (16, .v (.int .i64 (v189.length : Int))), (17, .v (.int .i64 0))] [some ⟨2, 94, [.ag [.v (.int .i64 y0), .rf 1 0 c187.length c187.length]], false⟩, some ⟨1, 3, (c187.map cdI.enc), false⟩, mk 1 50 (y2.map (cdL 1 (cdL 1 cdI)).enc), some ⟨1, 50, [.sl 1 (y3.map (cdL 1 cdI).enc)], false⟩, none] (by kernel_rfl) ?_
      refine RunY.done rfl (SemY.fr (l' := [(0, .yl 4), (4, .sl 1 (v189.map cdI.enc)), (9, .sl 1 (y3.map (cdL 1 cdI).enc)), (10, .v (.int .i64 (y3.length : Int))), (11, .v (.int .i64 c186)), (15, .sl 1 (v189.map cdI.enc)), (16, .v (.int .i64 (v189.length : Int))), (17, .v (.int .i64 0))]) (by kernel_rfl) ?_)
      refine SemY.block ?_
      obtain ⟨r248, hr248, h⟩ := Option.bind_eq_some_iff.1 h
      refine SemY.loop (n := 100000) ?_
      refine SemY.cutN (SemYN.wk (s1 := ⟨Fr 42 [(0, .yl 4), (4, .sl 1 (v189.map cdI.enc)), (9, .sl 1 (y3.map (cdL 1 cdI).enc)), (10, .v (.int .i64 (y3.length : Int))), (11, .v (.int .i64 c186)), (15, .sl 1 (v189.map cdI.enc)), (16, .v (.int .i64 (v189.length : Int))), (17, .v (.int .i64 0))], [some ⟨2, 94, [.ag [.v (.int .i64 y0), .rf 1 0 c187.length c187.length]], false⟩, some ⟨1, 3, (c187.map cdI.enc), false⟩, mk 1 50 (y2.map (cdL 1 (cdL 1 cdI)).enc), some ⟨1, 50, [.sl 1 (y3.map (cdL 1 cdI).enc)], false⟩, none]⟩) (WkY.fr (by kernel_rfl)) (evening_Plan_k3_2_ok y0 y2 y3 y4 y5 y6 y7 y8 c186 v189 _ 0 c187 _ hr248)) ?_
      refine SemY.region ?_
      refine RunY.segF (n := 42) e_evening_Plan_k3_ok 2 [(0, .yl 4), (9, .sl 1 (y3.map (cdL 1 cdI).enc)), (10, .v (.int .i64 (y3.length : Int))), (11, .v (.int .i64 (wr .i64 (c186 + 1))))] [some ⟨2, 94, [.ag [.v (.int .i64 y0), .rf 1 0 r248.length r248.length]], false⟩, some ⟨1, 3, (r248.map cdI.enc), false⟩, mk 1 50 (y2.map (cdL 1 (cdL 1 cdI)).enc), some ⟨1, 50, [.sl 1 (y3.map (cdL 1 cdI).enc)], false⟩, none] (by kernel_rfl) ?_
      refine RunY.done rfl ?_
      exact SemYN.wk (s1 := ⟨Fr 42 [(0, .yl 4), (9, .sl 1 (y3.map (cdL 1 cdI).enc)), (10, .v (.int .i64 (y3.length : Int))), (11, .v (.int .i64 (wr .i64 (c186 + 1))))], [some ⟨2, 94, [.ag [.v (.int .i64 y0), .rf 1 0 r248.length r248.length]], false⟩, some ⟨1, 3, (r248.map cdI.enc), false⟩, mk 1 50 (y2.map (cdL 1 (cdL 1 cdI)).enc), some ⟨1, 50, [.sl 1 (y3.map (cdL 1 cdI).enc)], false⟩, none]⟩) (WkY.fr (by kernel_rfl)) (ih (wr .i64 (c186 + 1)) r248 h)
    · rw [if_f hb188] at h
      refine SemY.exit ?_
      have hq := Option.some.inj h; subst hq
      exact ⟨rfl, (WkY.fr (by kernel_rfl))⟩
set_option maxHeartbeats 4000000 in
set_option maxRecDepth 100000 in
theorem evening_Plan_k3_sem (y0 : Int) (y1 : (List Int)) (y2 : (List (List (List Int)))) (y3 : (List (List Int))) (y4 : Int) (y5 : (List Int)) (y6 : (List (List Int))) (y7 : Int) (y8 : Int) (r : (List Int)) (h : evening_Plan_k3 y0 y1 y2 y3 y4 y5 y6 y7 y8 = some r) : SemY e_evening_Plan_k3 (cx_evening_Plan_k3 y2 y4 y5 y6 y7 y8) cb_evening_Plan_k3 ⟨Fr 42 (pairs0 0 [.yl 4, .pt 3 0 0]), [some ⟨2, 94, [.ag [.v (.int .i64 y0), .rf 1 0 y1.length y1.length]], false⟩, some ⟨1, 3, (y1.map cdI.enc), false⟩, mk 1 50 (y2.map (cdL 1 (cdL 1 cdI)).enc), some ⟨1, 50, [.sl 1 (y3.map (cdL 1 cdI).enc)], false⟩, none]⟩ fun x s' => (x = .normal ∨ x = .ret) ∧ ∃ ys, resA e_evening_Plan_k3.P s'.fr s'.hp Tryd.f108.results.toList = some ys ∧ (retA ys = .tp [] ∧ s'.hp = [some ⟨2, 94, [.ag [.v (.int .i64 y0), .rf 1 0 r.length r.length]], false⟩, some ⟨1, 3, (r.map cdI.enc), false⟩, mk 1 50 (y2.map (cdL 1 (cdL 1 cdI)).enc), some ⟨1, 50, [.sl 1 (y3.map (cdL 1 cdI).enc)], false⟩, none]) := by
  unfold evening_Plan_k3 at h
  refine SemY.seq ?_
  refine SemY.region ?_
  refine RunY.segF (n := 42) e_evening_Plan_k3_ok 1 [(0, .yl 4), (9, .sl 1 (y3.map (cdL 1 cdI).enc))] [some ⟨2, 94, [.ag [.v (.int .i64 y0), .rf 1 0 y1.length y1.length]], false⟩, some ⟨1, 3, (y1.map cdI.enc), false⟩, mk 1 50 (y2.map (cdL 1 (cdL 1 cdI)).enc), some ⟨1, 50, [.sl 1 (y3.map (cdL 1 cdI).enc)], false⟩, none] (by kernel_rfl) ?_
  refine RunY.one e_evening_Plan_k3_ok 0 rfl (op_q (wantedA_none rfl) rfl (q_len (a := .sl 1 (y3.map (cdL 1 cdI).enc)) (by kernel_rfl) (len_sl (el := 31) (by kernel_rfl)))) ?_
  refine RunY.segF (n := 42) e_evening_Plan_k3_ok 1 [(0, .yl 4), (9, .sl 1 (y3.map (cdL 1 cdI).enc)), (10, .v (.int .i64 (y3.length : Int))), (11, .v (.int .i64 0))] [some ⟨2, 94, [.ag [.v (.int .i64 y0), .rf 1 0 y1.length y1.length]], false⟩, some ⟨1, 3, (y1.map cdI.enc), false⟩, mk 1 50 (y2.map (cdL 1 (cdL 1 cdI)).enc), some ⟨1, 50, [.sl 1 (y3.map (cdL 1 cdI).enc)], false⟩, none] (by kernel_rfl) ?_
  refine RunY.done rfl (SemY.fr (l' := [(0, .yl 4), (9, .sl 1 (y3.map (cdL 1 cdI).enc)), (10, .v (.int .i64 (y3.length : Int))), (11, .v (.int .i64 0))]) (by kernel_rfl) ?_)
  refine SemY.block ?_
  obtain ⟨r250, hr250, h⟩ := Option.bind_eq_some_iff.1 h
  refine SemY.loop (n := 100000) ?_
  refine SemY.cutN (SemYN.wk (s1 := ⟨Fr 42 [(0, .yl 4), (9, .sl 1 (y3.map (cdL 1 cdI).enc)), (10, .v (.int .i64 (y3.length : Int))), (11, .v (.int .i64 0))], [some ⟨2, 94, [.ag [.v (.int .i64 y0), .rf 1 0 y1.length y1.length]], false⟩, some ⟨1, 3, (y1.map cdI.enc), false⟩, mk 1 50 (y2.map (cdL 1 (cdL 1 cdI)).enc), some ⟨1, 50, [.sl 1 (y3.map (cdL 1 cdI).enc)], false⟩, none]⟩) (WkY.fr (by kernel_rfl)) (evening_Plan_k3_1_ok y0 y2 y3 y4 y5 y6 y7 y8 _ 0 y1 _ hr250)) ?_
  have hq := Option.some.inj h; subst hq
  exact ⟨.inl rfl, [], (by kernel_rfl), (by kernel_rfl), (by kernel_rfl)⟩
def evening_Plan_1 (x0 : Int) (x1 : (List Int)) (x2 : Int) (v6 : Int × Int × (List Int)) : Nat → (List Int) → (List (List (List Int))) → Int → Option (((List (List (List Int)))))
  | 0, _, _, _ => none
  | f + 1, c97, c98, c99 =>
    if (decide (c99 < x2)) = true then
    (evening_span 0 x0).bind fun v101 =>
    if (decide (0 < v101.length)) = true then
    (evening_Plan_2 x0 x1 x2 v6 c97 c98 c99 100000 v101 [] 0).bind fun r181 =>
    (evening_Plan_k2 v6.1 c97 c98 r181).bind fun v182 =>
    (evening_Plan_k3 v6.1 c97 c98 v182 x0 x1 r181 x2 c99).bind fun v183 =>
    if (capOk 24 (c98.length + 1)) = true then
    evening_Plan_1 x0 x1 x2 v6 f v183 (c98 ++ [r181]) (wr .i64 (c99 + 1))
    else none
    else none
    else
    some c98
def evening_Plan (x0 : Int) (x1 : (List Int)) (x2 : Int) : Option ((List (List (List Int))) × Int) :=
  (evening_fit x0 x1).bind fun v1 =>
  if (!v1) = true then
  some ([], 90)
  else
  (if (decide (x2 < 0)) = true then some true else some (decide (x2 > 64))).bind fun j4 =>
  if j4 = true then
  some ([], 2)
  else
  (evening_Plan_k1 x0).bind fun v6 =>
  (evening_Plan_1 x0 x1 x2 v6 100000 v6.2.2 [] 0).bind fun r186 =>
  some (r186, 0)
def cs_evening_Plan : Cs (Int × (List Int) × Int × Unit) := (csC cdI (csC (cdL 1 cdI) (csC cdI csN)))
def er_evening_Plan (r : (List (List (List Int))) × Int) : AV := .tp [(cdL 1 (cdL 1 (cdL 1 cdI))).enc r.1, cdI.enc r.2]
set_option maxHeartbeats 4000000 in
set_option maxRecDepth 100000 in
theorem evening_Plan_3_ok (x0 : Int) (x1 : (List Int)) (x2 : Int) (v6 : Int × Int × (List Int)) (c97 : (List Int)) (c98 : (List (List (List Int)))) (c99 : Int) (c146 : (List (List Int))) (c147 : Int) (v149 : Int) : ∀ (f : Nat) (c168 : (List Int)) (c169 : (List Int)) (c170 : Int) (r : ((List Int) × (List Int))), evening_Plan_3 x0 x1 x2 v6 c97 c98 c99 c146 c147 v149 f c168 c169 c170 = some r → SemN e_evening_Plan ⟨none, false⟩ (pc cb_evening_Plan [1, 1, 1, 1, 0, 1, 0, 0, 1, 1, 0, 0, 1, 1, 0, 1, 0, 0, 1, 1, 0, 0, 1, 1, 0, 1, 0, 0]) f ⟨Fr 86 [(0, .v (.int .i64 x0)), (1, .sl 1 (x1.map cdI.enc)), (8, .pt 0 0 0), (9, hd 2 (c98.map (cdL 1 (cdL 1 cdI)).enc)), (10, .rf 3 0 c168.length c168.length), (11, hd 4 (c146.map (cdL 1 cdI).enc)), (14, hd 5 (c169.map cdI.enc)), (32, .v (.int .i64 x2)), (33, .v (.int .i64 c99)), (37, .sl 1 (x1.map cdI.enc)), (38, .v (.int .i64 (x1.length : Int))), (39, .v (.int .i64 c147)), (43, .v (.int .i64 v149)), (44, .v (.int .i64 c170))], [some ⟨2, 94, [.ag [.v (.int .i64 v6.1), .rf 1 0 c97.length c97.length]], false⟩, some ⟨1, 3, (c97.map cdI.enc), false⟩, mk 1 50 (c98.map (cdL 1 (cdL 1 cdI)).enc), some ⟨1, 3, (c168.map cdI.enc), false⟩, mk 1 31 (c146.map (cdL 1 cdI).enc), mk 1 3 (c169.map cdI.enc)]⟩ (fun e s => e = (.exit 5) ∧ Wk e_evening_Plan s ⟨Fr 86 [(0, .v (.int .i64 x0)), (1, .sl 1 (x1.map cdI.enc)), (8, .pt 0 0 0), (9, hd 2 (c98.map (cdL 1 (cdL 1 cdI)).enc)), (10, .rf 3 0 r.1.length r.1.length), (11, hd 4 (c146.map (cdL 1 cdI).enc)), (14, hd 5 (r.2.map cdI.enc)), (32, .v (.int .i64 x2)), (33, .v (.int .i64 c99)), (37, .sl 1 (x1.map cdI.enc)), (38, .v (.int .i64 (x1.length : Int))), (39, .v (.int .i64 c147))], [some ⟨2, 94, [.ag [.v (.int .i64 v6.1), .rf 1 0 c97.length c97.length]], false⟩, some ⟨1, 3, (c97.map cdI.enc), false⟩, mk 1 50 (c98.map (cdL 1 (cdL 1 cdI)).enc), some ⟨1, 3, (r.1.map cdI.enc), false⟩, mk 1 31 (c146.map (cdL 1 cdI).enc), mk 1 3 (r.2.map cdI.enc)]⟩) := by
  intro f
  induction f with
  | zero => intro c168 c169 c170 r h; cases h
  | succ f ih0 =>
    intro c168 c169 c170 r h
    have ih := fun (c168 : (List Int)) (c169 : (List Int)) (c170 : Int) => ih0 c168 c169 c170 r
    unfold evening_Plan_3 at h
    refine SemN.succ ?_
    refine Sem.seq ?_
    refine Sem.runS (s1 := ⟨Fr 86 [(0, .v (.int .i64 x0)), (1, .sl 1 (x1.map cdI.enc)), (8, .pt 0 0 0), (9, hd 2 (c98.map (cdL 1 (cdL 1 cdI)).enc)), (10, .rf 3 0 c168.length c168.length), (11, hd 4 (c146.map (cdL 1 cdI).enc)), (14, hd 5 (c169.map cdI.enc)), (32, .v (.int .i64 x2)), (33, .v (.int .i64 c99)), (37, .sl 1 (x1.map cdI.enc)), (38, .v (.int .i64 (x1.length : Int))), (39, .v (.int .i64 c147)), (43, .v (.int .i64 v149)), (44, .v (.int .i64 c170)), (45, .v (.bool (decide (c170 < v149))))], [some ⟨2, 94, [.ag [.v (.int .i64 v6.1), .rf 1 0 c97.length c97.length]], false⟩, some ⟨1, 3, (c97.map cdI.enc), false⟩, mk 1 50 (c98.map (cdL 1 (cdL 1 cdI)).enc), some ⟨1, 3, (c168.map cdI.enc), false⟩, mk 1 31 (c146.map (cdL 1 cdI).enc), mk 1 3 (c169.map cdI.enc)]⟩) ?_ ?_
    · refine RunS.segF (n := 86) e_evening_Plan_ok 1 [(0, .v (.int .i64 x0)), (1, .sl 1 (x1.map cdI.enc)), (8, .pt 0 0 0), (9, hd 2 (c98.map (cdL 1 (cdL 1 cdI)).enc)), (10, .rf 3 0 c168.length c168.length), (11, hd 4 (c146.map (cdL 1 cdI).enc)), (14, hd 5 (c169.map cdI.enc)), (32, .v (.int .i64 x2)), (33, .v (.int .i64 c99)), (37, .sl 1 (x1.map cdI.enc)), (38, .v (.int .i64 (x1.length : Int))), (39, .v (.int .i64 c147)), (43, .v (.int .i64 v149)), (44, .v (.int .i64 c170)), (45, .v (.bool (decide (c170 < v149))))] [some ⟨2, 94, [.ag [.v (.int .i64 v6.1), .rf 1 0 c97.length c97.length]], false⟩, some ⟨1, 3, (c97.map cdI.enc), false⟩, mk 1 50 (c98.map (cdL 1 (cdL 1 cdI)).enc), some ⟨1, 3, (c168.map cdI.enc), false⟩, mk 1 31 (c146.map (cdL 1 cdI).enc), mk 1 3 (c169.map cdI.enc)] (by kernel_rfl) ?_
      exact RunS.done rfl (Wk.s3 [0, 1, 2, 3, 4, 5] ⟨⟨_, rfl, bu_d⟩, ⟨_, rfl, bu_own⟩, ⟨_, rfl, bu_mk⟩, ⟨_, rfl, bu_own⟩, ⟨_, rfl, bu_mk⟩, ⟨_, rfl, bu_mk⟩, trivial⟩ ⟨lv, lv, lv, lu_hd (b' := 2) (by kernel_rfl) (by kernel_rfl), lv, lu_hd (b' := 4) (by kernel_rfl) (by kernel_rfl), lu_hd (b' := 5) (by kernel_rfl) (by kernel_rfl), lv, lv, lv, lv, lv, lv, lv, lv, trivial⟩)
    refine Sem.seq ?_
    refine Sem.cond (b := (decide (c170 < v149))) (by kernel_rfl) (fun hb171 => ?_) (fun hb171 => ?_)
    · rw [if_pos hb171] at h
      refine Sem.skip ?_
      refine Sem.seq ?_
      refine Sem.block ?_
      refine Sem.seq ?_
      obtain ⟨v172, hv172, h⟩ := Option.bind_eq_some_iff.1 h
      refine Sem.runS (s1 := ⟨Fr 86 [(0, .v (.int .i64 x0)), (1, .sl 1 (x1.map cdI.enc)), (8, .pt 0 0 0), (9, hd 2 (c98.map (cdL 1 (cdL 1 cdI)).enc)), (10, .rf 3 0 c168.length c168.length), (11, hd 4 (c146.map (cdL 1 cdI).enc)), (14, hd 5 (c169.map cdI.enc)), (15, .v (.int .i64 v172)), (32, .v (.int .i64 x2)), (33, .v (.int .i64 c99)), (37, .sl 1 (x1.map cdI.enc)), (38, .v (.int .i64 (x1.length : Int))), (39, .v (.int .i64 c147)), (43, .v (.int .i64 v149)), (44, .v (.int .i64 c170))], [some ⟨2, 94, [.ag [.v (.int .i64 v6.1), .rf 1 0 c97.length c97.length]], false⟩, some ⟨1, 3, (c97.map cdI.enc), false⟩, mk 1 50 (c98.map (cdL 1 (cdL 1 cdI)).enc), some ⟨1, 3, (c168.map cdI.enc), false⟩, mk 1 31 (c146.map (cdL 1 cdI).enc), mk 1 3 (c169.map cdI.enc)]⟩) ?_ ?_
      · refine RunS.segF (n := 86) e_evening_Plan_ok 3 [(0, .v (.int .i64 x0)), (1, .sl 1 (x1.map cdI.enc)), (8, .pt 0 0 0), (9, hd 2 (c98.map (cdL 1 (cdL 1 cdI)).enc)), (10, .rf 3 0 c168.length c168.length), (11, hd 4 (c146.map (cdL 1 cdI).enc)), (14, hd 5 (c169.map cdI.enc)), (32, .v (.int .i64 x2)), (33, .v (.int .i64 c99)), (37, .sl 1 (x1.map cdI.enc)), (38, .v (.int .i64 (x1.length : Int))), (39, .v (.int .i64 c147)), (43, .v (.int .i64 v149)), (44, .v (.int .i64 c170)), (46, .ag [.v (.int .i64 v6.1), .rf 1 0 c97.length c97.length]), (47, hd 5 (c169.map cdI.enc)), (48, .rf 3 0 c168.length c168.length)] [some ⟨2, 94, [.ag [.v (.int .i64 v6.1), .rf 1 0 c97.length c97.length]], false⟩, some ⟨1, 3, (c97.map cdI.enc), false⟩, mk 1 50 (c98.map (cdL 1 (cdL 1 cdI)).enc), some ⟨1, 3, (c168.map cdI.enc), false⟩, mk 1 31 (c146.map (cdL 1 cdI).enc), mk 1 3 (c169.map cdI.enc)] (by kernel_rfl) ?_
        refine RunS.call e_evening_Plan_ok (fid := 70) (s := cs_evening_choose) (F := fun a => evening_choose a.1 a.2.1 a.2.2.1) (er := er_evening_choose) (xs := [.ag [.v (.int .i64 v6.1), .rf 1 0 c97.length c97.length], hd 5 (c169.map cdI.enc), .rf 3 0 c168.length c168.length]) (a := ((v6.1, c97), c169, c168, ())) rfl (wantedA_none rfl) (by kernel_rfl) (by kernel_rfl) (by kernel_rfl) (by kernel_rfl) (Sns.cons (Sn.ag2 (Sn.enc (c := cdI) (v := v6.1)) (Sn.rl (c := cdI) (xs := c97) (t := 3) (by kernel_rfl) n1_I) rfl rfl) (Sns.cons (Sn.hd (c := cdI) (xs := c169) (t := 3) (by kernel_rfl) n1_I) (Sns.cons (Sn.rl (c := cdI) (xs := c168) (t := 3) (by kernel_rfl) n1_I) Sns.nil))) (.inr (by kernel_rfl)) hv172 ?_
        refine RunS.segF (n := 86) e_evening_Plan_ok 1 [(0, .v (.int .i64 x0)), (1, .sl 1 (x1.map cdI.enc)), (8, .pt 0 0 0), (9, hd 2 (c98.map (cdL 1 (cdL 1 cdI)).enc)), (10, .rf 3 0 c168.length c168.length), (11, hd 4 (c146.map (cdL 1 cdI).enc)), (14, hd 5 (c169.map cdI.enc)), (15, .v (.int .i64 v172)), (32, .v (.int .i64 x2)), (33, .v (.int .i64 c99)), (37, .sl 1 (x1.map cdI.enc)), (38, .v (.int .i64 (x1.length : Int))), (39, .v (.int .i64 c147)), (43, .v (.int .i64 v149)), (44, .v (.int .i64 c170))] [some ⟨2, 94, [.ag [.v (.int .i64 v6.1), .rf 1 0 c97.length c97.length]], false⟩, some ⟨1, 3, (c97.map cdI.enc), false⟩, mk 1 50 (c98.map (cdL 1 (cdL 1 cdI)).enc), some ⟨1, 3, (c168.map cdI.enc), false⟩, mk 1 31 (c146.map (cdL 1 cdI).enc), mk 1 3 (c169.map cdI.enc)] (by kernel_rfl) ?_
        exact RunS.done rfl (Wk.s3 [0, 1, 2, 3, 4, 5] ⟨⟨_, rfl, bu_d⟩, ⟨_, rfl, bu_own⟩, ⟨_, rfl, bu_mk⟩, ⟨_, rfl, bu_own⟩, ⟨_, rfl, bu_mk⟩, ⟨_, rfl, bu_mk⟩, trivial⟩ ⟨lv, lv, lv, lu_hd (b' := 2) (by kernel_rfl) (by kernel_rfl), lv, lu_hd (b' := 4) (by kernel_rfl) (by kernel_rfl), lu_hd (b' := 5) (by kernel_rfl) (by kernel_rfl), lv, lv, lv, lv, lv, lv, lv, lv, trivial⟩)
      refine Sem.seq ?_
      obtain ⟨v173, hv173, h⟩ := Option.bind_eq_some_iff.1 h
      by_cases hk174 : (capOk 8 (c169.length + 1)) = true
      case neg => rw [if_neg hk174] at h; cases h
      rw [if_pos hk174] at h
      refine Sem.runS (s1 := ⟨Fr 86 [(0, .v (.int .i64 x0)), (1, .sl 1 (x1.map cdI.enc)), (8, .pt 0 0 0), (9, hd 2 (c98.map (cdL 1 (cdL 1 cdI)).enc)), (10, .rf 3 0 c168.length c168.length), (11, hd 4 (c146.map (cdL 1 cdI).enc)), (14, hd 5 ((c169 ++ [v173]).map cdI.enc)), (15, .v (.int .i64 v172)), (32, .v (.int .i64 x2)), (33, .v (.int .i64 c99)), (37, .sl 1 (x1.map cdI.enc)), (38, .v (.int .i64 (x1.length : Int))), (39, .v (.int .i64 c147)), (43, .v (.int .i64 v149)), (44, .v (.int .i64 c170))], [some ⟨2, 94, [.ag [.v (.int .i64 v6.1), .rf 1 0 c97.length c97.length]], false⟩, some ⟨1, 3, (c97.map cdI.enc), false⟩, mk 1 50 (c98.map (cdL 1 (cdL 1 cdI)).enc), some ⟨1, 3, (c168.map cdI.enc), false⟩, mk 1 31 (c146.map (cdL 1 cdI).enc), mk 1 3 ((c169 ++ [v173]).map cdI.enc)]⟩) ?_ ?_
      · refine RunS.segF (n := 86) e_evening_Plan_ok 3 [(0, .v (.int .i64 x0)), (1, .sl 1 (x1.map cdI.enc)), (8, .pt 0 0 0), (9, hd 2 (c98.map (cdL 1 (cdL 1 cdI)).enc)), (10, .rf 3 0 c168.length c168.length), (11, hd 4 (c146.map (cdL 1 cdI).enc)), (15, .v (.int .i64 v172)), (32, .v (.int .i64 x2)), (33, .v (.int .i64 c99)), (37, .sl 1 (x1.map cdI.enc)), (38, .v (.int .i64 (x1.length : Int))), (39, .v (.int .i64 c147)), (43, .v (.int .i64 v149)), (44, .v (.int .i64 c170)), (50, hd 5 (c169.map cdI.enc)), (51, .rf 3 0 c168.length c168.length), (52, .v (.int .i64 v172))] [some ⟨2, 94, [.ag [.v (.int .i64 v6.1), .rf 1 0 c97.length c97.length]], false⟩, some ⟨1, 3, (c97.map cdI.enc), false⟩, mk 1 50 (c98.map (cdL 1 (cdL 1 cdI)).enc), some ⟨1, 3, (c168.map cdI.enc), false⟩, mk 1 31 (c146.map (cdL 1 cdI).enc), mk 1 3 (c169.map cdI.enc)] (by kernel_rfl) ?_
        refine RunS.one e_evening_Plan_ok 0 rfl (op_q (wantedA_none rfl) rfl (q_indexAddr (a := .rf 3 0 c168.length c168.length) (b := .v (.int .i64 v172)) (by kernel_rfl) (by kernel_rfl) (ix_rl (e := cdI.enc) (xs := c168) (t' := 3) (el := 3) (k := 1) (ki := .i64) (by kernel_rfl) (by kernel_rfl) (by kernel_rfl) hv173))) ?_
        refine RunS.one e_evening_Plan_ok 0 rfl (op_q (wantedA_none rfl) rfl (q_load (p := .pt 3 v172.toNat 0) (by kernel_rfl) (ld_blk (B := ⟨1, 3, (c168.map cdI.enc), false⟩) (m := 1) (g := false) (e := cdI.enc) (xs := c168) (by kernel_rfl) (by kernel_rfl) (by kernel_rfl) rfl (idx_at hv173).2 (by kernel_rfl)))) ?_
        refine RunS.segF (n := 86) e_evening_Plan_ok 1 [(0, .v (.int .i64 x0)), (1, .sl 1 (x1.map cdI.enc)), (8, .pt 0 0 0), (9, hd 2 (c98.map (cdL 1 (cdL 1 cdI)).enc)), (10, .rf 3 0 c168.length c168.length), (11, hd 4 (c146.map (cdL 1 cdI).enc)), (15, .v (.int .i64 v172)), (32, .v (.int .i64 x2)), (33, .v (.int .i64 c99)), (37, .sl 1 (x1.map cdI.enc)), (38, .v (.int .i64 (x1.length : Int))), (39, .v (.int .i64 c147)), (43, .v (.int .i64 v149)), (44, .v (.int .i64 c170)), (50, hd 5 (c169.map cdI.enc)), (55, hd 6 ([v173].map cdI.enc))] [some ⟨2, 94, [.ag [.v (.int .i64 v6.1), .rf 1 0 c97.length c97.length]], false⟩, some ⟨1, 3, (c97.map cdI.enc), false⟩, mk 1 50 (c98.map (cdL 1 (cdL 1 cdI)).enc), some ⟨1, 3, (c168.map cdI.enc), false⟩, mk 1 31 (c146.map (cdL 1 cdI).enc), mk 1 3 (c169.map cdI.enc), mk 1 3 ([v173].map cdI.enc)] (by kernel_rfl) ?_
        refine RunS.one e_evening_Plan_ok 0 rfl (op_w (wantedA_none rfl) rfl (by kernel_rfl) (by kernel_rfl) (w_append (a := hd 5 (c169.map cdI.enc)) (b := hd 6 ([v173].map cdI.enc)) (by kernel_rfl) (by kernel_rfl) (append_B (c := cdI) (xs := c169) (vs := [v173]) (k := 1) (bytes := 8) (el := 3) (by kernel_rfl) (by kernel_rfl) (elems_hd (t := 3) (by kernel_rfl)) (List.cons_ne_nil _ _) (by kernel_rfl) hk174))) ?_
        refine RunS.segF (n := 86) e_evening_Plan_ok 1 [(0, .v (.int .i64 x0)), (1, .sl 1 (x1.map cdI.enc)), (8, .pt 0 0 0), (9, hd 2 (c98.map (cdL 1 (cdL 1 cdI)).enc)), (10, .rf 3 0 c168.length c168.length), (11, hd 4 (c146.map (cdL 1 cdI).enc)), (14, hd 7 ((c169 ++ [v173]).map cdI.enc)), (15, .v (.int .i64 v172)), (32, .v (.int .i64 x2)), (33, .v (.int .i64 c99)), (37, .sl 1 (x1.map cdI.enc)), (38, .v (.int .i64 (x1.length : Int))), (39, .v (.int .i64 c147)), (43, .v (.int .i64 v149)), (44, .v (.int .i64 c170))] [some ⟨2, 94, [.ag [.v (.int .i64 v6.1), .rf 1 0 c97.length c97.length]], false⟩, some ⟨1, 3, (c97.map cdI.enc), false⟩, mk 1 50 (c98.map (cdL 1 (cdL 1 cdI)).enc), some ⟨1, 3, (c168.map cdI.enc), false⟩, mk 1 31 (c146.map (cdL 1 cdI).enc), none, mk 1 3 ([v173].map cdI.enc), mk 1 3 ((c169 ++ [v173]).map cdI.enc)] (by kernel_rfl) ?_
        exact RunS.done rfl (Wk.s3 [0, 1, 2, 3, 4, 7] ⟨⟨_, rfl, bu_d⟩, ⟨_, rfl, bu_own⟩, ⟨_, rfl, bu_mk⟩, ⟨_, rfl, bu_own⟩, ⟨_, rfl, bu_mk⟩, ⟨_, rfl, bu_mk⟩, trivial⟩ ⟨lv, lv, lv, lu_hd (b' := 2) (by kernel_rfl) (by kernel_rfl), lv, lu_hd (b' := 4) (by kernel_rfl) (by kernel_rfl), lu_hd (b' := 7) (by kernel_rfl) (by kernel_rfl), lv, lv, lv, lv, lv, lv, lv, lv, trivial⟩)
      obtain ⟨v175, hv175, h⟩ := Option.bind_eq_some_iff.1 h
      refine Sem.runS (s1 := ⟨Fr 86 [(0, .v (.int .i64 x0)), (1, .sl 1 (x1.map cdI.enc)), (8, .pt 0 0 0), (9, hd 2 (c98.map (cdL 1 (cdL 1 cdI)).enc)), (10, .rf 3 0 v175.length v175.length), (11, hd 4 (c146.map (cdL 1 cdI).enc)), (14, hd 5 ((c169 ++ [v173]).map cdI.enc)), (32, .v (.int .i64 x2)), (33, .v (.int .i64 c99)), (37, .sl 1 (x1.map cdI.enc)), (38, .v (.int .i64 (x1.length : Int))), (39, .v (.int .i64 c147)), (43, .v (.int .i64 v149)), (44, .v (.int .i64 c170))], [some ⟨2, 94, [.ag [.v (.int .i64 v6.1), .rf 1 0 c97.length c97.length]], false⟩, some ⟨1, 3, (c97.map cdI.enc), false⟩, mk 1 50 (c98.map (cdL 1 (cdL 1 cdI)).enc), some ⟨1, 3, (v175.map cdI.enc), false⟩, mk 1 31 (c146.map (cdL 1 cdI).enc), mk 1 3 ((c169 ++ [v173]).map cdI.enc)]⟩) ?_ ?_
      · refine RunS.segF (n := 86) e_evening_Plan_ok 4 [(0, .v (.int .i64 x0)), (1, .sl 1 (x1.map cdI.enc)), (8, .pt 0 0 0), (9, hd 2 (c98.map (cdL 1 (cdL 1 cdI)).enc)), (11, hd 4 (c146.map (cdL 1 cdI).enc)), (14, hd 5 ((c169 ++ [v173]).map cdI.enc)), (32, .v (.int .i64 x2)), (33, .v (.int .i64 c99)), (37, .sl 1 (x1.map cdI.enc)), (38, .v (.int .i64 (x1.length : Int))), (39, .v (.int .i64 c147)), (43, .v (.int .i64 v149)), (44, .v (.int .i64 c170)), (57, .rf 3 0 c168.length c168.length), (58, .v (.int .i64 v172)), (60, .v (.int .i64 (wr .i64 (v172 + 1))))] [some ⟨2, 94, [.ag [.v (.int .i64 v6.1), .rf 1 0 c97.length c97.length]], false⟩, some ⟨1, 3, (c97.map cdI.enc), false⟩, mk 1 50 (c98.map (cdL 1 (cdL 1 cdI)).enc), some ⟨1, 3, (c168.map cdI.enc), false⟩, mk 1 31 (c146.map (cdL 1 cdI).enc), mk 1 3 ((c169 ++ [v173]).map cdI.enc)] (by kernel_rfl) ?_
        refine RunS.delete (b := 3) (xs := c168) (i := v172) (j := (wr .i64 (v172 + 1))) rfl rfl hv175 rfl (wantedA_none rfl) (by kernel_rfl) (by kernel_rfl) (by kernel_rfl) ?_
        refine RunS.segF (n := 86) e_evening_Plan_ok 1 [(0, .v (.int .i64 x0)), (1, .sl 1 (x1.map cdI.enc)), (8, .pt 0 0 0), (9, hd 2 (c98.map (cdL 1 (cdL 1 cdI)).enc)), (10, .rf 3 0 v175.length v175.length), (11, hd 4 (c146.map (cdL 1 cdI).enc)), (14, hd 5 ((c169 ++ [v173]).map cdI.enc)), (32, .v (.int .i64 x2)), (33, .v (.int .i64 c99)), (37, .sl 1 (x1.map cdI.enc)), (38, .v (.int .i64 (x1.length : Int))), (39, .v (.int .i64 c147)), (43, .v (.int .i64 v149)), (44, .v (.int .i64 c170))] [some ⟨2, 94, [.ag [.v (.int .i64 v6.1), .rf 1 0 c97.length c97.length]], false⟩, some ⟨1, 3, (c97.map cdI.enc), false⟩, mk 1 50 (c98.map (cdL 1 (cdL 1 cdI)).enc), some ⟨1, 3, (v175.map cdI.enc), false⟩, mk 1 31 (c146.map (cdL 1 cdI).enc), mk 1 3 ((c169 ++ [v173]).map cdI.enc)] (by kernel_rfl) ?_
        exact RunS.done rfl (Wk.s3 [0, 1, 2, 3, 4, 5] ⟨⟨_, rfl, bu_d⟩, ⟨_, rfl, bu_own⟩, ⟨_, rfl, bu_mk⟩, ⟨_, rfl, bu_own⟩, ⟨_, rfl, bu_mk⟩, ⟨_, rfl, bu_mk⟩, trivial⟩ ⟨lv, lv, lv, lu_hd (b' := 2) (by kernel_rfl) (by kernel_rfl), lv, lu_hd (b' := 4) (by kernel_rfl) (by kernel_rfl), lu_hd (b' := 5) (by kernel_rfl) (by kernel_rfl), lv, lv, lv, lv, lv, lv, lv, trivial⟩)
      refine Sem.runS (s1 := ⟨Fr 86 [(0, .v (.int .i64 x0)), (1, .sl 1 (x1.map cdI.enc)), (8, .pt 0 0 0), (9, hd 2 (c98.map (cdL 1 (cdL 1 cdI)).enc)), (10, .rf 3 0 v175.length v175.length), (11, hd 4 (c146.map (cdL 1 cdI).enc)), (14, hd 5 ((c169 ++ [v173]).map cdI.enc)), (32, .v (.int .i64 x2)), (33, .v (.int .i64 c99)), (37, .sl 1 (x1.map cdI.enc)), (38, .v (.int .i64 (x1.length : Int))), (39, .v (.int .i64 c147)), (43, .v (.int .i64 v149)), (44, .v (.int .i64 (wr .i64 (c170 + 1))))], [some ⟨2, 94, [.ag [.v (.int .i64 v6.1), .rf 1 0 c97.length c97.length]], false⟩, some ⟨1, 3, (c97.map cdI.enc), false⟩, mk 1 50 (c98.map (cdL 1 (cdL 1 cdI)).enc), some ⟨1, 3, (v175.map cdI.enc), false⟩, mk 1 31 (c146.map (cdL 1 cdI).enc), mk 1 3 ((c169 ++ [v173]).map cdI.enc)]⟩) ?_ ?_
      · refine RunS.segF (n := 86) e_evening_Plan_ok 2 [(0, .v (.int .i64 x0)), (1, .sl 1 (x1.map cdI.enc)), (8, .pt 0 0 0), (9, hd 2 (c98.map (cdL 1 (cdL 1 cdI)).enc)), (10, .rf 3 0 v175.length v175.length), (11, hd 4 (c146.map (cdL 1 cdI).enc)), (14, hd 5 ((c169 ++ [v173]).map cdI.enc)), (32, .v (.int .i64 x2)), (33, .v (.int .i64 c99)), (37, .sl 1 (x1.map cdI.enc)), (38, .v (.int .i64 (x1.length : Int))), (39, .v (.int .i64 c147)), (43, .v (.int .i64 v149)), (44, .v (.int .i64 (wr .i64 (c170 + 1))))] [some ⟨2, 94, [.ag [.v (.int .i64 v6.1), .rf 1 0 c97.length c97.length]], false⟩, some ⟨1, 3, (c97.map cdI.enc), false⟩, mk 1 50 (c98.map (cdL 1 (cdL 1 cdI)).enc), some ⟨1, 3, (v175.map cdI.enc), false⟩, mk 1 31 (c146.map (cdL 1 cdI).enc), mk 1 3 ((c169 ++ [v173]).map cdI.enc)] (by kernel_rfl) ?_
        exact RunS.done rfl (Wk.s3 [0, 1, 2, 3, 4, 5] ⟨⟨_, rfl, bu_d⟩, ⟨_, rfl, bu_own⟩, ⟨_, rfl, bu_mk⟩, ⟨_, rfl, bu_own⟩, ⟨_, rfl, bu_mk⟩, ⟨_, rfl, bu_mk⟩, trivial⟩ ⟨lv, lv, lv, lu_hd (b' := 2) (by kernel_rfl) (by kernel_rfl), lv, lu_hd (b' := 4) (by kernel_rfl) (by kernel_rfl), lu_hd (b' := 5) (by kernel_rfl) (by kernel_rfl), lv, lv, lv, lv, lv, lv, lv, trivial⟩)
      exact SemN.wk (s1 := ⟨Fr 86 [(0, .v (.int .i64 x0)), (1, .sl 1 (x1.map cdI.enc)), (8, .pt 0 0 0), (9, hd 2 (c98.map (cdL 1 (cdL 1 cdI)).enc)), (10, .rf 3 0 v175.length v175.length), (11, hd 4 (c146.map (cdL 1 cdI).enc)), (14, hd 5 ((c169 ++ [v173]).map cdI.enc)), (32, .v (.int .i64 x2)), (33, .v (.int .i64 c99)), (37, .sl 1 (x1.map cdI.enc)), (38, .v (.int .i64 (x1.length : Int))), (39, .v (.int .i64 c147)), (43, .v (.int .i64 v149)), (44, .v (.int .i64 (wr .i64 (c170 + 1))))], [some ⟨2, 94, [.ag [.v (.int .i64 v6.1), .rf 1 0 c97.length c97.length]], false⟩, some ⟨1, 3, (c97.map cdI.enc), false⟩, mk 1 50 (c98.map (cdL 1 (cdL 1 cdI)).enc), some ⟨1, 3, (v175.map cdI.enc), false⟩, mk 1 31 (c146.map (cdL 1 cdI).enc), mk 1 3 ((c169 ++ [v173]).map cdI.enc)]⟩) (Wk.s3 [0, 1, 2, 3, 4, 5] ⟨⟨_, rfl, bu_d⟩, ⟨_, rfl, bu_own⟩, ⟨_, rfl, bu_mk⟩, ⟨_, rfl, bu_own⟩, ⟨_, rfl, bu_mk⟩, ⟨_, rfl, bu_mk⟩, trivial⟩ ⟨lv, lv, lv, lu_hd (b' := 2) (by kernel_rfl) (by kernel_rfl), lv, lu_hd (b' := 4) (by kernel_rfl) (by kernel_rfl), lu_hd (b' := 5) (by kernel_rfl) (by kernel_rfl), lv, lv, lv, lv, lv, lv, lv, trivial⟩) (ih v175 (c169 ++ [v173]) (wr .i64 (c170 + 1)) h)
    · rw [if_f hb171] at h
      refine Sem.exit ?_
      have hq := Option.some.inj h; subst hq
      exact ⟨rfl, (Wk.s3 [0, 1, 2, 3, 4, 5] ⟨⟨_, rfl, bu_d⟩, ⟨_, rfl, bu_own⟩, ⟨_, rfl, bu_mk⟩, ⟨_, rfl, bu_own⟩, ⟨_, rfl, bu_mk⟩, ⟨_, rfl, bu_mk⟩, trivial⟩ ⟨lv, lv, lv, lu_hd (b' := 2) (by kernel_rfl) (by kernel_rfl), lv, lu_hd (b' := 4) (by kernel_rfl) (by kernel_rfl), lu_hd (b' := 5) (by kernel_rfl) (by kernel_rfl), lv, lv, lv, lv, lv, trivial⟩)⟩
set_option maxHeartbeats 4000000 in
set_option maxRecDepth 100000 in
theorem evening_Plan_2_ok (x0 : Int) (x1 : (List Int)) (x2 : Int) (v6 : Int × Int × (List Int)) (c97 : (List Int)) (c98 : (List (List (List Int)))) (c99 : Int) : ∀ (f : Nat) (c145 : (List Int)) (c146 : (List (List Int))) (c147 : Int) (r : ((List (List Int)))), evening_Plan_2 x0 x1 x2 v6 c97 c98 c99 f c145 c146 c147 = some r → SemN e_evening_Plan ⟨none, false⟩ (pc cb_evening_Plan [1, 1, 1, 1, 0, 1, 0, 0, 1, 1, 0, 0, 1, 1, 0, 1, 0, 0]) f ⟨Fr 86 [(0, .v (.int .i64 x0)), (1, .sl 1 (x1.map cdI.enc)), (8, .pt 0 0 0), (9, hd 2 (c98.map (cdL 1 (cdL 1 cdI)).enc)), (10, .rf 3 0 c145.length c145.length), (11, hd 4 (c146.map (cdL 1 cdI).enc)), (32, .v (.int .i64 x2)), (33, .v (.int .i64 c99)), (37, .sl 1 (x1.map cdI.enc)), (38, .v (.int .i64 (x1.length : Int))), (39, .v (.int .i64 c147))], [some ⟨2, 94, [.ag [.v (.int .i64 v6.1), .rf 1 0 c97.length c97.length]], false⟩, some ⟨1, 3, (c97.map cdI.enc), false⟩, mk 1 50 (c98.map (cdL 1 (cdL 1 cdI)).enc), some ⟨1, 3, (c145.map cdI.enc), false⟩, mk 1 31 (c146.map (cdL 1 cdI).enc)]⟩ (fun e s => e = (.exit 3) ∧ Wk e_evening_Plan s ⟨Fr 86 [(0, .v (.int .i64 x0)), (1, .sl 1 (x1.map cdI.enc)), (8, .pt 0 0 0), (9, hd 2 (c98.map (cdL 1 (cdL 1 cdI)).enc)), (11, hd 3 (r.map (cdL 1 cdI).enc)), (32, .v (.int .i64 x2)), (33, .v (.int .i64 c99))], [some ⟨2, 94, [.ag [.v (.int .i64 v6.1), .rf 1 0 c97.length c97.length]], false⟩, some ⟨1, 3, (c97.map cdI.enc), false⟩, mk 1 50 (c98.map (cdL 1 (cdL 1 cdI)).enc), mk 1 31 (r.map (cdL 1 cdI).enc)]⟩) := by
  intro f
  induction f with
  | zero => intro c145 c146 c147 r h; cases h
  | succ f ih0 =>
    intro c145 c146 c147 r h
    have ih := fun (c145 : (List Int)) (c146 : (List (List Int))) (c147 : Int) => ih0 c145 c146 c147 r
    unfold evening_Plan_2 at h
    refine SemN.succ ?_
    refine Sem.seq ?_
    refine Sem.runS (s1 := ⟨Fr 86 [(0, .v (.int .i64 x0)), (1, .sl 1 (x1.map cdI.enc)), (8, .pt 0 0 0), (9, hd 2 (c98.map (cdL 1 (cdL 1 cdI)).enc)), (10, .rf 3 0 c145.length c145.length), (11, hd 4 (c146.map (cdL 1 cdI).enc)), (32, .v (.int .i64 x2)), (33, .v (.int .i64 c99)), (37, .sl 1 (x1.map cdI.enc)), (38, .v (.int .i64 (x1.length : Int))), (39, .v (.int .i64 c147)), (40, .v (.bool (decide (c147 < (x1.length : Int)))))], [some ⟨2, 94, [.ag [.v (.int .i64 v6.1), .rf 1 0 c97.length c97.length]], false⟩, some ⟨1, 3, (c97.map cdI.enc), false⟩, mk 1 50 (c98.map (cdL 1 (cdL 1 cdI)).enc), some ⟨1, 3, (c145.map cdI.enc), false⟩, mk 1 31 (c146.map (cdL 1 cdI).enc)]⟩) ?_ ?_
    · refine RunS.segF (n := 86) e_evening_Plan_ok 1 [(0, .v (.int .i64 x0)), (1, .sl 1 (x1.map cdI.enc)), (8, .pt 0 0 0), (9, hd 2 (c98.map (cdL 1 (cdL 1 cdI)).enc)), (10, .rf 3 0 c145.length c145.length), (11, hd 4 (c146.map (cdL 1 cdI).enc)), (32, .v (.int .i64 x2)), (33, .v (.int .i64 c99)), (37, .sl 1 (x1.map cdI.enc)), (38, .v (.int .i64 (x1.length : Int))), (39, .v (.int .i64 c147)), (40, .v (.bool (decide (c147 < (x1.length : Int)))))] [some ⟨2, 94, [.ag [.v (.int .i64 v6.1), .rf 1 0 c97.length c97.length]], false⟩, some ⟨1, 3, (c97.map cdI.enc), false⟩, mk 1 50 (c98.map (cdL 1 (cdL 1 cdI)).enc), some ⟨1, 3, (c145.map cdI.enc), false⟩, mk 1 31 (c146.map (cdL 1 cdI).enc)] (by kernel_rfl) ?_
      exact RunS.done rfl (Wk.s3 [0, 1, 2, 3, 4] ⟨⟨_, rfl, bu_d⟩, ⟨_, rfl, bu_own⟩, ⟨_, rfl, bu_mk⟩, ⟨_, rfl, bu_own⟩, ⟨_, rfl, bu_mk⟩, trivial⟩ ⟨lv, lv, lv, lu_hd (b' := 2) (by kernel_rfl) (by kernel_rfl), lv, lu_hd (b' := 4) (by kernel_rfl) (by kernel_rfl), lv, lv, lv, lv, lv, lv, trivial⟩)
    refine Sem.seq ?_
    refine Sem.cond (b := (decide (c147 < (x1.length : Int)))) (by kernel_rfl) (fun hb148 => ?_) (fun hb148 => ?_)
    · rw [if_pos hb148] at h
      refine Sem.skip ?_
      refine Sem.seq ?_
      refine Sem.block ?_
      refine Sem.seq ?_
      obtain ⟨v149, hv149, h⟩ := Option.bind_eq_some_iff.1 h
      refine Sem.runS (s1 := ⟨Fr 86 [(0, .v (.int .i64 x0)), (1, .sl 1 (x1.map cdI.enc)), (8, .pt 0 0 0), (9, hd 2 (c98.map (cdL 1 (cdL 1 cdI)).enc)), (10, .rf 3 0 c145.length c145.length), (11, hd 4 (c146.map (cdL 1 cdI).enc)), (13, .v (.int .i64 v149)), (32, .v (.int .i64 x2)), (33, .v (.int .i64 c99)), (37, .sl 1 (x1.map cdI.enc)), (38, .v (.int .i64 (x1.length : Int))), (39, .v (.int .i64 c147))], [some ⟨2, 94, [.ag [.v (.int .i64 v6.1), .rf 1 0 c97.length c97.length]], false⟩, some ⟨1, 3, (c97.map cdI.enc), false⟩, mk 1 50 (c98.map (cdL 1 (cdL 1 cdI)).enc), some ⟨1, 3, (c145.map cdI.enc), false⟩, mk 1 31 (c146.map (cdL 1 cdI).enc)]⟩) ?_ ?_
      · refine RunS.one e_evening_Plan_ok 0 rfl (op_q (wantedA_none rfl) rfl (q_indexAddr (a := .sl 1 (x1.map cdI.enc)) (b := .v (.int .i64 c147)) (by kernel_rfl) (by kernel_rfl) (ix_sl (e := cdI.enc) (el := 3) (k := 1) (ki := .i64) (by kernel_rfl) (by kernel_rfl) hv149))) ?_
        refine RunS.segF (n := 86) e_evening_Plan_ok 2 [(0, .v (.int .i64 x0)), (1, .sl 1 (x1.map cdI.enc)), (8, .pt 0 0 0), (9, hd 2 (c98.map (cdL 1 (cdL 1 cdI)).enc)), (10, .rf 3 0 c145.length c145.length), (11, hd 4 (c146.map (cdL 1 cdI).enc)), (13, .v (.int .i64 v149)), (32, .v (.int .i64 x2)), (33, .v (.int .i64 c99)), (37, .sl 1 (x1.map cdI.enc)), (38, .v (.int .i64 (x1.length : Int))), (39, .v (.int .i64 c147))] [some ⟨2, 94, [.ag [.v (.int .i64 v6.1), .rf 1 0 c97.length c97.length]], false⟩, some ⟨1, 3, (c97.map cdI.enc), false⟩, mk 1 50 (c98.map (cdL 1 (cdL 1 cdI)).enc), some ⟨1, 3, (c145.map cdI.enc), false⟩, mk 1 31 (c146.map (cdL 1 cdI).enc)] (by kernel_rfl) ?_
        exact RunS.done rfl (Wk.s3 [0, 1, 2, 3, 4] ⟨⟨_, rfl, bu_d⟩, ⟨_, rfl, bu_own⟩, ⟨_, rfl, bu_mk⟩, ⟨_, rfl, bu_own⟩, ⟨_, rfl, bu_mk⟩, trivial⟩ ⟨lv, lv, lv, lu_hd (b' := 2) (by kernel_rfl) (by kernel_rfl), lv, lu_hd (b' := 4) (by kernel_rfl) (by kernel_rfl), lv, lv, lv, lv, lv, lv, trivial⟩)
      refine Sem.seq ?_
      refine Sem.runS (s1 := ⟨Fr 86 [(0, .v (.int .i64 x0)), (1, .sl 1 (x1.map cdI.enc)), (8, .pt 0 0 0), (9, hd 2 (c98.map (cdL 1 (cdL 1 cdI)).enc)), (10, .rf 3 0 c145.length c145.length), (11, hd 4 (c146.map (cdL 1 cdI).enc)), (13, .v (.int .i64 v149)), (14, .e0), (32, .v (.int .i64 x2)), (33, .v (.int .i64 c99)), (37, .sl 1 (x1.map cdI.enc)), (38, .v (.int .i64 (x1.length : Int))), (39, .v (.int .i64 c147))], [some ⟨2, 94, [.ag [.v (.int .i64 v6.1), .rf 1 0 c97.length c97.length]], false⟩, some ⟨1, 3, (c97.map cdI.enc), false⟩, mk 1 50 (c98.map (cdL 1 (cdL 1 cdI)).enc), some ⟨1, 3, (c145.map cdI.enc), false⟩, mk 1 31 (c146.map (cdL 1 cdI).enc)]⟩) ?_ ?_
      · refine RunS.segF (n := 86) e_evening_Plan_ok 1 [(0, .v (.int .i64 x0)), (1, .sl 1 (x1.map cdI.enc)), (8, .pt 0 0 0), (9, hd 2 (c98.map (cdL 1 (cdL 1 cdI)).enc)), (10, .rf 3 0 c145.length c145.length), (11, hd 4 (c146.map (cdL 1 cdI).enc)), (13, .v (.int .i64 v149)), (14, .e0), (32, .v (.int .i64 x2)), (33, .v (.int .i64 c99)), (37, .sl 1 (x1.map cdI.enc)), (38, .v (.int .i64 (x1.length : Int))), (39, .v (.int .i64 c147))] [some ⟨2, 94, [.ag [.v (.int .i64 v6.1), .rf 1 0 c97.length c97.length]], false⟩, some ⟨1, 3, (c97.map cdI.enc), false⟩, mk 1 50 (c98.map (cdL 1 (cdL 1 cdI)).enc), some ⟨1, 3, (c145.map cdI.enc), false⟩, mk 1 31 (c146.map (cdL 1 cdI).enc)] (by kernel_rfl) ?_
        exact RunS.done rfl (Wk.s3 [0, 1, 2, 3, 4] ⟨⟨_, rfl, bu_d⟩, ⟨_, rfl, bu_own⟩, ⟨_, rfl, bu_mk⟩, ⟨_, rfl, bu_own⟩, ⟨_, rfl, bu_mk⟩, trivial⟩ ⟨lv, lv, lv, lu_hd (b' := 2) (by kernel_rfl) (by kernel_rfl), lv, lu_hd (b' := 4) (by kernel_rfl) (by kernel_rfl), lv, lv, lv, lv, lv, lv, lv, trivial⟩)
      refine Sem.seq ?_
      refine Sem.seq ?_
      refine Sem.runS (s1 := ⟨Fr 86 [(0, .v (.int .i64 x0)), (1, .sl 1 (x1.map cdI.enc)), (8, .pt 0 0 0), (9, hd 2 (c98.map (cdL 1 (cdL 1 cdI)).enc)), (10, .rf 3 0 c145.length c145.length), (11, hd 4 (c146.map (cdL 1 cdI).enc)), (14, .e0), (32, .v (.int .i64 x2)), (33, .v (.int .i64 c99)), (37, .sl 1 (x1.map cdI.enc)), (38, .v (.int .i64 (x1.length : Int))), (39, .v (.int .i64 c147)), (43, .v (.int .i64 v149)), (44, .v (.int .i64 0))], [some ⟨2, 94, [.ag [.v (.int .i64 v6.1), .rf 1 0 c97.length c97.length]], false⟩, some ⟨1, 3, (c97.map cdI.enc), false⟩, mk 1 50 (c98.map (cdL 1 (cdL 1 cdI)).enc), some ⟨1, 3, (c145.map cdI.enc), false⟩, mk 1 31 (c146.map (cdL 1 cdI).enc)]⟩) ?_ ?_
      · refine RunS.segF (n := 86) e_evening_Plan_ok 2 [(0, .v (.int .i64 x0)), (1, .sl 1 (x1.map cdI.enc)), (8, .pt 0 0 0), (9, hd 2 (c98.map (cdL 1 (cdL 1 cdI)).enc)), (10, .rf 3 0 c145.length c145.length), (11, hd 4 (c146.map (cdL 1 cdI).enc)), (14, .e0), (32, .v (.int .i64 x2)), (33, .v (.int .i64 c99)), (37, .sl 1 (x1.map cdI.enc)), (38, .v (.int .i64 (x1.length : Int))), (39, .v (.int .i64 c147)), (43, .v (.int .i64 v149)), (44, .v (.int .i64 0))] [some ⟨2, 94, [.ag [.v (.int .i64 v6.1), .rf 1 0 c97.length c97.length]], false⟩, some ⟨1, 3, (c97.map cdI.enc), false⟩, mk 1 50 (c98.map (cdL 1 (cdL 1 cdI)).enc), some ⟨1, 3, (c145.map cdI.enc), false⟩, mk 1 31 (c146.map (cdL 1 cdI).enc)] (by kernel_rfl) ?_
        exact RunS.done rfl (Wk.s3 [0, 1, 2, 3, 4] ⟨⟨_, rfl, bu_d⟩, ⟨_, rfl, bu_own⟩, ⟨_, rfl, bu_mk⟩, ⟨_, rfl, bu_own⟩, ⟨_, rfl, bu_mk⟩, trivial⟩ ⟨lv, lv, lv, lu_hd (b' := 2) (by kernel_rfl) (by kernel_rfl), lv, lu_hd (b' := 4) (by kernel_rfl) (by kernel_rfl), lv, lv, lv, lv, lv, lv, lv, lv, trivial⟩)
      refine Sem.block ?_
      obtain ⟨r178, hr178, h⟩ := Option.bind_eq_some_iff.1 h
      refine Sem.loop (n := 100000) ?_
      refine Sem.cutN (SemN.wk (s1 := ⟨Fr 86 [(0, .v (.int .i64 x0)), (1, .sl 1 (x1.map cdI.enc)), (8, .pt 0 0 0), (9, hd 2 (c98.map (cdL 1 (cdL 1 cdI)).enc)), (10, .rf 3 0 c145.length c145.length), (11, hd 4 (c146.map (cdL 1 cdI).enc)), (14, hd 5 ([].map cdI.enc)), (32, .v (.int .i64 x2)), (33, .v (.int .i64 c99)), (37, .sl 1 (x1.map cdI.enc)), (38, .v (.int .i64 (x1.length : Int))), (39, .v (.int .i64 c147)), (43, .v (.int .i64 v149)), (44, .v (.int .i64 0))], [some ⟨2, 94, [.ag [.v (.int .i64 v6.1), .rf 1 0 c97.length c97.length]], false⟩, some ⟨1, 3, (c97.map cdI.enc), false⟩, mk 1 50 (c98.map (cdL 1 (cdL 1 cdI)).enc), some ⟨1, 3, (c145.map cdI.enc), false⟩, mk 1 31 (c146.map (cdL 1 cdI).enc), mk 1 3 ([].map cdI.enc)]⟩) (Wk.trans (s1 := ⟨Fr 86 [(0, .v (.int .i64 x0)), (1, .sl 1 (x1.map cdI.enc)), (8, .pt 0 0 0), (9, hd 2 (c98.map (cdL 1 (cdL 1 cdI)).enc)), (10, .rf 3 0 c145.length c145.length), (11, hd 4 (c146.map (cdL 1 cdI).enc)), (14, hd 5 ([].map cdI.enc)), (32, .v (.int .i64 x2)), (33, .v (.int .i64 c99)), (37, .sl 1 (x1.map cdI.enc)), (38, .v (.int .i64 (x1.length : Int))), (39, .v (.int .i64 c147)), (43, .v (.int .i64 v149)), (44, .v (.int .i64 0))], [some ⟨2, 94, [.ag [.v (.int .i64 v6.1), .rf 1 0 c97.length c97.length]], false⟩, some ⟨1, 3, (c97.map cdI.enc), false⟩, mk 1 50 (c98.map (cdL 1 (cdL 1 cdI)).enc), some ⟨1, 3, (c145.map cdI.enc), false⟩, mk 1 31 (c146.map (cdL 1 cdI).enc), mk 1 3 ([].map cdI.enc)]⟩) Wk.none (Wk.s3 [0, 1, 2, 3, 4, 5] ⟨⟨_, rfl, bu_d⟩, ⟨_, rfl, bu_own⟩, ⟨_, rfl, bu_mk⟩, ⟨_, rfl, bu_own⟩, ⟨_, rfl, bu_mk⟩, ⟨_, rfl, bu_none⟩, trivial⟩ ⟨lv, lv, lv, lu_hd (b' := 2) (by kernel_rfl) (by kernel_rfl), lv, lu_hd (b' := 4) (by kernel_rfl) (by kernel_rfl), lv, lv, lv, lv, lv, lv, lv, lv, trivial⟩)) (evening_Plan_3_ok x0 x1 x2 v6 c97 c98 c99 c146 c147 v149 _ c145 [] 0 _ hr178)) ?_
      by_cases hk179 : (capOk 24 (c146.length + 1)) = true
      case neg => rw [if_neg hk179] at h; cases h
      rw [if_pos hk179] at h
      refine Sem.runS (s1 := ⟨Fr 86 [(0, .v (.int .i64 x0)), (1, .sl 1 (x1.map cdI.enc)), (8, .pt 0 0 0), (9, hd 2 (c98.map (cdL 1 (cdL 1 cdI)).enc)), (10, .rf 3 0 r178.1.length r178.1.length), (11, hd 4 ((c146 ++ [r178.2]).map (cdL 1 cdI).enc)), (32, .v (.int .i64 x2)), (33, .v (.int .i64 c99)), (37, .sl 1 (x1.map cdI.enc)), (38, .v (.int .i64 (x1.length : Int))), (39, .v (.int .i64 c147))], [some ⟨2, 94, [.ag [.v (.int .i64 v6.1), .rf 1 0 c97.length c97.length]], false⟩, some ⟨1, 3, (c97.map cdI.enc), false⟩, mk 1 50 (c98.map (cdL 1 (cdL 1 cdI)).enc), some ⟨1, 3, (r178.1.map cdI.enc), false⟩, mk 1 31 ((c146 ++ [r178.2]).map (cdL 1 cdI).enc)]⟩) ?_ ?_
      · refine RunS.segF (n := 86) e_evening_Plan_ok 2 [(0, .v (.int .i64 x0)), (1, .sl 1 (x1.map cdI.enc)), (8, .pt 0 0 0), (9, hd 2 (c98.map (cdL 1 (cdL 1 cdI)).enc)), (10, .rf 3 0 r178.1.length r178.1.length), (32, .v (.int .i64 x2)), (33, .v (.int .i64 c99)), (37, .sl 1 (x1.map cdI.enc)), (38, .v (.int .i64 (x1.length : Int))), (39, .v (.int .i64 c147)), (63, hd 4 (c146.map (cdL 1 cdI).enc)), (64, hd 5 (r178.2.map cdI.enc))] [some ⟨2, 94, [.ag [.v (.int .i64 v6.1), .rf 1 0 c97.length c97.length]], false⟩, some ⟨1, 3, (c97.map cdI.enc), false⟩, mk 1 50 (c98.map (cdL 1 (cdL 1 cdI)).enc), some ⟨1, 3, (r178.1.map cdI.enc), false⟩, mk 1 31 (c146.map (cdL 1 cdI).enc), mk 1 3 (r178.2.map cdI.enc)] (by kernel_rfl) ?_
        refine RunS.wk (s1 := ⟨Fr 86 [(0, .v (.int .i64 x0)), (1, .sl 1 (x1.map cdI.enc)), (8, .pt 0 0 0), (9, hd 2 (c98.map (cdL 1 (cdL 1 cdI)).enc)), (10, .rf 3 0 r178.1.length r178.1.length), (32, .v (.int .i64 x2)), (33, .v (.int .i64 c99)), (37, .sl 1 (x1.map cdI.enc)), (38, .v (.int .i64 (x1.length : Int))), (39, .v (.int .i64 c147)), (63, hd 4 (c146.map (cdL 1 cdI).enc)), (64, .sl 1 (r178.2.map cdI.enc))], [some ⟨2, 94, [.ag [.v (.int .i64 v6.1), .rf 1 0 c97.length c97.length]], false⟩, some ⟨1, 3, (c97.map cdI.enc), false⟩, mk 1 50 (c98.map (cdL 1 (cdL 1 cdI)).enc), some ⟨1, 3, (r178.1.map cdI.enc), false⟩, mk 1 31 (c146.map (cdL 1 cdI).enc), none]⟩) (Wk.frzG 5 (.inl (by kernel_rfl)) ⟨.inr (.inr ⟨_, _, _, _, rfl, rfl, ⟨.inl rfl, trivial⟩⟩), .inr (.inl rfl), .inr (.inl rfl), .inr (.inl rfl), .inr (.inl rfl), .inl rfl, trivial⟩ ⟨⟨.v (.int .i64 x0), (by kernel_rfl), .inl rfl⟩, ⟨.sl 1 (x1.map cdI.enc), (by kernel_rfl), .inl rfl⟩, ⟨.pt 0 0 0, (by kernel_rfl), .inl rfl⟩, ⟨hd 2 (c98.map (cdL 1 (cdL 1 cdI)).enc), (by kernel_rfl), .inl rfl⟩, ⟨.rf 3 0 r178.1.length r178.1.length, (by kernel_rfl), .inl rfl⟩, ⟨.v (.int .i64 x2), (by kernel_rfl), .inl rfl⟩, ⟨.v (.int .i64 c99), (by kernel_rfl), .inl rfl⟩, ⟨.sl 1 (x1.map cdI.enc), (by kernel_rfl), .inl rfl⟩, ⟨.v (.int .i64 (x1.length : Int)), (by kernel_rfl), .inl rfl⟩, ⟨.v (.int .i64 c147), (by kernel_rfl), .inl rfl⟩, ⟨hd 4 (c146.map (cdL 1 cdI).enc), (by kernel_rfl), .inl rfl⟩, ⟨hd 5 (r178.2.map cdI.enc), (by kernel_rfl), fz_hd (t := 3) (by kernel_rfl) enc_ok⟩, trivial⟩) ?_
        refine RunS.segF (n := 86) e_evening_Plan_ok 1 [(0, .v (.int .i64 x0)), (1, .sl 1 (x1.map cdI.enc)), (8, .pt 0 0 0), (9, hd 2 (c98.map (cdL 1 (cdL 1 cdI)).enc)), (10, .rf 3 0 r178.1.length r178.1.length), (32, .v (.int .i64 x2)), (33, .v (.int .i64 c99)), (37, .sl 1 (x1.map cdI.enc)), (38, .v (.int .i64 (x1.length : Int))), (39, .v (.int .i64 c147)), (63, hd 4 (c146.map (cdL 1 cdI).enc)), (65, hd 6 ([r178.2].map (cdL 1 cdI).enc))] [some ⟨2, 94, [.ag [.v (.int .i64 v6.1), .rf 1 0 c97.length c97.length]], false⟩, some ⟨1, 3, (c97.map cdI.enc), false⟩, mk 1 50 (c98.map (cdL 1 (cdL 1 cdI)).enc), some ⟨1, 3, (r178.1.map cdI.enc), false⟩, mk 1 31 (c146.map (cdL 1 cdI).enc), none, mk 1 31 ([r178.2].map (cdL 1 cdI).enc)] (by kernel_rfl) ?_
        refine RunS.one e_evening_Plan_ok 0 rfl (op_w (wantedA_none rfl) rfl (by kernel_rfl) (by kernel_rfl) (w_append (a := hd 4 (c146.map (cdL 1 cdI).enc)) (b := hd 6 ([r178.2].map (cdL 1 cdI).enc)) (by kernel_rfl) (by kernel_rfl) (append_B (c := (cdL 1 cdI)) (xs := c146) (vs := [r178.2]) (k := 1) (bytes := 24) (el := 31) (by kernel_rfl) (by kernel_rfl) (elems_hd (t := 31) (by kernel_rfl)) (List.cons_ne_nil _ _) (by kernel_rfl) hk179))) ?_
        refine RunS.segF (n := 86) e_evening_Plan_ok 1 [(0, .v (.int .i64 x0)), (1, .sl 1 (x1.map cdI.enc)), (8, .pt 0 0 0), (9, hd 2 (c98.map (cdL 1 (cdL 1 cdI)).enc)), (10, .rf 3 0 r178.1.length r178.1.length), (11, hd 7 ((c146 ++ [r178.2]).map (cdL 1 cdI).enc)), (32, .v (.int .i64 x2)), (33, .v (.int .i64 c99)), (37, .sl 1 (x1.map cdI.enc)), (38, .v (.int .i64 (x1.length : Int))), (39, .v (.int .i64 c147))] [some ⟨2, 94, [.ag [.v (.int .i64 v6.1), .rf 1 0 c97.length c97.length]], false⟩, some ⟨1, 3, (c97.map cdI.enc), false⟩, mk 1 50 (c98.map (cdL 1 (cdL 1 cdI)).enc), some ⟨1, 3, (r178.1.map cdI.enc), false⟩, none, none, mk 1 31 ([r178.2].map (cdL 1 cdI).enc), mk 1 31 ((c146 ++ [r178.2]).map (cdL 1 cdI).enc)] (by kernel_rfl) ?_
        exact RunS.done rfl (Wk.s3 [0, 1, 2, 3, 7] ⟨⟨_, rfl, bu_d⟩, ⟨_, rfl, bu_own⟩, ⟨_, rfl, bu_mk⟩, ⟨_, rfl, bu_own⟩, ⟨_, rfl, bu_mk⟩, trivial⟩ ⟨lv, lv, lv, lu_hd (b' := 2) (by kernel_rfl) (by kernel_rfl), lv, lu_hd (b' := 7) (by kernel_rfl) (by kernel_rfl), lv, lv, lv, lv, lv, trivial⟩)
      refine Sem.runS (s1 := ⟨Fr 86 [(0, .v (.int .i64 x0)), (1, .sl 1 (x1.map cdI.enc)), (8, .pt 0 0 0), (9, hd 2 (c98.map (cdL 1 (cdL 1 cdI)).enc)), (10, .rf 3 0 r178.1.length r178.1.length), (11, hd 4 ((c146 ++ [r178.2]).map (cdL 1 cdI).enc)), (32, .v (.int .i64 x2)), (33, .v (.int .i64 c99)), (37, .sl 1 (x1.map cdI.enc)), (38, .v (.int .i64 (x1.length : Int))), (39, .v (.int .i64 (wr .i64 (c147 + 1))))], [some ⟨2, 94, [.ag [.v (.int .i64 v6.1), .rf 1 0 c97.length c97.length]], false⟩, some ⟨1, 3, (c97.map cdI.enc), false⟩, mk 1 50 (c98.map (cdL 1 (cdL 1 cdI)).enc), some ⟨1, 3, (r178.1.map cdI.enc), false⟩, mk 1 31 ((c146 ++ [r178.2]).map (cdL 1 cdI).enc)]⟩) ?_ ?_
      · refine RunS.segF (n := 86) e_evening_Plan_ok 2 [(0, .v (.int .i64 x0)), (1, .sl 1 (x1.map cdI.enc)), (8, .pt 0 0 0), (9, hd 2 (c98.map (cdL 1 (cdL 1 cdI)).enc)), (10, .rf 3 0 r178.1.length r178.1.length), (11, hd 4 ((c146 ++ [r178.2]).map (cdL 1 cdI).enc)), (32, .v (.int .i64 x2)), (33, .v (.int .i64 c99)), (37, .sl 1 (x1.map cdI.enc)), (38, .v (.int .i64 (x1.length : Int))), (39, .v (.int .i64 (wr .i64 (c147 + 1))))] [some ⟨2, 94, [.ag [.v (.int .i64 v6.1), .rf 1 0 c97.length c97.length]], false⟩, some ⟨1, 3, (c97.map cdI.enc), false⟩, mk 1 50 (c98.map (cdL 1 (cdL 1 cdI)).enc), some ⟨1, 3, (r178.1.map cdI.enc), false⟩, mk 1 31 ((c146 ++ [r178.2]).map (cdL 1 cdI).enc)] (by kernel_rfl) ?_
        exact RunS.done rfl (Wk.s3 [0, 1, 2, 3, 4] ⟨⟨_, rfl, bu_d⟩, ⟨_, rfl, bu_own⟩, ⟨_, rfl, bu_mk⟩, ⟨_, rfl, bu_own⟩, ⟨_, rfl, bu_mk⟩, trivial⟩ ⟨lv, lv, lv, lu_hd (b' := 2) (by kernel_rfl) (by kernel_rfl), lv, lu_hd (b' := 4) (by kernel_rfl) (by kernel_rfl), lv, lv, lv, lv, lv, trivial⟩)
      exact SemN.wk (s1 := ⟨Fr 86 [(0, .v (.int .i64 x0)), (1, .sl 1 (x1.map cdI.enc)), (8, .pt 0 0 0), (9, hd 2 (c98.map (cdL 1 (cdL 1 cdI)).enc)), (10, .rf 3 0 r178.1.length r178.1.length), (11, hd 4 ((c146 ++ [r178.2]).map (cdL 1 cdI).enc)), (32, .v (.int .i64 x2)), (33, .v (.int .i64 c99)), (37, .sl 1 (x1.map cdI.enc)), (38, .v (.int .i64 (x1.length : Int))), (39, .v (.int .i64 (wr .i64 (c147 + 1))))], [some ⟨2, 94, [.ag [.v (.int .i64 v6.1), .rf 1 0 c97.length c97.length]], false⟩, some ⟨1, 3, (c97.map cdI.enc), false⟩, mk 1 50 (c98.map (cdL 1 (cdL 1 cdI)).enc), some ⟨1, 3, (r178.1.map cdI.enc), false⟩, mk 1 31 ((c146 ++ [r178.2]).map (cdL 1 cdI).enc)]⟩) (Wk.s3 [0, 1, 2, 3, 4] ⟨⟨_, rfl, bu_d⟩, ⟨_, rfl, bu_own⟩, ⟨_, rfl, bu_mk⟩, ⟨_, rfl, bu_own⟩, ⟨_, rfl, bu_mk⟩, trivial⟩ ⟨lv, lv, lv, lu_hd (b' := 2) (by kernel_rfl) (by kernel_rfl), lv, lu_hd (b' := 4) (by kernel_rfl) (by kernel_rfl), lv, lv, lv, lv, lv, trivial⟩) (ih r178.1 (c146 ++ [r178.2]) (wr .i64 (c147 + 1)) h)
    · rw [if_f hb148] at h
      refine Sem.exit ?_
      have hq := Option.some.inj h; subst hq
      exact ⟨rfl, (Wk.s3 [0, 1, 2, 4] ⟨⟨_, rfl, bu_d⟩, ⟨_, rfl, bu_own⟩, ⟨_, rfl, bu_mk⟩, ⟨_, rfl, bu_mk⟩, trivial⟩ ⟨lv, lv, lv, lu_hd (b' := 2) (by kernel_rfl) (by kernel_rfl), lu_hd (b' := 4) (by kernel_rfl) (by kernel_rfl), lv, lv, trivial⟩)⟩
set_option maxHeartbeats 4000000 in
set_option maxRecDepth 100000 in
theorem evening_Plan_1_ok (x0 : Int) (x1 : (List Int)) (x2 : Int) (v6 : Int × Int × (List Int)) : ∀ (f : Nat) (c97 : (List Int)) (c98 : (List (List (List Int)))) (c99 : Int) (r : ((List (List (List Int))))), evening_Plan_1 x0 x1 x2 v6 f c97 c98 c99 = some r → SemN e_evening_Plan ⟨none, false⟩ (pc cb_evening_Plan [1, 1, 1, 1, 0, 1, 0, 0]) f ⟨Fr 86 [(0, .v (.int .i64 x0)), (1, .sl 1 (x1.map cdI.enc)), (8, .pt 0 0 0), (9, hd 2 (c98.map (cdL 1 (cdL 1 cdI)).enc)), (32, .v (.int .i64 x2)), (33, .v (.int .i64 c99))], [some ⟨2, 94, [.ag [.v (.int .i64 v6.1), .rf 1 0 c97.length c97.length]], false⟩, some ⟨1, 3, (c97.map cdI.enc), false⟩, mk 1 50 (c98.map (cdL 1 (cdL 1 cdI)).enc)]⟩ (fun e s => e = (.exit 1) ∧ Wk e_evening_Plan s ⟨Fr 86 [(9, hd 0 (r.map (cdL 1 (cdL 1 cdI)).enc))], [mk 1 50 (r.map (cdL 1 (cdL 1 cdI)).enc)]⟩) := by
  intro f
  induction f with
  | zero => intro c97 c98 c99 r h; cases h
  | succ f ih0 =>
    intro c97 c98 c99 r h
    have ih := fun (c97 : (List Int)) (c98 : (List (List (List Int)))) (c99 : Int) => ih0 c97 c98 c99 r
    unfold evening_Plan_1 at h
    refine SemN.succ ?_
    refine Sem.seq ?_
    refine Sem.runS (s1 := ⟨Fr 86 [(0, .v (.int .i64 x0)), (1, .sl 1 (x1.map cdI.enc)), (8, .pt 0 0 0), (9, hd 2 (c98.map (cdL 1 (cdL 1 cdI)).enc)), (32, .v (.int .i64 x2)), (33, .v (.int .i64 c99)), (34, .v (.bool (decide (c99 < x2))))], [some ⟨2, 94, [.ag [.v (.int .i64 v6.1), .rf 1 0 c97.length c97.length]], false⟩, some ⟨1, 3, (c97.map cdI.enc), false⟩, mk 1 50 (c98.map (cdL 1 (cdL 1 cdI)).enc)]⟩) ?_ ?_
    · refine RunS.segF (n := 86) e_evening_Plan_ok 1 [(0, .v (.int .i64 x0)), (1, .sl 1 (x1.map cdI.enc)), (8, .pt 0 0 0), (9, hd 2 (c98.map (cdL 1 (cdL 1 cdI)).enc)), (32, .v (.int .i64 x2)), (33, .v (.int .i64 c99)), (34, .v (.bool (decide (c99 < x2))))] [some ⟨2, 94, [.ag [.v (.int .i64 v6.1), .rf 1 0 c97.length c97.length]], false⟩, some ⟨1, 3, (c97.map cdI.enc), false⟩, mk 1 50 (c98.map (cdL 1 (cdL 1 cdI)).enc)] (by kernel_rfl) ?_
      exact RunS.done rfl (Wk.s3 [0, 1, 2] ⟨⟨_, rfl, bu_d⟩, ⟨_, rfl, bu_own⟩, ⟨_, rfl, bu_mk⟩, trivial⟩ ⟨lv, lv, lv, lu_hd (b' := 2) (by kernel_rfl) (by kernel_rfl), lv, lv, lv, trivial⟩)
    refine Sem.seq ?_
    refine Sem.cond (b := (decide (c99 < x2))) (by kernel_rfl) (fun hb100 => ?_) (fun hb100 => ?_)
    · rw [if_pos hb100] at h
      refine Sem.skip ?_
      refine Sem.seq ?_
      refine Sem.block ?_
      refine Sem.seq ?_
      obtain ⟨v101, hv101, h⟩ := Option.bind_eq_some_iff.1 h
      by_cases hk102 : (decide (0 < v101.length)) = true
      case neg => rw [if_neg hk102] at h; cases h
      rw [if_pos hk102] at h
      refine Sem.runS (s1 := ⟨Fr 86 [(0, .v (.int .i64 x0)), (1, .sl 1 (x1.map cdI.enc)), (8, .pt 0 0 0), (9, hd 2 (c98.map (cdL 1 (cdL 1 cdI)).enc)), (10, .rf 3 0 v101.length v101.length), (32, .v (.int .i64 x2)), (33, .v (.int .i64 c99))], [some ⟨2, 94, [.ag [.v (.int .i64 v6.1), .rf 1 0 c97.length c97.length]], false⟩, some ⟨1, 3, (c97.map cdI.enc), false⟩, mk 1 50 (c98.map (cdL 1 (cdL 1 cdI)).enc), some ⟨1, 3, (v101.map cdI.enc), false⟩]⟩) ?_ ?_
      · refine RunS.segF (n := 86) e_evening_Plan_ok 1 [(0, .v (.int .i64 x0)), (1, .sl 1 (x1.map cdI.enc)), (8, .pt 0 0 0), (9, hd 2 (c98.map (cdL 1 (cdL 1 cdI)).enc)), (32, .v (.int .i64 x2)), (33, .v (.int .i64 c99)), (35, .v (.int .i64 x0))] [some ⟨2, 94, [.ag [.v (.int .i64 v6.1), .rf 1 0 c97.length c97.length]], false⟩, some ⟨1, 3, (c97.map cdI.enc), false⟩, mk 1 50 (c98.map (cdL 1 (cdL 1 cdI)).enc)] (by kernel_rfl) ?_
        refine RunS.callO1 (c := cdI) (vs := v101) rfl rfl (s_evening_span 0 x0 _ hv101) hk102 rfl (wantedA_none rfl) (by kernel_rfl) (by kernel_rfl) (by kernel_rfl) (noRf_map (c := cdI) (fun _ => rfl) _) ?_
        refine RunS.segF (n := 86) e_evening_Plan_ok 1 [(0, .v (.int .i64 x0)), (1, .sl 1 (x1.map cdI.enc)), (8, .pt 0 0 0), (9, hd 2 (c98.map (cdL 1 (cdL 1 cdI)).enc)), (10, .rf 3 0 v101.length v101.length), (32, .v (.int .i64 x2)), (33, .v (.int .i64 c99))] [some ⟨2, 94, [.ag [.v (.int .i64 v6.1), .rf 1 0 c97.length c97.length]], false⟩, some ⟨1, 3, (c97.map cdI.enc), false⟩, mk 1 50 (c98.map (cdL 1 (cdL 1 cdI)).enc), some ⟨1, 3, (v101.map cdI.enc), false⟩] (by kernel_rfl) ?_
        exact RunS.done rfl (Wk.s3 [0, 1, 2, 3] ⟨⟨_, rfl, bu_d⟩, ⟨_, rfl, bu_own⟩, ⟨_, rfl, bu_mk⟩, ⟨_, rfl, bu_own⟩, trivial⟩ ⟨lv, lv, lv, lu_hd (b' := 2) (by kernel_rfl) (by kernel_rfl), lv, lv, lv, trivial⟩)
      refine Sem.seq ?_
      refine Sem.runS (s1 := ⟨Fr 86 [(0, .v (.int .i64 x0)), (1, .sl 1 (x1.map cdI.enc)), (8, .pt 0 0 0), (9, hd 2 (c98.map (cdL 1 (cdL 1 cdI)).enc)), (10, .rf 3 0 v101.length v101.length), (11, .e0), (32, .v (.int .i64 x2)), (33, .v (.int .i64 c99))], [some ⟨2, 94, [.ag [.v (.int .i64 v6.1), .rf 1 0 c97.length c97.length]], false⟩, some ⟨1, 3, (c97.map cdI.enc), false⟩, mk 1 50 (c98.map (cdL 1 (cdL 1 cdI)).enc), some ⟨1, 3, (v101.map cdI.enc), false⟩]⟩) ?_ ?_
      · refine RunS.segF (n := 86) e_evening_Plan_ok 1 [(0, .v (.int .i64 x0)), (1, .sl 1 (x1.map cdI.enc)), (8, .pt 0 0 0), (9, hd 2 (c98.map (cdL 1 (cdL 1 cdI)).enc)), (10, .rf 3 0 v101.length v101.length), (11, .e0), (32, .v (.int .i64 x2)), (33, .v (.int .i64 c99))] [some ⟨2, 94, [.ag [.v (.int .i64 v6.1), .rf 1 0 c97.length c97.length]], false⟩, some ⟨1, 3, (c97.map cdI.enc), false⟩, mk 1 50 (c98.map (cdL 1 (cdL 1 cdI)).enc), some ⟨1, 3, (v101.map cdI.enc), false⟩] (by kernel_rfl) ?_
        exact RunS.done rfl (Wk.s3 [0, 1, 2, 3] ⟨⟨_, rfl, bu_d⟩, ⟨_, rfl, bu_own⟩, ⟨_, rfl, bu_mk⟩, ⟨_, rfl, bu_own⟩, trivial⟩ ⟨lv, lv, lv, lu_hd (b' := 2) (by kernel_rfl) (by kernel_rfl), lv, lv, lv, lv, trivial⟩)
      refine Sem.seq ?_
      refine Sem.seq ?_
      refine Sem.runS (s1 := ⟨Fr 86 [(0, .v (.int .i64 x0)), (1, .sl 1 (x1.map cdI.enc)), (8, .pt 0 0 0), (9, hd 2 (c98.map (cdL 1 (cdL 1 cdI)).enc)), (10, .rf 3 0 v101.length v101.length), (11, .e0), (32, .v (.int .i64 x2)), (33, .v (.int .i64 c99)), (37, .sl 1 (x1.map cdI.enc)), (38, .v (.int .i64 (x1.length : Int))), (39, .v (.int .i64 0))], [some ⟨2, 94, [.ag [.v (.int .i64 v6.1), .rf 1 0 c97.length c97.length]], false⟩, some ⟨1, 3, (c97.map cdI.enc), false⟩, mk 1 50 (c98.map (cdL 1 (cdL 1 cdI)).enc), some ⟨1, 3, (v101.map cdI.enc), false⟩]⟩) ?_ ?_
      · refine RunS.segF (n := 86) e_evening_Plan_ok 1 [(0, .v (.int .i64 x0)), (1, .sl 1 (x1.map cdI.enc)), (8, .pt 0 0 0), (9, hd 2 (c98.map (cdL 1 (cdL 1 cdI)).enc)), (10, .rf 3 0 v101.length v101.length), (11, .e0), (32, .v (.int .i64 x2)), (33, .v (.int .i64 c99)), (37, .sl 1 (x1.map cdI.enc))] [some ⟨2, 94, [.ag [.v (.int .i64 v6.1), .rf 1 0 c97.length c97.length]], false⟩, some ⟨1, 3, (c97.map cdI.enc), false⟩, mk 1 50 (c98.map (cdL 1 (cdL 1 cdI)).enc), some ⟨1, 3, (v101.map cdI.enc), false⟩] (by kernel_rfl) ?_
        refine RunS.one e_evening_Plan_ok 0 rfl (op_q (wantedA_none rfl) rfl (q_len (a := .sl 1 (x1.map cdI.enc)) (by kernel_rfl) (len_sl (el := 3) (by kernel_rfl)))) ?_
        refine RunS.segF (n := 86) e_evening_Plan_ok 1 [(0, .v (.int .i64 x0)), (1, .sl 1 (x1.map cdI.enc)), (8, .pt 0 0 0), (9, hd 2 (c98.map (cdL 1 (cdL 1 cdI)).enc)), (10, .rf 3 0 v101.length v101.length), (11, .e0), (32, .v (.int .i64 x2)), (33, .v (.int .i64 c99)), (37, .sl 1 (x1.map cdI.enc)), (38, .v (.int .i64 (x1.length : Int))), (39, .v (.int .i64 0))] [some ⟨2, 94, [.ag [.v (.int .i64 v6.1), .rf 1 0 c97.length c97.length]], false⟩, some ⟨1, 3, (c97.map cdI.enc), false⟩, mk 1 50 (c98.map (cdL 1 (cdL 1 cdI)).enc), some ⟨1, 3, (v101.map cdI.enc), false⟩] (by kernel_rfl) ?_
        exact RunS.done rfl (Wk.s3 [0, 1, 2, 3] ⟨⟨_, rfl, bu_d⟩, ⟨_, rfl, bu_own⟩, ⟨_, rfl, bu_mk⟩, ⟨_, rfl, bu_own⟩, trivial⟩ ⟨lv, lv, lv, lu_hd (b' := 2) (by kernel_rfl) (by kernel_rfl), lv, lv, lv, lv, lv, lv, lv, trivial⟩)
      refine Sem.block ?_
      obtain ⟨r181, hr181, h⟩ := Option.bind_eq_some_iff.1 h
      refine Sem.loop (n := 100000) ?_
      refine Sem.cutN (SemN.wk (s1 := ⟨Fr 86 [(0, .v (.int .i64 x0)), (1, .sl 1 (x1.map cdI.enc)), (8, .pt 0 0 0), (9, hd 2 (c98.map (cdL 1 (cdL 1 cdI)).enc)), (10, .rf 3 0 v101.length v101.length), (11, hd 4 ([].map (cdL 1 cdI).enc)), (32, .v (.int .i64 x2)), (33, .v (.int .i64 c99)), (37, .sl 1 (x1.map cdI.enc)), (38, .v (.int .i64 (x1.length : Int))), (39, .v (.int .i64 0))], [some ⟨2, 94, [.ag [.v (.int .i64 v6.1), .rf 1 0 c97.length c97.length]], false⟩, some ⟨1, 3, (c97.map cdI.enc), false⟩, mk 1 50 (c98.map (cdL 1 (cdL 1 cdI)).enc), some ⟨1, 3, (v101.map cdI.enc), false⟩, mk 1 31 ([].map (cdL 1 cdI).enc)]⟩) (Wk.trans (s1 := ⟨Fr 86 [(0, .v (.int .i64 x0)), (1, .sl 1 (x1.map cdI.enc)), (8, .pt 0 0 0), (9, hd 2 (c98.map (cdL 1 (cdL 1 cdI)).enc)), (10, .rf 3 0 v101.length v101.length), (11, hd 4 ([].map (cdL 1 cdI).enc)), (32, .v (.int .i64 x2)), (33, .v (.int .i64 c99)), (37, .sl 1 (x1.map cdI.enc)), (38, .v (.int .i64 (x1.length : Int))), (39, .v (.int .i64 0))], [some ⟨2, 94, [.ag [.v (.int .i64 v6.1), .rf 1 0 c97.length c97.length]], false⟩, some ⟨1, 3, (c97.map cdI.enc), false⟩, mk 1 50 (c98.map (cdL 1 (cdL 1 cdI)).enc), some ⟨1, 3, (v101.map cdI.enc), false⟩, mk 1 31 ([].map (cdL 1 cdI).enc)]⟩) Wk.none (Wk.s3 [0, 1, 2, 3, 4] ⟨⟨_, rfl, bu_d⟩, ⟨_, rfl, bu_own⟩, ⟨_, rfl, bu_mk⟩, ⟨_, rfl, bu_own⟩, ⟨_, rfl, bu_none⟩, trivial⟩ ⟨lv, lv, lv, lu_hd (b' := 2) (by kernel_rfl) (by kernel_rfl), lv, lv, lv, lv, lv, lv, lv, trivial⟩)) (evening_Plan_2_ok x0 x1 x2 v6 c97 c98 c99 _ v101 [] 0 _ hr181)) ?_
      refine Sem.seq ?_
      refine Sem.seq ?_
      obtain ⟨v182, hv182, h⟩ := Option.bind_eq_some_iff.1 h
      refine Sem.runS (s1 := ⟨Fr 86 [(0, .v (.int .i64 x0)), (1, .sl 1 (x1.map cdI.enc)), (8, .pt 0 0 0), (9, hd 2 (c98.map (cdL 1 (cdL 1 cdI)).enc)), (11, .sl 1 (r181.map (cdL 1 cdI).enc)), (32, .v (.int .i64 x2)), (33, .v (.int .i64 c99)), (69, .fn 108 [] [.pt 3 0 0])], [some ⟨2, 94, [.ag [.v (.int .i64 v6.1), .rf 1 0 c97.length c97.length]], false⟩, some ⟨1, 3, (c97.map cdI.enc), false⟩, mk 1 50 (c98.map (cdL 1 (cdL 1 cdI)).enc), some ⟨1, 50, [.sl 1 (v182.map (cdL 1 cdI).enc)], false⟩]⟩) ?_ ?_
      · refine RunS.segF (n := 86) e_evening_Plan_ok 1 [(0, .v (.int .i64 x0)), (1, .sl 1 (x1.map cdI.enc)), (8, .pt 0 0 0), (9, hd 2 (c98.map (cdL 1 (cdL 1 cdI)).enc)), (11, hd 3 (r181.map (cdL 1 cdI).enc)), (32, .v (.int .i64 x2)), (33, .v (.int .i64 c99)), (68, hd 3 (r181.map (cdL 1 cdI).enc))] [some ⟨2, 94, [.ag [.v (.int .i64 v6.1), .rf 1 0 c97.length c97.length]], false⟩, some ⟨1, 3, (c97.map cdI.enc), false⟩, mk 1 50 (c98.map (cdL 1 (cdL 1 cdI)).enc), mk 1 31 (r181.map (cdL 1 cdI).enc)] (by kernel_rfl) ?_
        refine RunS.wk (s1 := ⟨Fr 86 [(0, .v (.int .i64 x0)), (1, .sl 1 (x1.map cdI.enc)), (8, .pt 0 0 0), (9, hd 2 (c98.map (cdL 1 (cdL 1 cdI)).enc)), (11, .sl 1 (r181.map (cdL 1 cdI).enc)), (32, .v (.int .i64 x2)), (33, .v (.int .i64 c99)), (68, .sl 1 (r181.map (cdL 1 cdI).enc))], [some ⟨2, 94, [.ag [.v (.int .i64 v6.1), .rf 1 0 c97.length c97.length]], false⟩, some ⟨1, 3, (c97.map cdI.enc), false⟩, mk 1 50 (c98.map (cdL 1 (cdL 1 cdI)).enc), none]⟩) (Wk.frzG 3 (.inl (by kernel_rfl)) ⟨.inr (.inr ⟨_, _, _, _, rfl, rfl, ⟨.inl rfl, trivial⟩⟩), .inr (.inl rfl), .inr (.inl rfl), .inl rfl, trivial⟩ ⟨⟨.v (.int .i64 x0), (by kernel_rfl), .inl rfl⟩, ⟨.sl 1 (x1.map cdI.enc), (by kernel_rfl), .inl rfl⟩, ⟨.pt 0 0 0, (by kernel_rfl), .inl rfl⟩, ⟨hd 2 (c98.map (cdL 1 (cdL 1 cdI)).enc), (by kernel_rfl), .inl rfl⟩, ⟨hd 3 (r181.map (cdL 1 cdI).enc), (by kernel_rfl), fz_hd (t := 31) (by kernel_rfl) enc_ok⟩, ⟨.v (.int .i64 x2), (by kernel_rfl), .inl rfl⟩, ⟨.v (.int .i64 c99), (by kernel_rfl), .inl rfl⟩, ⟨hd 3 (r181.map (cdL 1 cdI).enc), (by kernel_rfl), fz_hd (t := 31) (by kernel_rfl) enc_ok⟩, trivial⟩) ?_
        refine RunS.inlY (fid := 72) (caps := []) (xs := [.sl 1 (r181.map (cdL 1 cdI).enc)]) (fn := Tryd.f72) (Out := fun x h' => x = .fn 108 [] [.pt 4 0 0] ∧ h' = [some ⟨2, 94, [.ag [.v (.int .i64 v6.1), .rf 1 0 c97.length c97.length]], false⟩, some ⟨1, 3, (c97.map cdI.enc), false⟩, mk 1 50 (c98.map (cdL 1 (cdL 1 cdI)).enc), none, some ⟨1, 50, [.sl 1 (v182.map (cdL 1 cdI).enc)], false⟩]) rfl rfl e_evening_Plan_k2_ok rfl rfl rfl (wantedA_none rfl) (by kernel_rfl) (by kernel_rfl) (by kernel_rfl) (by kernel_rfl) (by show 1 ≤ 4; decide) (evening_Plan_k2_sem v6.1 c97 c98 r181 _ hv182) ?_
        rintro x h' ⟨rfl, rfl⟩
        exact RunS.done rfl (Wk.s3 [0, 1, 2, 4] ⟨⟨_, rfl, bu_d⟩, ⟨_, rfl, bu_own⟩, ⟨_, rfl, bu_mk⟩, ⟨_, rfl, bu_d⟩, trivial⟩ ⟨lv, lv, lv, lu_hd (b' := 2) (by kernel_rfl) (by kernel_rfl), lv, lv, lv, lv, trivial⟩)
      refine Sem.block ?_
      obtain ⟨v183, hv183, h⟩ := Option.bind_eq_some_iff.1 h
      refine Sem.range (E := e_evening_Plan) (gid := 108) (caps := [.pt 3 0 0]) (fn := Tryd.f108) (Out := fun x h' => x = .tp [] ∧ h' = [some ⟨2, 94, [.ag [.v (.int .i64 v6.1), .rf 1 0 v183.length v183.length]], false⟩, some ⟨1, 3, (v183.map cdI.enc), false⟩, mk 1 50 (c98.map (cdL 1 (cdL 1 cdI)).enc), some ⟨1, 50, [.sl 1 (v182.map (cdL 1 cdI).enc)], false⟩, none]) rfl rfl e_evening_Plan_k3_ok rfl rfl rfl (by kernel_rfl) (by kernel_rfl) (by kernel_rfl) (by kernel_rfl) (by kernel_rfl) (by show 2 ≤ 42; decide) (evening_Plan_k3_sem v6.1 c97 c98 v182 x0 x1 r181 x2 c99 _ hv183) ?_
      rintro x h' ⟨-, rfl⟩
      by_cases hk184 : (capOk 24 (c98.length + 1)) = true
      case neg => rw [if_neg hk184] at h; cases h
      rw [if_pos hk184] at h
      refine Sem.runS (s1 := ⟨Fr 86 [(0, .v (.int .i64 x0)), (1, .sl 1 (x1.map cdI.enc)), (8, .pt 0 0 0), (9, hd 2 ((c98 ++ [r181]).map (cdL 1 (cdL 1 cdI)).enc)), (32, .v (.int .i64 x2)), (33, .v (.int .i64 c99))], [some ⟨2, 94, [.ag [.v (.int .i64 v6.1), .rf 1 0 v183.length v183.length]], false⟩, some ⟨1, 3, (v183.map cdI.enc), false⟩, mk 1 50 ((c98 ++ [r181]).map (cdL 1 (cdL 1 cdI)).enc)]⟩) ?_ ?_
      · refine RunS.segF (n := 86) e_evening_Plan_ok 3 [(0, .v (.int .i64 x0)), (1, .sl 1 (x1.map cdI.enc)), (8, .pt 0 0 0), (32, .v (.int .i64 x2)), (33, .v (.int .i64 c99)), (80, hd 2 (c98.map (cdL 1 (cdL 1 cdI)).enc)), (82, hd 5 ([r181].map (cdL 1 (cdL 1 cdI)).enc))] [some ⟨2, 94, [.ag [.v (.int .i64 v6.1), .rf 1 0 v183.length v183.length]], false⟩, some ⟨1, 3, (v183.map cdI.enc), false⟩, mk 1 50 (c98.map (cdL 1 (cdL 1 cdI)).enc), some ⟨1, 50, [.sl 1 (v182.map (cdL 1 cdI).enc)], false⟩, none, mk 1 50 ([r181].map (cdL 1 (cdL 1 cdI)).enc)] (by kernel_rfl) ?_
        refine RunS.one e_evening_Plan_ok 0 rfl (op_w (wantedA_none rfl) rfl (by kernel_rfl) (by kernel_rfl) (w_append (a := hd 2 (c98.map (cdL 1 (cdL 1 cdI)).enc)) (b := hd 5 ([r181].map (cdL 1 (cdL 1 cdI)).enc)) (by kernel_rfl) (by kernel_rfl) (append_B (c := (cdL 1 (cdL 1 cdI))) (xs := c98) (vs := [r181]) (k := 1) (bytes := 24) (el := 50) (by kernel_rfl) (by kernel_rfl) (elems_hd (t := 50) (by kernel_rfl)) (List.cons_ne_nil _ _) (by kernel_rfl) hk184))) ?_
        refine RunS.segF (n := 86) e_evening_Plan_ok 1 [(0, .v (.int .i64 x0)), (1, .sl 1 (x1.map cdI.enc)), (8, .pt 0 0 0), (9, hd 6 ((c98 ++ [r181]).map (cdL 1 (cdL 1 cdI)).enc)), (32, .v (.int .i64 x2)), (33, .v (.int .i64 c99))] [some ⟨2, 94, [.ag [.v (.int .i64 v6.1), .rf 1 0 v183.length v183.length]], false⟩, some ⟨1, 3, (v183.map cdI.enc), false⟩, none, some ⟨1, 50, [.sl 1 (v182.map (cdL 1 cdI).enc)], false⟩, none, mk 1 50 ([r181].map (cdL 1 (cdL 1 cdI)).enc), mk 1 50 ((c98 ++ [r181]).map (cdL 1 (cdL 1 cdI)).enc)] (by kernel_rfl) ?_
        exact RunS.done rfl (Wk.s3 [0, 1, 6] ⟨⟨_, rfl, bu_d⟩, ⟨_, rfl, bu_own⟩, ⟨_, rfl, bu_mk⟩, trivial⟩ ⟨lv, lv, lv, lu_hd (b' := 6) (by kernel_rfl) (by kernel_rfl), lv, lv, trivial⟩)
      refine Sem.runS (s1 := ⟨Fr 86 [(0, .v (.int .i64 x0)), (1, .sl 1 (x1.map cdI.enc)), (8, .pt 0 0 0), (9, hd 2 ((c98 ++ [r181]).map (cdL 1 (cdL 1 cdI)).enc)), (32, .v (.int .i64 x2)), (33, .v (.int .i64 (wr .i64 (c99 + 1))))], [some ⟨2, 94, [.ag [.v (.int .i64 v6.1), .rf 1 0 v183.length v183.length]], false⟩, some ⟨1, 3, (v183.map cdI.enc), false⟩, mk 1 50 ((c98 ++ [r181]).map (cdL 1 (cdL 1 cdI)).enc)]⟩) ?_ ?_
      · refine RunS.segF (n := 86) e_evening_Plan_ok 2 [(0, .v (.int .i64 x0)), (1, .sl 1 (x1.map cdI.enc)), (8, .pt 0 0 0), (9, hd 2 ((c98 ++ [r181]).map (cdL 1 (cdL 1 cdI)).enc)), (32, .v (.int .i64 x2)), (33, .v (.int .i64 (wr .i64 (c99 + 1))))] [some ⟨2, 94, [.ag [.v (.int .i64 v6.1), .rf 1 0 v183.length v183.length]], false⟩, some ⟨1, 3, (v183.map cdI.enc), false⟩, mk 1 50 ((c98 ++ [r181]).map (cdL 1 (cdL 1 cdI)).enc)] (by kernel_rfl) ?_
        exact RunS.done rfl (Wk.s3 [0, 1, 2] ⟨⟨_, rfl, bu_d⟩, ⟨_, rfl, bu_own⟩, ⟨_, rfl, bu_mk⟩, trivial⟩ ⟨lv, lv, lv, lu_hd (b' := 2) (by kernel_rfl) (by kernel_rfl), lv, lv, trivial⟩)
      exact SemN.wk (s1 := ⟨Fr 86 [(0, .v (.int .i64 x0)), (1, .sl 1 (x1.map cdI.enc)), (8, .pt 0 0 0), (9, hd 2 ((c98 ++ [r181]).map (cdL 1 (cdL 1 cdI)).enc)), (32, .v (.int .i64 x2)), (33, .v (.int .i64 (wr .i64 (c99 + 1))))], [some ⟨2, 94, [.ag [.v (.int .i64 v6.1), .rf 1 0 v183.length v183.length]], false⟩, some ⟨1, 3, (v183.map cdI.enc), false⟩, mk 1 50 ((c98 ++ [r181]).map (cdL 1 (cdL 1 cdI)).enc)]⟩) (Wk.s3 [0, 1, 2] ⟨⟨_, rfl, bu_d⟩, ⟨_, rfl, bu_own⟩, ⟨_, rfl, bu_mk⟩, trivial⟩ ⟨lv, lv, lv, lu_hd (b' := 2) (by kernel_rfl) (by kernel_rfl), lv, lv, trivial⟩) (ih v183 (c98 ++ [r181]) (wr .i64 (c99 + 1)) h)
    · rw [if_f hb100] at h
      refine Sem.exit ?_
      have hq := Option.some.inj h; subst hq
      exact ⟨rfl, (Wk.s3 [2] ⟨⟨_, rfl, bu_mk⟩, trivial⟩ ⟨lu_hd (b' := 2) (by kernel_rfl) (by kernel_rfl), trivial⟩)⟩
set_option maxHeartbeats 4000000 in
set_option maxRecDepth 100000 in
theorem evening_Plan_sem (x0 : Int) (x1 : (List Int)) (x2 : Int) (r : (List (List (List Int))) × Int) (h : evening_Plan x0 x1 x2 = some r) : Sem e_evening_Plan ⟨none, false⟩ cb_evening_Plan ⟨Fr 86 (pairs0 0 (cs_evening_Plan.enc (x0, x1, x2, ()))), []⟩ fun e s' => (e = .normal ∨ e = .ret) ∧ ∃ xs, resA e_evening_Plan.P s'.fr s'.hp Tryd.f21.results.toList = some xs ∧ retA xs = er_evening_Plan r := by
  unfold evening_Plan at h
  refine Sem.wkQ (Sem.wk (s1 := ⟨Fr 86 [(0, .v (.int .i64 x0)), (1, .sl 1 (x1.map cdI.enc)), (2, .v (.int .i64 x2))], []⟩) Wk.f1 ?_)
  refine Sem.seq ?_
  refine Sem.runS (s1 := ⟨Fr 86 [(0, .v (.int .i64 x0)), (1, .sl 1 (x1.map cdI.enc)), (2, .v (.int .i64 x2))], []⟩) ?_ ?_
  · refine RunS.segF (n := 86) e_evening_Plan_ok 2 [(0, .v (.int .i64 x0)), (1, .sl 1 (x1.map cdI.enc)), (2, .v (.int .i64 x2))] [] (by kernel_rfl) ?_
    exact RunS.done rfl Wk.f1
  refine Sem.seq ?_
  refine Sem.block ?_
  refine Sem.seq ?_
  obtain ⟨v1, hv1, h⟩ := Option.bind_eq_some_iff.1 h
  refine Sem.runS (s1 := ⟨Fr 86 [(0, .v (.int .i64 x0)), (1, .sl 1 (x1.map cdI.enc)), (2, .v (.int .i64 x2)), (18, .v (.bool (!v1)))], []⟩) ?_ ?_
  · refine RunS.segF (n := 86) e_evening_Plan_ok 2 [(0, .v (.int .i64 x0)), (1, .sl 1 (x1.map cdI.enc)), (2, .v (.int .i64 x2)), (19, .v (.int .i64 x0)), (20, .sl 1 (x1.map cdI.enc))] [] (by kernel_rfl) ?_
    refine RunS.call e_evening_Plan_ok (fid := 67) (s := cs_evening_fit) (F := fun a => evening_fit a.1 a.2.1) (er := er_evening_fit) (xs := [.v (.int .i64 x0), .sl 1 (x1.map cdI.enc)]) (a := (x0, x1, ())) rfl (wantedA_none rfl) (by kernel_rfl) (by kernel_rfl) (by kernel_rfl) (by kernel_rfl) (Sns.cons (Sn.enc (c := cdI) (v := x0)) (Sns.cons (Sn.enc (c := (cdL 1 cdI)) (v := x1)) Sns.nil)) (.inl (by kernel_rfl)) hv1 ?_
    refine RunS.segF (n := 86) e_evening_Plan_ok 2 [(0, .v (.int .i64 x0)), (1, .sl 1 (x1.map cdI.enc)), (2, .v (.int .i64 x2)), (18, .v (.bool (!v1)))] [] (by kernel_rfl) ?_
    exact RunS.done rfl Wk.f1
  refine Sem.cond (b := (!v1)) (by kernel_rfl) (fun hb2 => ?_) (fun hb2 => ?_)
  · rw [if_pos hb2] at h
    refine Sem.seq ?_
    refine Sem.runS (s1 := ⟨Fr 86 [(6, .e0), (7, .v (.int .i64 90))], []⟩) ?_ ?_
    · refine RunS.segF (n := 86) e_evening_Plan_ok 2 [(6, .e0), (7, .v (.int .i64 90))] [] (by kernel_rfl) ?_
      exact RunS.done rfl Wk.f1
    refine Sem.ret ?_
    have hq := Option.some.inj h; subst hq
    exact ⟨⟨Fr 86 [(6, .sl 1 ([].map (cdL 1 (cdL 1 cdI)).enc)), (7, .v (.int .i64 90))], []⟩, (Wk.trans (s1 := ⟨Fr 86 [(6, .e0), (7, .v (.int .i64 90))], []⟩) Wk.f1 (Wk.trans (s1 := ⟨Fr 86 [(6, .e0), (7, .v (.int .i64 90))], [none]⟩) Wk.none (Wk.trans (s1 := ⟨Fr 86 [(6, .sl 1 ([].map (cdL 1 (cdL 1 cdI)).enc)), (7, .v (.int .i64 90))], [none]⟩) (Wk.frzG 0 (.inr (by kernel_rfl)) ⟨.inl rfl, trivial⟩ ⟨⟨.e0, (by kernel_rfl), fz_e0⟩, ⟨.v (.int .i64 90), (by kernel_rfl), .inl rfl⟩, trivial⟩) (Wk.s3 [] trivial ⟨lv, lv, trivial⟩)))), .inr rfl, [.sl 1 ([].map (cdL 1 (cdL 1 cdI)).enc), .v (.int .i64 90)], (by kernel_rfl), (by kernel_rfl)⟩
  · rw [if_f hb2] at h
    refine Sem.seq ?_
    obtain ⟨j4, hj4, h⟩ := Option.bind_eq_some_iff.1 h
    refine Sem.runS (s1 := ⟨Fr 86 [(0, .v (.int .i64 x0)), (1, .sl 1 (x1.map cdI.enc)), (2, .v (.int .i64 x2)), (23, .v (.bool j4))], []⟩) ?_ ?_
    · refine RunS.segF (n := 86) e_evening_Plan_ok 3 [(0, .v (.int .i64 x0)), (1, .sl 1 (x1.map cdI.enc)), (2, .v (.int .i64 x2)), (26, .v (.bool (decide (x2 < 0))))] [] (by kernel_rfl) ?_
      rcases Bool.eq_false_or_eq_true (decide (x2 < 0)) with hc187 | hc187
      · rw [if_pos hc187] at hj4
        rw [hc187]
        refine RunS.segF (n := 86) e_evening_Plan_ok 4 [(0, .v (.int .i64 x0)), (1, .sl 1 (x1.map cdI.enc)), (2, .v (.int .i64 x2)), (23, .v (.bool true))] [] (by kernel_rfl) ?_
        have hq := Option.some.inj hj4; subst hq
        exact RunS.done rfl Wk.f1
      · rw [if_f hc187] at hj4
        rw [hc187]
        refine RunS.segF (n := 86) e_evening_Plan_ok 4 [(0, .v (.int .i64 x0)), (1, .sl 1 (x1.map cdI.enc)), (2, .v (.int .i64 x2)), (23, .v (.bool (decide (x2 > 64))))] [] (by kernel_rfl) ?_
        have hq := Option.some.inj hj4; subst hq
        exact RunS.done rfl Wk.f1
    refine Sem.cond (b := j4) (by kernel_rfl) (fun hb5 => ?_) (fun hb5 => ?_)
    · rw [if_pos hb5] at h
      refine Sem.seq ?_
      refine Sem.runS (s1 := ⟨Fr 86 [(6, .e0), (7, .v (.int .i64 2))], []⟩) ?_ ?_
      · refine RunS.segF (n := 86) e_evening_Plan_ok 2 [(6, .e0), (7, .v (.int .i64 2))] [] (by kernel_rfl) ?_
        exact RunS.done rfl Wk.f1
      refine Sem.ret ?_
      have hq := Option.some.inj h; subst hq
      exact ⟨⟨Fr 86 [(6, .sl 1 ([].map (cdL 1 (cdL 1 cdI)).enc)), (7, .v (.int .i64 2))], []⟩, (Wk.trans (s1 := ⟨Fr 86 [(6, .e0), (7, .v (.int .i64 2))], []⟩) Wk.f1 (Wk.trans (s1 := ⟨Fr 86 [(6, .e0), (7, .v (.int .i64 2))], [none]⟩) Wk.none (Wk.trans (s1 := ⟨Fr 86 [(6, .sl 1 ([].map (cdL 1 (cdL 1 cdI)).enc)), (7, .v (.int .i64 2))], [none]⟩) (Wk.frzG 0 (.inr (by kernel_rfl)) ⟨.inl rfl, trivial⟩ ⟨⟨.e0, (by kernel_rfl), fz_e0⟩, ⟨.v (.int .i64 2), (by kernel_rfl), .inl rfl⟩, trivial⟩) (Wk.s3 [] trivial ⟨lv, lv, trivial⟩)))), .inr rfl, [.sl 1 ([].map (cdL 1 (cdL 1 cdI)).enc), .v (.int .i64 2)], (by kernel_rfl), (by kernel_rfl)⟩
    · rw [if_f hb5] at h
      refine Sem.skip ?_
      refine Sem.seq ?_
      obtain ⟨v6, hv6, h⟩ := Option.bind_eq_some_iff.1 h
      refine Sem.runS (s1 := ⟨Fr 86 [(0, .v (.int .i64 x0)), (1, .sl 1 (x1.map cdI.enc)), (2, .v (.int .i64 x2)), (8, .pt 0 0 0)], [some ⟨2, 94, [.ag [.v (.int .i64 v6.1), .rf 1 0 v6.2.2.length v6.2.2.length]], false⟩, some ⟨1, 3, (v6.2.2.map cdI.enc), false⟩]⟩) ?_ ?_
      · refine RunS.segF (n := 86) e_evening_Plan_ok 1 [(0, .v (.int .i64 x0)), (1, .sl 1 (x1.map cdI.enc)), (2, .v (.int .i64 x2)), (30, .v (.int .i64 x0))] [] (by kernel_rfl) ?_
        refine RunS.inlY (fid := 68) (caps := []) (xs := [.v (.int .i64 x0)]) (fn := Tryd.f68) (Out := fun x h' => x = .ag [.v (.int .i64 v6.1), .rf 1 0 v6.2.2.length v6.2.2.length] ∧ h' = [some ⟨2, 94, [.ag [.v (.int .i64 v6.2.1), .rf 1 0 v6.2.2.length v6.2.2.length]], false⟩, some ⟨1, 3, (v6.2.2.map cdI.enc), false⟩]) rfl rfl e_evening_Plan_k1_ok rfl rfl rfl (wantedA_none rfl) (by kernel_rfl) (by kernel_rfl) (by kernel_rfl) (by kernel_rfl) (by show 1 ≤ 9; decide) (evening_Plan_k1_sem x0 _ hv6) ?_
        rintro x h' ⟨rfl, rfl⟩
        refine RunS.segF (n := 86) e_evening_Plan_ok 2 [(0, .v (.int .i64 x0)), (1, .sl 1 (x1.map cdI.enc)), (2, .v (.int .i64 x2)), (8, .pt 2 0 0)] [some ⟨2, 94, [.ag [.v (.int .i64 v6.2.1), .rf 1 0 v6.2.2.length v6.2.2.length]], false⟩, some ⟨1, 3, (v6.2.2.map cdI.enc), false⟩, some ⟨2, 94, [.ag [.v (.int .i64 v6.1), .rf 1 0 v6.2.2.length v6.2.2.length]], false⟩] (by kernel_rfl) ?_
        exact RunS.done rfl (Wk.s3 [2, 1] ⟨⟨_, rfl, bu_d⟩, ⟨_, rfl, bu_own⟩, trivial⟩ ⟨lv, lv, lv, lv, trivial⟩)
      refine Sem.seq ?_
      refine Sem.runS (s1 := ⟨Fr 86 [(0, .v (.int .i64 x0)), (1, .sl 1 (x1.map cdI.enc)), (2, .v (.int .i64 x2)), (8, .pt 0 0 0), (9, .e0)], [some ⟨2, 94, [.ag [.v (.int .i64 v6.1), .rf 1 0 v6.2.2.length v6.2.2.length]], false⟩, some ⟨1, 3, (v6.2.2.map cdI.enc), false⟩]⟩) ?_ ?_
      · refine RunS.segF (n := 86) e_evening_Plan_ok 1 [(0, .v (.int .i64 x0)), (1, .sl 1 (x1.map cdI.enc)), (2, .v (.int .i64 x2)), (8, .pt 0 0 0), (9, .e0)] [some ⟨2, 94, [.ag [.v (.int .i64 v6.1), .rf 1 0 v6.2.2.length v6.2.2.length]], false⟩, some ⟨1, 3, (v6.2.2.map cdI.enc), false⟩] (by kernel_rfl) ?_
        exact RunS.done rfl (Wk.s3 [0, 1] ⟨⟨_, rfl, bu_d⟩, ⟨_, rfl, bu_own⟩, trivial⟩ ⟨lv, lv, lv, lv, lv, trivial⟩)
      refine Sem.seq ?_
      refine Sem.seq ?_
      refine Sem.runS (s1 := ⟨Fr 86 [(0, .v (.int .i64 x0)), (1, .sl 1 (x1.map cdI.enc)), (8, .pt 0 0 0), (9, .e0), (32, .v (.int .i64 x2)), (33, .v (.int .i64 0))], [some ⟨2, 94, [.ag [.v (.int .i64 v6.1), .rf 1 0 v6.2.2.length v6.2.2.length]], false⟩, some ⟨1, 3, (v6.2.2.map cdI.enc), false⟩]⟩) ?_ ?_
      · refine RunS.segF (n := 86) e_evening_Plan_ok 2 [(0, .v (.int .i64 x0)), (1, .sl 1 (x1.map cdI.enc)), (8, .pt 0 0 0), (9, .e0), (32, .v (.int .i64 x2)), (33, .v (.int .i64 0))] [some ⟨2, 94, [.ag [.v (.int .i64 v6.1), .rf 1 0 v6.2.2.length v6.2.2.length]], false⟩, some ⟨1, 3, (v6.2.2.map cdI.enc), false⟩] (by kernel_rfl) ?_
        exact RunS.done rfl (Wk.s3 [0, 1] ⟨⟨_, rfl, bu_d⟩, ⟨_, rfl, bu_own⟩, trivial⟩ ⟨lv, lv, lv, lv, lv, lv, trivial⟩)
      refine Sem.block ?_
      obtain ⟨r186, hr186, h⟩ := Option.bind_eq_some_iff.1 h
      refine Sem.loop (n := 100000) ?_
      refine Sem.cutN (SemN.wk (s1 := ⟨Fr 86 [(0, .v (.int .i64 x0)), (1, .sl 1 (x1.map cdI.enc)), (8, .pt 0 0 0), (9, hd 2 ([].map (cdL 1 (cdL 1 cdI)).enc)), (32, .v (.int .i64 x2)), (33, .v (.int .i64 0))], [some ⟨2, 94, [.ag [.v (.int .i64 v6.1), .rf 1 0 v6.2.2.length v6.2.2.length]], false⟩, some ⟨1, 3, (v6.2.2.map cdI.enc), false⟩, mk 1 50 ([].map (cdL 1 (cdL 1 cdI)).enc)]⟩) (Wk.trans (s1 := ⟨Fr 86 [(0, .v (.int .i64 x0)), (1, .sl 1 (x1.map cdI.enc)), (8, .pt 0 0 0), (9, hd 2 ([].map (cdL 1 (cdL 1 cdI)).enc)), (32, .v (.int .i64 x2)), (33, .v (.int .i64 0))], [some ⟨2, 94, [.ag [.v (.int .i64 v6.1), .rf 1 0 v6.2.2.length v6.2.2.length]], false⟩, some ⟨1, 3, (v6.2.2.map cdI.enc), false⟩, mk 1 50 ([].map (cdL 1 (cdL 1 cdI)).enc)]⟩) Wk.none (Wk.s3 [0, 1, 2] ⟨⟨_, rfl, bu_d⟩, ⟨_, rfl, bu_own⟩, ⟨_, rfl, bu_none⟩, trivial⟩ ⟨lv, lv, lv, lv, lv, lv, trivial⟩)) (evening_Plan_1_ok x0 x1 x2 v6 _ v6.2.2 [] 0 _ hr186)) ?_
      refine Sem.seq ?_
      refine Sem.runS (s1 := ⟨Fr 86 [(6, hd 0 (r186.map (cdL 1 (cdL 1 cdI)).enc)), (7, .v (.int .i64 0))], [mk 1 50 (r186.map (cdL 1 (cdL 1 cdI)).enc)]⟩) ?_ ?_
      · refine RunS.segF (n := 86) e_evening_Plan_ok 3 [(6, hd 0 (r186.map (cdL 1 (cdL 1 cdI)).enc)), (7, .v (.int .i64 0))] [mk 1 50 (r186.map (cdL 1 (cdL 1 cdI)).enc)] (by kernel_rfl) ?_
        exact RunS.done rfl (Wk.s3 [0] ⟨⟨_, rfl, bu_mk⟩, trivial⟩ ⟨lu_hd (b' := 0) (by kernel_rfl) (by kernel_rfl), lv, trivial⟩)
      refine Sem.ret ?_
      have hq := Option.some.inj h; subst hq
      exact ⟨⟨Fr 86 [(6, .sl 1 (r186.map (cdL 1 (cdL 1 cdI)).enc)), (7, .v (.int .i64 0))], []⟩, (Wk.trans (s1 := ⟨Fr 86 [(6, .sl 1 (r186.map (cdL 1 (cdL 1 cdI)).enc)), (7, .v (.int .i64 0))], [none]⟩) (Wk.frzG 0 (.inl (by kernel_rfl)) ⟨.inl rfl, trivial⟩ ⟨⟨hd 0 (r186.map (cdL 1 (cdL 1 cdI)).enc), (by kernel_rfl), fz_hd (t := 50) (by kernel_rfl) enc_ok⟩, ⟨.v (.int .i64 0), (by kernel_rfl), .inl rfl⟩, trivial⟩) (Wk.s3 [] trivial ⟨lv, lv, trivial⟩)), .inr rfl, [.sl 1 (r186.map (cdL 1 (cdL 1 cdI)).enc), .v (.int .i64 0)], (by kernel_rfl), (by kernel_rfl)⟩
def t_evening_Plan : List AV → Option AV := told cs_evening_Plan (fun a => evening_Plan a.1 a.2.1 a.2.2.1) er_evening_Plan
theorem x_evening_Plan : XOk 21 t_evening_Plan := by
  refine EnvOk.x (E := e_evening_Plan) (contract_ok e_evening_Plan_ok (fn := Tryd.f21) (c := cb_evening_Plan) ?h1 ?h2 ⟨Tryd.call21⟩ cs_evening_Plan (fun a => evening_Plan a.1 a.2.1 a.2.2.1) er_evening_Plan (fun a => (by show 3 ≤ 86; decide)) ?h3 ?h4) rfl rfl
  case h1 => kernel_rfl
  case h2 => kernel_rfl
  case h3 => intro b; kernel_rfl
  case h4 => exact fun a b h => evening_Plan_sem a.1 a.2.1 a.2.2.1 b h
/- trestle/trestleref09.Fit -/
noncomputable def e_ref09_Fit : Env := E0
theorem e_ref09_Fit_ok : EnvOk e_ref09_Fit := E0_ok
noncomputable def cb_ref09_Fit : Code := codeOf Tryd.f74
def ref09_Fit_1 (x0 : Int) (x1 : (List Int)) : Nat → Int → Int → Option ((Int) ⊕ (Bool))
  | 0, _, _ => none
  | f + 1, c1, c2 =>
    if (decide (c2 < (x1.length : Int))) = true then
    (idx x1 c2).bind fun v4 =>
    (if (decide (v4 < 1)) = true then some true else (idx x1 c2).bind fun v5 =>
    if (decide (v5 > 64)) = true then some true else some (decide (c1 > 64))).bind fun j7 =>
    if j7 = true then
    some (.inr false)
    else
    (idx x1 c2).bind fun v10 =>
    ref09_Fit_1 x0 x1 f (wr .i64 (c1 + v10)) (wr .i64 (c2 + 1))
    else
    some (.inl c1)
def ref09_Fit (x0 : Int) (x1 : (List Int)) : Option (Bool) :=
  (ref09_Fit_1 x0 x1 100000 0 0).bind fun r14 =>
  match r14 with
  | (.inl w15) =>
    (if (decide (x0 ≥ 1)) = true then if (decide (x0 ≤ 64)) = true then some (w15 == x0) else some false else some false).bind fun j17 =>
    some j17
  | (.inr w20) =>
    some w20
def cs_ref09_Fit : Cs (Int × (List Int) × Unit) := (csC cdI (csC (cdL 1 cdI) csN))
def er_ref09_Fit (r : Bool) : AV := cdB.enc r
set_option maxHeartbeats 4000000 in
set_option maxRecDepth 100000 in
theorem ref09_Fit_1_ok (x0 : Int) (x1 : (List Int)) : ∀ (f : Nat) (c1 : Int) (c2 : Int) (r : (Int) ⊕ (Bool)), ref09_Fit_1 x0 x1 f c1 c2 = some r → SemN e_ref09_Fit ⟨none, false⟩ (pc cb_ref09_Fit [1, 1, 0, 1, 0, 0]) f ⟨Fr 46 [(0, .v (.int .i64 x0)), (1, .sl 1 (x1.map cdI.enc)), (5, .v (.int .i64 c1)), (6, .v (.int .i64 c2))], []⟩ (fun e s => match r with
  | (.inl w) => e = (.exit 0) ∧ Wk e_ref09_Fit s ⟨Fr 46 [(0, .v (.int .i64 x0)), (5, .v (.int .i64 w))], []⟩
  | (.inr w) => e = .ret ∧ Wk e_ref09_Fit s ⟨Fr 46 [(4, .v (.bool w))], []⟩) := by
  intro f
  induction f with
  | zero => intro c1 c2 r h; cases h
  | succ f ih0 =>
    intro c1 c2 r h
    have ih := fun (c1 : Int) (c2 : Int) => ih0 c1 c2 r
    unfold ref09_Fit_1 at h
    refine SemN.succ ?_
    refine Sem.seq ?_
    refine Sem.seq ?_
    refine Sem.runS (s1 := ⟨Fr 46 [(0, .v (.int .i64 x0)), (1, .sl 1 (x1.map cdI.enc)), (5, .v (.int .i64 c1)), (6, .v (.int .i64 c2)), (10, .v (.bool (decide (c2 < (x1.length : Int)))))], []⟩) ?_ ?_
    · refine RunS.segF (n := 46) e_ref09_Fit_ok 2 [(0, .v (.int .i64 x0)), (1, .sl 1 (x1.map cdI.enc)), (5, .v (.int .i64 c1)), (6, .v (.int .i64 c2)), (7, .v (.int .i64 c2)), (8, .sl 1 (x1.map cdI.enc))] [] (by kernel_rfl) ?_
      refine RunS.one e_ref09_Fit_ok 0 rfl (op_q (wantedA_none rfl) rfl (q_len (a := .sl 1 (x1.map cdI.enc)) (by kernel_rfl) (len_sl (el := 3) (by kernel_rfl)))) ?_
      refine RunS.segF (n := 46) e_ref09_Fit_ok 1 [(0, .v (.int .i64 x0)), (1, .sl 1 (x1.map cdI.enc)), (5, .v (.int .i64 c1)), (6, .v (.int .i64 c2)), (10, .v (.bool (decide (c2 < (x1.length : Int)))))] [] (by kernel_rfl) ?_
      exact RunS.done rfl Wk.f1
    refine Sem.cond (b := (decide (c2 < (x1.length : Int)))) (by kernel_rfl) (fun hb3 => ?_) (fun hb3 => ?_)
    · rw [if_pos hb3] at h
      refine Sem.skip ?_
      refine Sem.seq ?_
      refine Sem.block ?_
      refine Sem.seq ?_
      refine Sem.seq ?_
      obtain ⟨v4, hv4, h⟩ := Option.bind_eq_some_iff.1 h
      obtain ⟨j7, hj7, h⟩ := Option.bind_eq_some_iff.1 h
      refine Sem.runS (s1 := ⟨Fr 46 [(0, .v (.int .i64 x0)), (1, .sl 1 (x1.map cdI.enc)), (5, .v (.int .i64 c1)), (6, .v (.int .i64 c2)), (28, .v (.bool j7))], []⟩) ?_ ?_
      · refine RunS.segF (n := 46) e_ref09_Fit_ok 2 [(0, .v (.int .i64 x0)), (1, .sl 1 (x1.map cdI.enc)), (5, .v (.int .i64 c1)), (6, .v (.int .i64 c2)), (13, .sl 1 (x1.map cdI.enc)), (14, .v (.int .i64 c2))] [] (by kernel_rfl) ?_
        refine RunS.one e_ref09_Fit_ok 0 rfl (op_q (wantedA_none rfl) rfl (q_indexAddr (a := .sl 1 (x1.map cdI.enc)) (b := .v (.int .i64 c2)) (by kernel_rfl) (by kernel_rfl) (ix_sl (e := cdI.enc) (el := 3) (k := 1) (ki := .i64) (by kernel_rfl) (by kernel_rfl) hv4))) ?_
        refine RunS.segF (n := 46) e_ref09_Fit_ok 3 [(0, .v (.int .i64 x0)), (1, .sl 1 (x1.map cdI.enc)), (5, .v (.int .i64 c1)), (6, .v (.int .i64 c2)), (18, .v (.bool (decide (v4 < 1))))] [] (by kernel_rfl) ?_
        rcases Bool.eq_false_or_eq_true (decide (v4 < 1)) with hc11 | hc11
        · rw [if_pos hc11] at hj7
          rw [hc11]
          refine RunS.segF (n := 46) e_ref09_Fit_ok 10 [(0, .v (.int .i64 x0)), (1, .sl 1 (x1.map cdI.enc)), (5, .v (.int .i64 c1)), (6, .v (.int .i64 c2)), (19, .tp []), (20, .tp []), (21, .tp []), (22, .tp []), (23, .tp []), (26, .tp []), (27, .tp []), (28, .v (.bool true))] [] (by kernel_rfl) ?_
          have hq := Option.some.inj hj7; subst hq
          exact RunS.done rfl Wk.f1
        · rw [if_f hc11] at hj7
          rw [hc11]
          refine RunS.segF (n := 46) e_ref09_Fit_ok 2 [(0, .v (.int .i64 x0)), (1, .sl 1 (x1.map cdI.enc)), (5, .v (.int .i64 c1)), (6, .v (.int .i64 c2)), (18, .v (.bool false)), (19, .sl 1 (x1.map cdI.enc)), (20, .v (.int .i64 c2))] [] (by kernel_rfl) ?_
          obtain ⟨v5, hv5, hj7⟩ := Option.bind_eq_some_iff.1 hj7
          refine RunS.one e_ref09_Fit_ok 0 rfl (op_q (by kernel_rfl) rfl (q_indexAddr (a := .sl 1 (x1.map cdI.enc)) (b := .v (.int .i64 c2)) (by kernel_rfl) (by kernel_rfl) (ix_sl (e := cdI.enc) (el := 3) (k := 1) (ki := .i64) (by kernel_rfl) (by kernel_rfl) hv5))) ?_
          refine RunS.segF (n := 46) e_ref09_Fit_ok 4 [(0, .v (.int .i64 x0)), (1, .sl 1 (x1.map cdI.enc)), (5, .v (.int .i64 c1)), (6, .v (.int .i64 c2)), (19, .sl 1 (x1.map cdI.enc)), (20, .v (.int .i64 c2)), (21, .pe (.v (.int .i64 v5)) 0), (22, .v (.int .i64 v5)), (23, .v (.bool (decide (v5 > 64)))), (25, .v (.bool (decide (v5 > 64))))] [] (by kernel_rfl) ?_
          rcases Bool.eq_false_or_eq_true (decide (v5 > 64)) with hc12 | hc12
          · rw [if_pos hc12] at hj7
            rw [hc12]
            refine RunS.segF (n := 46) e_ref09_Fit_ok 3 [(0, .v (.int .i64 x0)), (1, .sl 1 (x1.map cdI.enc)), (5, .v (.int .i64 c1)), (6, .v (.int .i64 c2)), (19, .sl 1 (x1.map cdI.enc)), (20, .v (.int .i64 c2)), (21, .pe (.v (.int .i64 v5)) 0), (22, .v (.int .i64 v5)), (23, .v (.bool true)), (26, .tp []), (27, .tp []), (28, .v (.bool true))] [] (by kernel_rfl) ?_
            have hq := Option.some.inj hj7; subst hq
            exact RunS.done rfl Wk.f1
          · rw [if_f hc12] at hj7
            rw [hc12]
            refine RunS.segF (n := 46) e_ref09_Fit_ok 3 [(0, .v (.int .i64 x0)), (1, .sl 1 (x1.map cdI.enc)), (5, .v (.int .i64 c1)), (6, .v (.int .i64 c2)), (19, .sl 1 (x1.map cdI.enc)), (20, .v (.int .i64 c2)), (21, .pe (.v (.int .i64 v5)) 0), (22, .v (.int .i64 v5)), (23, .v (.bool false)), (26, .v (.int .i64 c1)), (27, .v (.bool (decide (c1 > 64)))), (28, .v (.bool (decide (c1 > 64))))] [] (by kernel_rfl) ?_
            have hq := Option.some.inj hj7; subst hq
            exact RunS.done rfl Wk.f1
      refine Sem.cond (b := j7) (by kernel_rfl) (fun hb8 => ?_) (fun hb8 => ?_)
      · rw [if_pos hb8] at h
        refine Sem.seq ?_
        refine Sem.runS (s1 := ⟨Fr 46 [(4, .v (.bool false))], []⟩) ?_ ?_
        · refine RunS.segF (n := 46) e_ref09_Fit_ok 1 [(4, .v (.bool false))] [] (by kernel_rfl) ?_
          exact RunS.done rfl Wk.f1
        refine Sem.ret ?_
        have hq := Option.some.inj h; subst hq
        exact ⟨rfl, Wk.f1⟩
      · rw [if_f hb8] at h
        refine Sem.skip ?_
        obtain ⟨v10, hv10, h⟩ := Option.bind_eq_some_iff.1 h
        refine Sem.runS (s1 := ⟨Fr 46 [(0, .v (.int .i64 x0)), (1, .sl 1 (x1.map cdI.enc)), (5, .v (.int .i64 (wr .i64 (c1 + v10)))), (6, .v (.int .i64 c2))], []⟩) ?_ ?_
        · refine RunS.segF (n := 46) e_ref09_Fit_ok 3 [(0, .v (.int .i64 x0)), (1, .sl 1 (x1.map cdI.enc)), (6, .v (.int .i64 c2)), (29, .v (.int .i64 c1)), (30, .sl 1 (x1.map cdI.enc)), (31, .v (.int .i64 c2))] [] (by kernel_rfl) ?_
          refine RunS.one e_ref09_Fit_ok 0 rfl (op_q (wantedA_none rfl) rfl (q_indexAddr (a := .sl 1 (x1.map cdI.enc)) (b := .v (.int .i64 c2)) (by kernel_rfl) (by kernel_rfl) (ix_sl (e := cdI.enc) (el := 3) (k := 1) (ki := .i64) (by kernel_rfl) (by kernel_rfl) hv10))) ?_
          refine RunS.segF (n := 46) e_ref09_Fit_ok 3 [(0, .v (.int .i64 x0)), (1, .sl 1 (x1.map cdI.enc)), (5, .v (.int .i64 (wr .i64 (c1 + v10)))), (6, .v (.int .i64 c2))] [] (by kernel_rfl) ?_
          exact RunS.done rfl Wk.f1
        refine Sem.runS (s1 := ⟨Fr 46 [(0, .v (.int .i64 x0)), (1, .sl 1 (x1.map cdI.enc)), (5, .v (.int .i64 (wr .i64 (c1 + v10)))), (6, .v (.int .i64 (wr .i64 (c2 + 1))))], []⟩) ?_ ?_
        · refine RunS.segF (n := 46) e_ref09_Fit_ok 3 [(0, .v (.int .i64 x0)), (1, .sl 1 (x1.map cdI.enc)), (5, .v (.int .i64 (wr .i64 (c1 + v10)))), (6, .v (.int .i64 (wr .i64 (c2 + 1))))] [] (by kernel_rfl) ?_
          exact RunS.done rfl Wk.f1
        exact SemN.wk (s1 := ⟨Fr 46 [(0, .v (.int .i64 x0)), (1, .sl 1 (x1.map cdI.enc)), (5, .v (.int .i64 (wr .i64 (c1 + v10)))), (6, .v (.int .i64 (wr .i64 (c2 + 1))))], []⟩) Wk.f1 (ih (wr .i64 (c1 + v10)) (wr .i64 (c2 + 1)) h)
    · rw [if_f hb3] at h
      refine Sem.exit ?_
      have hq := Option.some.inj h; subst hq
      exact ⟨rfl, Wk.f1⟩
set_option maxHeartbeats 4000000 in
set_option maxRecDepth 100000 in
theorem ref09_Fit_sem (x0 : Int) (x1 : (List Int)) (r : Bool) (h : ref09_Fit x0 x1 = some r) : Sem e_ref09_Fit ⟨none, false⟩ cb_ref09_Fit ⟨Fr 46 (pairs0 0 (cs_ref09_Fit.enc (x0, x1, ()))), []⟩ fun e s' => (e = .normal ∨ e = .ret) ∧ ∃ xs, resA e_ref09_Fit.P s'.fr s'.hp Tryd.f74.results.toList = some xs ∧ retA xs = er_ref09_Fit r := by
  unfold ref09_Fit at h
  refine Sem.wkQ (Sem.wk (s1 := ⟨Fr 46 [(0, .v (.int .i64 x0)), (1, .sl 1 (x1.map cdI.enc))], []⟩) Wk.f1 ?_)
  refine Sem.seq ?_
  refine Sem.runS (s1 := ⟨Fr 46 [(0, .v (.int .i64 x0)), (1, .sl 1 (x1.map cdI.enc))], []⟩) ?_ ?_
  · refine RunS.segF (n := 46) e_ref09_Fit_ok 1 [(0, .v (.int .i64 x0)), (1, .sl 1 (x1.map cdI.enc))] [] (by kernel_rfl) ?_
    exact RunS.done rfl Wk.f1
  refine Sem.seq ?_
  refine Sem.runS (s1 := ⟨Fr 46 [(0, .v (.int .i64 x0)), (1, .sl 1 (x1.map cdI.enc)), (5, .v (.int .i64 0))], []⟩) ?_ ?_
  · refine RunS.segF (n := 46) e_ref09_Fit_ok 1 [(0, .v (.int .i64 x0)), (1, .sl 1 (x1.map cdI.enc)), (5, .v (.int .i64 0))] [] (by kernel_rfl) ?_
    exact RunS.done rfl Wk.f1
  refine Sem.seq ?_
  refine Sem.seq ?_
  refine Sem.runS (s1 := ⟨Fr 46 [(0, .v (.int .i64 x0)), (1, .sl 1 (x1.map cdI.enc)), (5, .v (.int .i64 0)), (6, .v (.int .i64 0))], []⟩) ?_ ?_
  · refine RunS.segF (n := 46) e_ref09_Fit_ok 1 [(0, .v (.int .i64 x0)), (1, .sl 1 (x1.map cdI.enc)), (5, .v (.int .i64 0)), (6, .v (.int .i64 0))] [] (by kernel_rfl) ?_
    exact RunS.done rfl Wk.f1
  refine Sem.block ?_
  obtain ⟨r14, hr14, h⟩ := Option.bind_eq_some_iff.1 h
  refine Sem.loop (n := 100000) ?_
  rcases r14 with w15 | w20
  · try dsimp only at h
    refine Sem.cutN (SemN.wk (s1 := ⟨Fr 46 [(0, .v (.int .i64 x0)), (1, .sl 1 (x1.map cdI.enc)), (5, .v (.int .i64 0)), (6, .v (.int .i64 0))], []⟩) Wk.f1 (ref09_Fit_1_ok x0 x1 _ 0 0 _ hr14)) ?_
    refine Sem.seq ?_
    obtain ⟨j17, hj17, h⟩ := Option.bind_eq_some_iff.1 h
    refine Sem.runS (s1 := ⟨Fr 46 [(4, .v (.bool j17))], []⟩) ?_ ?_
    · refine RunS.segF (n := 46) e_ref09_Fit_ok 3 [(0, .v (.int .i64 x0)), (5, .v (.int .i64 w15)), (37, .v (.bool (decide (x0 ≥ 1))))] [] (by kernel_rfl) ?_
      rcases Bool.eq_false_or_eq_true (decide (x0 ≥ 1)) with hc18 | hc18
      · rw [if_pos hc18] at hj17
        rw [hc18]
        refine RunS.segF (n := 46) e_ref09_Fit_ok 4 [(0, .v (.int .i64 x0)), (5, .v (.int .i64 w15)), (41, .v (.bool (decide (x0 ≤ 64))))] [] (by kernel_rfl) ?_
        rcases Bool.eq_false_or_eq_true (decide (x0 ≤ 64)) with hc19 | hc19
        · rw [if_pos hc19] at hj17
          rw [hc19]
          refine RunS.segF (n := 46) e_ref09_Fit_ok 5 [(4, .v (.bool (w15 == x0)))] [] (by kernel_rfl) ?_
          have hq := Option.some.inj hj17; subst hq
          exact RunS.done rfl Wk.f1
        · rw [if_f hc19] at hj17
          rw [hc19]
          refine RunS.segF (n := 46) e_ref09_Fit_ok 5 [(4, .v (.bool false))] [] (by kernel_rfl) ?_
          have hq := Option.some.inj hj17; subst hq
          exact RunS.done rfl Wk.f1
      · rw [if_f hc18] at hj17
        rw [hc18]
        refine RunS.segF (n := 46) e_ref09_Fit_ok 9 [(4, .v (.bool false))] [] (by kernel_rfl) ?_
        have hq := Option.some.inj hj17; subst hq
        exact RunS.done rfl Wk.f1
    refine Sem.ret ?_
    have hq := Option.some.inj h; subst hq
    exact ⟨⟨Fr 46 [(4, .v (.bool j17))], []⟩, Wk.f1, .inr rfl, [.v (.bool j17)], (by kernel_rfl), (by kernel_rfl)⟩
  · try dsimp only at h
    refine Sem.cutN (SemN.wk (s1 := ⟨Fr 46 [(0, .v (.int .i64 x0)), (1, .sl 1 (x1.map cdI.enc)), (5, .v (.int .i64 0)), (6, .v (.int .i64 0))], []⟩) Wk.f1 (ref09_Fit_1_ok x0 x1 _ 0 0 _ hr14)) ?_
    have hq := Option.some.inj h; subst hq
    exact ⟨⟨Fr 46 [(4, .v (.bool w20))], []⟩, Wk.f1, .inr rfl, [.v (.bool w20)], (by kernel_rfl), (by kernel_rfl)⟩
def t_ref09_Fit : List AV → Option AV := told cs_ref09_Fit (fun a => ref09_Fit a.1 a.2.1) er_ref09_Fit
theorem x_ref09_Fit : XOk 74 t_ref09_Fit := by
  refine EnvOk.x (E := e_ref09_Fit) (contract_ok e_ref09_Fit_ok (fn := Tryd.f74) (c := cb_ref09_Fit) ?h1 ?h2 ⟨Tryd.call74⟩ cs_ref09_Fit (fun a => ref09_Fit a.1 a.2.1) er_ref09_Fit (fun a => (by show 2 ≤ 46; decide)) ?h3 ?h4) rfl rfl
  case h1 => kernel_rfl
  case h2 => kernel_rfl
  case h3 => intro b; kernel_rfl
  case h4 => exact fun a b h => ref09_Fit_sem a.1 a.2.1 b h
/- trestle/trestleref09.times -/
noncomputable def e_ref09_times : Env := E0
theorem e_ref09_times_ok : EnvOk e_ref09_times := E0_ok
noncomputable def cb_ref09_times : Code := codeOf Tryd.f75
def ref09_times_j3 (x0 : (List (List Int))) (x1 : Int) (c2 : Int) (c4 : Int) (c5 : Int) (v9 : Int) : Option ((Int)) :=
  if (v9 == x1) = true then
  some (wr .i64 (c4 + 1))
  else
  some c4
def ref09_times_2 (x0 : (List (List Int))) (x1 : Int) (c2 : Int) : Nat → Int → Int → Option ((Int))
  | 0, _, _ => none
  | f + 1, c4, c5 =>
    (idx x0 c2).bind fun v6 =>
    if (decide (c5 < (v6.length : Int))) = true then
    (idx x0 c2).bind fun v8 =>
    (idx v8 c5).bind fun v9 =>
    (ref09_times_j3 x0 x1 c2 c4 c5 v9).bind fun r12 =>
    ref09_times_2 x0 x1 c2 f r12 (wr .i64 (c5 + 1))
    else
    some c4
def ref09_times_1 (x0 : (List (List Int))) (x1 : Int) : Nat → Int → Int → Option ((Int))
  | 0, _, _ => none
  | f + 1, c1, c2 =>
    if (decide (c2 < (x0.length : Int))) = true then
    (ref09_times_2 x0 x1 c2 100000 c1 0).bind fun r14 =>
    ref09_times_1 x0 x1 f r14 (wr .i64 (c2 + 1))
    else
    some c1
def ref09_times (x0 : (List (List Int))) (x1 : Int) : Option (Int) :=
  (ref09_times_1 x0 x1 100000 0 0).bind fun r16 =>
  some r16
def cs_ref09_times : Cs ((List (List Int)) × Int × Unit) := (csC (cdL 1 (cdL 1 cdI)) (csC cdI csN))
def er_ref09_times (r : Int) : AV := cdI.enc r
set_option maxHeartbeats 4000000 in
set_option maxRecDepth 100000 in
theorem ref09_times_j3_ok (x0 : (List (List Int))) (x1 : Int) (c2 : Int) (c4 : Int) (c5 : Int) (v9 : Int) (r : (Int)) (h : ref09_times_j3 x0 x1 c2 c4 c5 v9 = some r) : Sem e_ref09_times ⟨none, false⟩ (pc cb_ref09_times [1, 1, 0, 1, 0, 0, 1, 0, 0, 1, 0, 0, 1, 0, 0, 1]) ⟨Fr 35 [(0, .sl 1 (x0.map (cdL 1 cdI).enc)), (1, .v (.int .i64 x1)), (5, .v (.int .i64 c4)), (6, .v (.int .i64 c2)), (7, .v (.int .i64 c5)), (31, .v (.bool (v9 == x1)))], []⟩ (fun e s => e = .normal ∧ Wk e_ref09_times s ⟨Fr 35 [(0, .sl 1 (x0.map (cdL 1 cdI).enc)), (1, .v (.int .i64 x1)), (5, .v (.int .i64 r)), (6, .v (.int .i64 c2)), (7, .v (.int .i64 c5))], []⟩) := by
  unfold ref09_times_j3 at h
  refine Sem.cond (b := (v9 == x1)) (by kernel_rfl) (fun hb10 => ?_) (fun hb10 => ?_)
  · rw [if_pos hb10] at h
    refine Sem.runS (s1 := ⟨Fr 35 [(0, .sl 1 (x0.map (cdL 1 cdI).enc)), (1, .v (.int .i64 x1)), (5, .v (.int .i64 (wr .i64 (c4 + 1)))), (6, .v (.int .i64 c2)), (7, .v (.int .i64 c5))], []⟩) ?_ ?_
    · refine RunS.segF (n := 35) e_ref09_times_ok 3 [(0, .sl 1 (x0.map (cdL 1 cdI).enc)), (1, .v (.int .i64 x1)), (5, .v (.int .i64 (wr .i64 (c4 + 1)))), (6, .v (.int .i64 c2)), (7, .v (.int .i64 c5))] [] (by kernel_rfl) ?_
      exact RunS.done rfl Wk.f1
    have hq := Option.some.inj h; subst hq
    exact ⟨rfl, Wk.f1⟩
  · rw [if_f hb10] at h
    refine Sem.skip ?_
    have hq := Option.some.inj h; subst hq
    exact ⟨rfl, Wk.f1⟩
set_option maxHeartbeats 4000000 in
set_option maxRecDepth 100000 in
theorem ref09_times_2_ok (x0 : (List (List Int))) (x1 : Int) (c2 : Int) : ∀ (f : Nat) (c4 : Int) (c5 : Int) (r : (Int)), ref09_times_2 x0 x1 c2 f c4 c5 = some r → SemN e_ref09_times ⟨none, false⟩ (pc cb_ref09_times [1, 1, 0, 1, 0, 0, 1, 0, 0, 1, 0, 0]) f ⟨Fr 35 [(0, .sl 1 (x0.map (cdL 1 cdI).enc)), (1, .v (.int .i64 x1)), (5, .v (.int .i64 c4)), (6, .v (.int .i64 c2)), (7, .v (.int .i64 c5))], []⟩ (fun e s => e = (.exit 2) ∧ Wk e_ref09_times s ⟨Fr 35 [(0, .sl 1 (x0.map (cdL 1 cdI).enc)), (1, .v (.int .i64 x1)), (5, .v (.int .i64 r)), (6, .v (.int .i64 c2))], []⟩) := by
  intro f
  induction f with
  | zero => intro c4 c5 r h; cases h
  | succ f ih0 =>
    intro c4 c5 r h
    have ih := fun (c4 : Int) (c5 : Int) => ih0 c4 c5 r
    unfold ref09_times_2 at h
    refine SemN.succ ?_
    refine Sem.seq ?_
    refine Sem.seq ?_
    obtain ⟨v6, hv6, h⟩ := Option.bind_eq_some_iff.1 h
    refine Sem.runS (s1 := ⟨Fr 35 [(0, .sl 1 (x0.map (cdL 1 cdI).enc)), (1, .v (.int .i64 x1)), (5, .v (.int .i64 c4)), (6, .v (.int .i64 c2)), (7, .v (.int .i64 c5)), (20, .v (.bool (decide (c5 < (v6.length : Int)))))], []⟩) ?_ ?_
    · refine RunS.segF (n := 35) e_ref09_times_ok 3 [(0, .sl 1 (x0.map (cdL 1 cdI).enc)), (1, .v (.int .i64 x1)), (5, .v (.int .i64 c4)), (6, .v (.int .i64 c2)), (7, .v (.int .i64 c5)), (14, .v (.int .i64 c5)), (15, .sl 1 (x0.map (cdL 1 cdI).enc)), (16, .v (.int .i64 c2))] [] (by kernel_rfl) ?_
      refine RunS.one e_ref09_times_ok 0 rfl (op_q (wantedA_none rfl) rfl (q_indexAddr (a := .sl 1 (x0.map (cdL 1 cdI).enc)) (b := .v (.int .i64 c2)) (by kernel_rfl) (by kernel_rfl) (ix_sl (e := (cdL 1 cdI).enc) (el := 31) (k := 1) (ki := .i64) (by kernel_rfl) (by kernel_rfl) hv6))) ?_
      refine RunS.segF (n := 35) e_ref09_times_ok 1 [(0, .sl 1 (x0.map (cdL 1 cdI).enc)), (1, .v (.int .i64 x1)), (5, .v (.int .i64 c4)), (6, .v (.int .i64 c2)), (7, .v (.int .i64 c5)), (14, .v (.int .i64 c5)), (18, .sl 1 (v6.map cdI.enc))] [] (by kernel_rfl) ?_
      refine RunS.one e_ref09_times_ok 0 rfl (op_q (wantedA_none rfl) rfl (q_len (a := .sl 1 (v6.map cdI.enc)) (by kernel_rfl) (len_sl (el := 3) (by kernel_rfl)))) ?_
      refine RunS.segF (n := 35) e_ref09_times_ok 1 [(0, .sl 1 (x0.map (cdL 1 cdI).enc)), (1, .v (.int .i64 x1)), (5, .v (.int .i64 c4)), (6, .v (.int .i64 c2)), (7, .v (.int .i64 c5)), (20, .v (.bool (decide (c5 < (v6.length : Int)))))] [] (by kernel_rfl) ?_
      exact RunS.done rfl Wk.f1
    refine Sem.cond (b := (decide (c5 < (v6.length : Int)))) (by kernel_rfl) (fun hb7 => ?_) (fun hb7 => ?_)
    · rw [if_pos hb7] at h
      refine Sem.skip ?_
      refine Sem.seq ?_
      refine Sem.block ?_
      refine Sem.seq ?_
      obtain ⟨v8, hv8, h⟩ := Option.bind_eq_some_iff.1 h
      obtain ⟨v9, hv9, h⟩ := Option.bind_eq_some_iff.1 h
      refine Sem.runS (s1 := ⟨Fr 35 [(0, .sl 1 (x0.map (cdL 1 cdI).enc)), (1, .v (.int .i64 x1)), (5, .v (.int .i64 c4)), (6, .v (.int .i64 c2)), (7, .v (.int .i64 c5)), (31, .v (.bool (v9 == x1)))], []⟩) ?_ ?_
      · refine RunS.segF (n := 35) e_ref09_times_ok 2 [(0, .sl 1 (x0.map (cdL 1 cdI).enc)), (1, .v (.int .i64 x1)), (5, .v (.int .i64 c4)), (6, .v (.int .i64 c2)), (7, .v (.int .i64 c5)), (23, .sl 1 (x0.map (cdL 1 cdI).enc)), (24, .v (.int .i64 c2))] [] (by kernel_rfl) ?_
        refine RunS.one e_ref09_times_ok 0 rfl (op_q (wantedA_none rfl) rfl (q_indexAddr (a := .sl 1 (x0.map (cdL 1 cdI).enc)) (b := .v (.int .i64 c2)) (by kernel_rfl) (by kernel_rfl) (ix_sl (e := (cdL 1 cdI).enc) (el := 31) (k := 1) (ki := .i64) (by kernel_rfl) (by kernel_rfl) hv8))) ?_
        refine RunS.segF (n := 35) e_ref09_times_ok 2 [(0, .sl 1 (x0.map (cdL 1 cdI).enc)), (1, .v (.int .i64 x1)), (5, .v (.int .i64 c4)), (6, .v (.int .i64 c2)), (7, .v (.int .i64 c5)), (26, .sl 1 (v8.map cdI.enc)), (27, .v (.int .i64 c5))] [] (by kernel_rfl) ?_
        refine RunS.one e_ref09_times_ok 0 rfl (op_q (wantedA_none rfl) rfl (q_indexAddr (a := .sl 1 (v8.map cdI.enc)) (b := .v (.int .i64 c5)) (by kernel_rfl) (by kernel_rfl) (ix_sl (e := cdI.enc) (el := 3) (k := 1) (ki := .i64) (by kernel_rfl) (by kernel_rfl) hv9))) ?_
        refine RunS.segF (n := 35) e_ref09_times_ok 3 [(0, .sl 1 (x0.map (cdL 1 cdI).enc)), (1, .v (.int .i64 x1)), (5, .v (.int .i64 c4)), (6, .v (.int .i64 c2)), (7, .v (.int .i64 c5)), (31, .v (.bool (v9 == x1)))] [] (by kernel_rfl) ?_
        exact RunS.done rfl Wk.f1
      obtain ⟨r12, hr12, h⟩ := Option.bind_eq_some_iff.1 h
      refine Sem.cut (ref09_times_j3_ok x0 x1 c2 c4 c5 v9 _ hr12) ?_
      refine Sem.runS (s1 := ⟨Fr 35 [(0, .sl 1 (x0.map (cdL 1 cdI).enc)), (1, .v (.int .i64 x1)), (5, .v (.int .i64 r12)), (6, .v (.int .i64 c2)), (7, .v (.int .i64 (wr .i64 (c5 + 1))))], []⟩) ?_ ?_
      · refine RunS.segF (n := 35) e_ref09_times_ok 3 [(0, .sl 1 (x0.map (cdL 1 cdI).enc)), (1, .v (.int .i64 x1)), (5, .v (.int .i64 r12)), (6, .v (.int .i64 c2)), (7, .v (.int .i64 (wr .i64 (c5 + 1))))] [] (by kernel_rfl) ?_
        exact RunS.done rfl Wk.f1
      exact SemN.wk (s1 := ⟨Fr 35 [(0, .sl 1 (x0.map (cdL 1 cdI).enc)), (1, .v (.int .i64 x1)), (5, .v (.int .i64 r12)), (6, .v (.int .i64 c2)), (7, .v (.int .i64 (wr .i64 (c5 + 1))))], []⟩) Wk.f1 (ih r12 (wr .i64 (c5 + 1)) h)
    · rw [if_f hb7] at h
      refine Sem.exit ?_
      have hq := Option.some.inj h; subst hq
      exact ⟨rfl, Wk.f1⟩
set_option maxHeartbeats 4000000 in
set_option maxRecDepth 100000 in
theorem ref09_times_1_ok (x0 : (List (List Int))) (x1 : Int) : ∀ (f : Nat) (c1 : Int) (c2 : Int) (r : (Int)), ref09_times_1 x0 x1 f c1 c2 = some r → SemN e_ref09_times ⟨none, false⟩ (pc cb_ref09_times [1, 1, 0, 1, 0, 0]) f ⟨Fr 35 [(0, .sl 1 (x0.map (cdL 1 cdI).enc)), (1, .v (.int .i64 x1)), (5, .v (.int .i64 c1)), (6, .v (.int .i64 c2))], []⟩ (fun e s => e = (.exit 0) ∧ Wk e_ref09_times s ⟨Fr 35 [(5, .v (.int .i64 r))], []⟩) := by
  intro f
  induction f with
  | zero => intro c1 c2 r h; cases h
  | succ f ih0 =>
    intro c1 c2 r h
    have ih := fun (c1 : Int) (c2 : Int) => ih0 c1 c2 r
    unfold ref09_times_1 at h
    refine SemN.succ ?_
    refine Sem.seq ?_
    refine Sem.seq ?_
    refine Sem.runS (s1 := ⟨Fr 35 [(0, .sl 1 (x0.map (cdL 1 cdI).enc)), (1, .v (.int .i64 x1)), (5, .v (.int .i64 c1)), (6, .v (.int .i64 c2)), (11, .v (.bool (decide (c2 < (x0.length : Int)))))], []⟩) ?_ ?_
    · refine RunS.segF (n := 35) e_ref09_times_ok 2 [(0, .sl 1 (x0.map (cdL 1 cdI).enc)), (1, .v (.int .i64 x1)), (5, .v (.int .i64 c1)), (6, .v (.int .i64 c2)), (8, .v (.int .i64 c2)), (9, .sl 1 (x0.map (cdL 1 cdI).enc))] [] (by kernel_rfl) ?_
      refine RunS.one e_ref09_times_ok 0 rfl (op_q (wantedA_none rfl) rfl (q_len (a := .sl 1 (x0.map (cdL 1 cdI).enc)) (by kernel_rfl) (len_sl (el := 31) (by kernel_rfl)))) ?_
      refine RunS.segF (n := 35) e_ref09_times_ok 1 [(0, .sl 1 (x0.map (cdL 1 cdI).enc)), (1, .v (.int .i64 x1)), (5, .v (.int .i64 c1)), (6, .v (.int .i64 c2)), (11, .v (.bool (decide (c2 < (x0.length : Int)))))] [] (by kernel_rfl) ?_
      exact RunS.done rfl Wk.f1
    refine Sem.cond (b := (decide (c2 < (x0.length : Int)))) (by kernel_rfl) (fun hb3 => ?_) (fun hb3 => ?_)
    · rw [if_pos hb3] at h
      refine Sem.skip ?_
      refine Sem.seq ?_
      refine Sem.block ?_
      refine Sem.seq ?_
      refine Sem.runS (s1 := ⟨Fr 35 [(0, .sl 1 (x0.map (cdL 1 cdI).enc)), (1, .v (.int .i64 x1)), (5, .v (.int .i64 c1)), (6, .v (.int .i64 c2)), (7, .v (.int .i64 0))], []⟩) ?_ ?_
      · refine RunS.segF (n := 35) e_ref09_times_ok 1 [(0, .sl 1 (x0.map (cdL 1 cdI).enc)), (1, .v (.int .i64 x1)), (5, .v (.int .i64 c1)), (6, .v (.int .i64 c2)), (7, .v (.int .i64 0))] [] (by kernel_rfl) ?_
        exact RunS.done rfl Wk.f1
      refine Sem.block ?_
      obtain ⟨r14, hr14, h⟩ := Option.bind_eq_some_iff.1 h
      refine Sem.loop (n := 100000) ?_
      refine Sem.cutN (SemN.wk (s1 := ⟨Fr 35 [(0, .sl 1 (x0.map (cdL 1 cdI).enc)), (1, .v (.int .i64 x1)), (5, .v (.int .i64 c1)), (6, .v (.int .i64 c2)), (7, .v (.int .i64 0))], []⟩) Wk.f1 (ref09_times_2_ok x0 x1 c2 _ c1 0 _ hr14)) ?_
      refine Sem.runS (s1 := ⟨Fr 35 [(0, .sl 1 (x0.map (cdL 1 cdI).enc)), (1, .v (.int .i64 x1)), (5, .v (.int .i64 r14)), (6, .v (.int .i64 (wr .i64 (c2 + 1))))], []⟩) ?_ ?_
      · refine RunS.segF (n := 35) e_ref09_times_ok 3 [(0, .sl 1 (x0.map (cdL 1 cdI).enc)), (1, .v (.int .i64 x1)), (5, .v (.int .i64 r14)), (6, .v (.int .i64 (wr .i64 (c2 + 1))))] [] (by kernel_rfl) ?_
        exact RunS.done rfl Wk.f1
      exact SemN.wk (s1 := ⟨Fr 35 [(0, .sl 1 (x0.map (cdL 1 cdI).enc)), (1, .v (.int .i64 x1)), (5, .v (.int .i64 r14)), (6, .v (.int .i64 (wr .i64 (c2 + 1))))], []⟩) Wk.f1 (ih r14 (wr .i64 (c2 + 1)) h)
    · rw [if_f hb3] at h
      refine Sem.exit ?_
      have hq := Option.some.inj h; subst hq
      exact ⟨rfl, Wk.f1⟩
set_option maxHeartbeats 4000000 in
set_option maxRecDepth 100000 in
theorem ref09_times_sem (x0 : (List (List Int))) (x1 : Int) (r : Int) (h : ref09_times x0 x1 = some r) : Sem e_ref09_times ⟨none, false⟩ cb_ref09_times ⟨Fr 35 (pairs0 0 (cs_ref09_times.enc (x0, x1, ()))), []⟩ fun e s' => (e = .normal ∨ e = .ret) ∧ ∃ xs, resA e_ref09_times.P s'.fr s'.hp Tryd.f75.results.toList = some xs ∧ retA xs = er_ref09_times r := by
  unfold ref09_times at h
  refine Sem.wkQ (Sem.wk (s1 := ⟨Fr 35 [(0, .sl 1 (x0.map (cdL 1 cdI).enc)), (1, .v (.int .i64 x1))], []⟩) Wk.f1 ?_)
  refine Sem.seq ?_
  refine Sem.runS (s1 := ⟨Fr 35 [(0, .sl 1 (x0.map (cdL 1 cdI).enc)), (1, .v (.int .i64 x1))], []⟩) ?_ ?_
  · refine RunS.segF (n := 35) e_ref09_times_ok 1 [(0, .sl 1 (x0.map (cdL 1 cdI).enc)), (1, .v (.int .i64 x1))] [] (by kernel_rfl) ?_
    exact RunS.done rfl Wk.f1
  refine Sem.seq ?_
  refine Sem.runS (s1 := ⟨Fr 35 [(0, .sl 1 (x0.map (cdL 1 cdI).enc)), (1, .v (.int .i64 x1)), (5, .v (.int .i64 0))], []⟩) ?_ ?_
  · refine RunS.segF (n := 35) e_ref09_times_ok 1 [(0, .sl 1 (x0.map (cdL 1 cdI).enc)), (1, .v (.int .i64 x1)), (5, .v (.int .i64 0))] [] (by kernel_rfl) ?_
    exact RunS.done rfl Wk.f1
  refine Sem.seq ?_
  refine Sem.seq ?_
  refine Sem.runS (s1 := ⟨Fr 35 [(0, .sl 1 (x0.map (cdL 1 cdI).enc)), (1, .v (.int .i64 x1)), (5, .v (.int .i64 0)), (6, .v (.int .i64 0))], []⟩) ?_ ?_
  · refine RunS.segF (n := 35) e_ref09_times_ok 1 [(0, .sl 1 (x0.map (cdL 1 cdI).enc)), (1, .v (.int .i64 x1)), (5, .v (.int .i64 0)), (6, .v (.int .i64 0))] [] (by kernel_rfl) ?_
    exact RunS.done rfl Wk.f1
  refine Sem.block ?_
  obtain ⟨r16, hr16, h⟩ := Option.bind_eq_some_iff.1 h
  refine Sem.loop (n := 100000) ?_
  refine Sem.cutN (SemN.wk (s1 := ⟨Fr 35 [(0, .sl 1 (x0.map (cdL 1 cdI).enc)), (1, .v (.int .i64 x1)), (5, .v (.int .i64 0)), (6, .v (.int .i64 0))], []⟩) Wk.f1 (ref09_times_1_ok x0 x1 _ 0 0 _ hr16)) ?_
  refine Sem.seq ?_
  refine Sem.runS (s1 := ⟨Fr 35 [(4, .v (.int .i64 r16))], []⟩) ?_ ?_
  · refine RunS.segF (n := 35) e_ref09_times_ok 2 [(4, .v (.int .i64 r16))] [] (by kernel_rfl) ?_
    exact RunS.done rfl Wk.f1
  refine Sem.ret ?_
  have hq := Option.some.inj h; subst hq
  exact ⟨⟨Fr 35 [(4, .v (.int .i64 r16))], []⟩, Wk.f1, .inr rfl, [.v (.int .i64 r16)], (by kernel_rfl), (by kernel_rfl)⟩
def t_ref09_times : List AV → Option AV := told cs_ref09_times (fun a => ref09_times a.1 a.2.1) er_ref09_times
theorem x_ref09_times : XOk 75 t_ref09_times := by
  refine EnvOk.x (E := e_ref09_times) (contract_ok e_ref09_times_ok (fn := Tryd.f75) (c := cb_ref09_times) ?h1 ?h2 ⟨Tryd.call75⟩ cs_ref09_times (fun a => ref09_times a.1 a.2.1) er_ref09_times (fun a => (by show 2 ≤ 35; decide)) ?h3 ?h4) rfl rfl
  case h1 => kernel_rfl
  case h2 => kernel_rfl
  case h3 => intro b; kernel_rfl
  case h4 => exact fun a b h => ref09_times_sem a.1 a.2.1 b h
/- trestle/trestleref09.has -/
noncomputable def e_ref09_has : Env := E0
theorem e_ref09_has_ok : EnvOk e_ref09_has := E0_ok
noncomputable def cb_ref09_has : Code := codeOf Tryd.f76
def ref09_has_1 (x0 : (List Int)) (x1 : Int) : Nat → Int → Option ((Unit) ⊕ (Bool))
  | 0, _ => none
  | f + 1, c1 =>
    if (decide (c1 < (x0.length : Int))) = true then
    (idx x0 c1).bind fun v3 =>
    if (v3 == x1) = true then
    some (.inr true)
    else
    ref09_has_1 x0 x1 f (wr .i64 (c1 + 1))
    else
    some (.inl ())
def ref09_has (x0 : (List Int)) (x1 : Int) : Option (Bool) :=
  (ref09_has_1 x0 x1 100000 0).bind fun r6 =>
  match r6 with
  | (.inl w7) =>
    some false
  | (.inr w8) =>
    some w8
def cs_ref09_has : Cs ((List Int) × Int × Unit) := (csC (cdL 1 cdI) (csC cdI csN))
def er_ref09_has (r : Bool) : AV := cdB.enc r
set_option maxHeartbeats 4000000 in
set_option maxRecDepth 100000 in
theorem ref09_has_1_ok (x0 : (List Int)) (x1 : Int) : ∀ (f : Nat) (c1 : Int) (r : (Unit) ⊕ (Bool)), ref09_has_1 x0 x1 f c1 = some r → SemN e_ref09_has ⟨none, false⟩ (pc cb_ref09_has [1, 0, 1, 0, 0]) f ⟨Fr 18 [(0, .sl 1 (x0.map cdI.enc)), (1, .v (.int .i64 x1)), (5, .v (.int .i64 c1))], []⟩ (fun e s => match r with
  | (.inl w) => e = (.exit 0) ∧ Wk e_ref09_has s ⟨Fr 18 [], []⟩
  | (.inr w) => e = .ret ∧ Wk e_ref09_has s ⟨Fr 18 [(4, .v (.bool w))], []⟩) := by
  intro f
  induction f with
  | zero => intro c1 r h; cases h
  | succ f ih0 =>
    intro c1 r h
    have ih := fun (c1 : Int) => ih0 c1 r
    unfold ref09_has_1 at h
    refine SemN.succ ?_
    refine Sem.seq ?_
    refine Sem.seq ?_
    refine Sem.runS (s1 := ⟨Fr 18 [(0, .sl 1 (x0.map cdI.enc)), (1, .v (.int .i64 x1)), (5, .v (.int .i64 c1)), (9, .v (.bool (decide (c1 < (x0.length : Int)))))], []⟩) ?_ ?_
    · refine RunS.segF (n := 18) e_ref09_has_ok 2 [(0, .sl 1 (x0.map cdI.enc)), (1, .v (.int .i64 x1)), (5, .v (.int .i64 c1)), (6, .v (.int .i64 c1)), (7, .sl 1 (x0.map cdI.enc))] [] (by kernel_rfl) ?_
      refine RunS.one e_ref09_has_ok 0 rfl (op_q (wantedA_none rfl) rfl (q_len (a := .sl 1 (x0.map cdI.enc)) (by kernel_rfl) (len_sl (el := 3) (by kernel_rfl)))) ?_
      refine RunS.segF (n := 18) e_ref09_has_ok 1 [(0, .sl 1 (x0.map cdI.enc)), (1, .v (.int .i64 x1)), (5, .v (.int .i64 c1)), (9, .v (.bool (decide (c1 < (x0.length : Int)))))] [] (by kernel_rfl) ?_
      exact RunS.done rfl Wk.f1
    refine Sem.cond (b := (decide (c1 < (x0.length : Int)))) (by kernel_rfl) (fun hb2 => ?_) (fun hb2 => ?_)
    · rw [if_pos hb2] at h
      refine Sem.skip ?_
      refine Sem.seq ?_
      refine Sem.block ?_
      refine Sem.seq ?_
      obtain ⟨v3, hv3, h⟩ := Option.bind_eq_some_iff.1 h
      refine Sem.runS (s1 := ⟨Fr 18 [(0, .sl 1 (x0.map cdI.enc)), (1, .v (.int .i64 x1)), (5, .v (.int .i64 c1)), (17, .v (.bool (v3 == x1)))], []⟩) ?_ ?_
      · refine RunS.segF (n := 18) e_ref09_has_ok 2 [(0, .sl 1 (x0.map cdI.enc)), (1, .v (.int .i64 x1)), (5, .v (.int .i64 c1)), (12, .sl 1 (x0.map cdI.enc)), (13, .v (.int .i64 c1))] [] (by kernel_rfl) ?_
        refine RunS.one e_ref09_has_ok 0 rfl (op_q (wantedA_none rfl) rfl (q_indexAddr (a := .sl 1 (x0.map cdI.enc)) (b := .v (.int .i64 c1)) (by kernel_rfl) (by kernel_rfl) (ix_sl (e := cdI.enc) (el := 3) (k := 1) (ki := .i64) (by kernel_rfl) (by kernel_rfl) hv3))) ?_
        refine RunS.segF (n := 18) e_ref09_has_ok 3 [(0, .sl 1 (x0.map cdI.enc)), (1, .v (.int .i64 x1)), (5, .v (.int .i64 c1)), (17, .v (.bool (v3 == x1)))] [] (by kernel_rfl) ?_
        exact RunS.done rfl Wk.f1
      refine Sem.cond (b := (v3 == x1)) (by kernel_rfl) (fun hb4 => ?_) (fun hb4 => ?_)
      · rw [if_pos hb4] at h
        refine Sem.seq ?_
        refine Sem.runS (s1 := ⟨Fr 18 [(4, .v (.bool true))], []⟩) ?_ ?_
        · refine RunS.segF (n := 18) e_ref09_has_ok 1 [(4, .v (.bool true))] [] (by kernel_rfl) ?_
          exact RunS.done rfl Wk.f1
        refine Sem.ret ?_
        have hq := Option.some.inj h; subst hq
        exact ⟨rfl, Wk.f1⟩
      · rw [if_f hb4] at h
        refine Sem.skip ?_
        refine Sem.runS (s1 := ⟨Fr 18 [(0, .sl 1 (x0.map cdI.enc)), (1, .v (.int .i64 x1)), (5, .v (.int .i64 (wr .i64 (c1 + 1))))], []⟩) ?_ ?_
        · refine RunS.segF (n := 18) e_ref09_has_ok 3 [(0, .sl 1 (x0.map cdI.enc)), (1, .v (.int .i64 x1)), (5, .v (.int .i64 (wr .i64 (c1 + 1))))] [] (by kernel_rfl) ?_
          exact RunS.done rfl Wk.f1
        exact SemN.wk (s1 := ⟨Fr 18 [(0, .sl 1 (x0.map cdI.enc)), (1, .v (.int .i64 x1)), (5, .v (.int .i64 (wr .i64 (c1 + 1))))], []⟩) Wk.f1 (ih (wr .i64 (c1 + 1)) h)
    · rw [if_f hb2] at h
      refine Sem.exit ?_
      have hq := Option.some.inj h; subst hq
      exact ⟨rfl, Wk.f1⟩
set_option maxHeartbeats 4000000 in
set_option maxRecDepth 100000 in
theorem ref09_has_sem (x0 : (List Int)) (x1 : Int) (r : Bool) (h : ref09_has x0 x1 = some r) : Sem e_ref09_has ⟨none, false⟩ cb_ref09_has ⟨Fr 18 (pairs0 0 (cs_ref09_has.enc (x0, x1, ()))), []⟩ fun e s' => (e = .normal ∨ e = .ret) ∧ ∃ xs, resA e_ref09_has.P s'.fr s'.hp Tryd.f76.results.toList = some xs ∧ retA xs = er_ref09_has r := by
  unfold ref09_has at h
  refine Sem.wkQ (Sem.wk (s1 := ⟨Fr 18 [(0, .sl 1 (x0.map cdI.enc)), (1, .v (.int .i64 x1))], []⟩) Wk.f1 ?_)
  refine Sem.seq ?_
  refine Sem.runS (s1 := ⟨Fr 18 [(0, .sl 1 (x0.map cdI.enc)), (1, .v (.int .i64 x1))], []⟩) ?_ ?_
  · refine RunS.segF (n := 18) e_ref09_has_ok 1 [(0, .sl 1 (x0.map cdI.enc)), (1, .v (.int .i64 x1))] [] (by kernel_rfl) ?_
    exact RunS.done rfl Wk.f1
  refine Sem.seq ?_
  refine Sem.seq ?_
  refine Sem.runS (s1 := ⟨Fr 18 [(0, .sl 1 (x0.map cdI.enc)), (1, .v (.int .i64 x1)), (5, .v (.int .i64 0))], []⟩) ?_ ?_
  · refine RunS.segF (n := 18) e_ref09_has_ok 1 [(0, .sl 1 (x0.map cdI.enc)), (1, .v (.int .i64 x1)), (5, .v (.int .i64 0))] [] (by kernel_rfl) ?_
    exact RunS.done rfl Wk.f1
  refine Sem.block ?_
  obtain ⟨r6, hr6, h⟩ := Option.bind_eq_some_iff.1 h
  refine Sem.loop (n := 100000) ?_
  rcases r6 with w7 | w8
  · try dsimp only at h
    refine Sem.cutN (SemN.wk (s1 := ⟨Fr 18 [(0, .sl 1 (x0.map cdI.enc)), (1, .v (.int .i64 x1)), (5, .v (.int .i64 0))], []⟩) Wk.f1 (ref09_has_1_ok x0 x1 _ 0 _ hr6)) ?_
    refine Sem.seq ?_
    refine Sem.runS (s1 := ⟨Fr 18 [(4, .v (.bool false))], []⟩) ?_ ?_
    · refine RunS.segF (n := 18) e_ref09_has_ok 1 [(4, .v (.bool false))] [] (by kernel_rfl) ?_
      exact RunS.done rfl Wk.f1
    refine Sem.ret ?_
    have hq := Option.some.inj h; subst hq
    exact ⟨⟨Fr 18 [(4, .v (.bool false))], []⟩, Wk.f1, .inr rfl, [.v (.bool false)], (by kernel_rfl), (by kernel_rfl)⟩
  · try dsimp only at h
    refine Sem.cutN (SemN.wk (s1 := ⟨Fr 18 [(0, .sl 1 (x0.map cdI.enc)), (1, .v (.int .i64 x1)), (5, .v (.int .i64 0))], []⟩) Wk.f1 (ref09_has_1_ok x0 x1 _ 0 _ hr6)) ?_
    have hq := Option.some.inj h; subst hq
    exact ⟨⟨Fr 18 [(4, .v (.bool w8))], []⟩, Wk.f1, .inr rfl, [.v (.bool w8)], (by kernel_rfl), (by kernel_rfl)⟩
def t_ref09_has : List AV → Option AV := told cs_ref09_has (fun a => ref09_has a.1 a.2.1) er_ref09_has
theorem x_ref09_has : XOk 76 t_ref09_has := by
  refine EnvOk.x (E := e_ref09_has) (contract_ok e_ref09_has_ok (fn := Tryd.f76) (c := cb_ref09_has) ?h1 ?h2 ⟨Tryd.call76⟩ cs_ref09_has (fun a => ref09_has a.1 a.2.1) er_ref09_has (fun a => (by show 2 ≤ 18; decide)) ?h3 ?h4) rfl rfl
  case h1 => kernel_rfl
  case h2 => kernel_rfl
  case h3 => intro b; kernel_rfl
  case h4 => exact fun a b h => ref09_has_sem a.1 a.2.1 b h
/- trestle/trestleref09.Together -/
noncomputable def e_ref09_Together : Env := (E0.withX 76 t_ref09_has)
theorem e_ref09_Together_ok : EnvOk e_ref09_Together := (EnvOk.withX E0_ok x_ref09_has.1 x_ref09_has.2)
noncomputable def cb_ref09_Together : Code := codeOf Tryd.f109
def ref09_Together_j3 (x0 : (List (List (List Int)))) (x1 : Int) (x2 : Int) (c2 : Int) (c5 : Int) (j16 : (List Int) × Bool) : Option (((List Int))) :=
  if j16.2 = true then
  if (capOk 8 (j16.1.length + 1)) = true then
  some (j16.1 ++ [c2])
  else none
  else
  some j16.1
def ref09_Together_2 (x0 : (List (List (List Int)))) (x1 : Int) (x2 : Int) (c2 : Int) : Nat → (List Int) → Int → Option (((List Int)))
  | 0, _, _ => none
  | f + 1, c4, c5 =>
    (idx x0 c2).bind fun v6 =>
    if (decide (c5 < (v6.length : Int))) = true then
    (idx x0 c2).bind fun v8 =>
    (idx v8 c5).bind fun v9 =>
    (ref09_has v9 x1).bind fun v10 =>
    (if v10 = true then (idx x0 c2).bind fun v11 =>
    (idx v11 c5).bind fun v12 =>
    (ref09_has v12 x2).bind fun v13 =>
    some (c4, v13) else some (c4, false)).bind fun j16 =>
    (ref09_Together_j3 x0 x1 x2 c2 c5 j16).bind fun r20 =>
    ref09_Together_2 x0 x1 x2 c2 f r20 (wr .i64 (c5 + 1))
    else
    some c4
def ref09_Together_1 (x0 : (List (List (List Int)))) (x1 : Int) (x2 : Int) : Nat → (List Int) → Int → Option (((List Int)))
  | 0, _, _ => none
  | f + 1, c1, c2 =>
    if (decide (c2 < (x0.length : Int))) = true then
    (ref09_Together_2 x0 x1 x2 c2 100000 c1 0).bind fun r23 =>
    ref09_Together_1 x0 x1 x2 f r23 (wr .i64 (c2 + 1))
    else
    some c1
def ref09_Together (x0 : (List (List (List Int)))) (x1 : Int) (x2 : Int) : Option ((List Int)) :=
  (ref09_Together_1 x0 x1 x2 100000 [] 0).bind fun r25 =>
  some r25
def cs_ref09_Together : Cs ((List (List (List Int))) × Int × Int × Unit) := (csC (cdL 1 (cdL 1 (cdL 1 cdI))) (csC cdI (csC cdI csN)))
def er_ref09_Together (r : (List Int)) : AV := (cdL 1 cdI).enc r
set_option maxHeartbeats 4000000 in
set_option maxRecDepth 100000 in
theorem ref09_Together_j3_ok (x0 : (List (List (List Int)))) (x1 : Int) (x2 : Int) (c2 : Int) (c5 : Int) (j16 : (List Int) × Bool) (r : ((List Int))) (h : ref09_Together_j3 x0 x1 x2 c2 c5 j16 = some r) : Sem e_ref09_Together ⟨none, false⟩ (pc cb_ref09_Together [1, 1, 0, 1, 0, 0, 1, 0, 0, 1, 0, 0, 1, 0, 0, 1]) ⟨Fr 50 [(0, .sl 1 (x0.map (cdL 1 (cdL 1 cdI)).enc)), (1, .v (.int .i64 x1)), (2, .v (.int .i64 x2)), (7, hd 0 (j16.1.map cdI.enc)), (8, .v (.int .i64 c2)), (9, .v (.int .i64 c5)), (44, .v (.bool j16.2))], [mk 1 3 (j16.1.map cdI.enc)]⟩ (fun e s => e = .normal ∧ Wk e_ref09_Together s ⟨Fr 50 [(0, .sl 1 (x0.map (cdL 1 (cdL 1 cdI)).enc)), (1, .v (.int .i64 x1)), (2, .v (.int .i64 x2)), (7, hd 0 (r.map cdI.enc)), (8, .v (.int .i64 c2)), (9, .v (.int .i64 c5))], [mk 1 3 (r.map cdI.enc)]⟩) := by
  unfold ref09_Together_j3 at h
  refine Sem.cond (b := j16.2) (by kernel_rfl) (fun hb17 => ?_) (fun hb17 => ?_)
  · rw [if_pos hb17] at h
    by_cases hk18 : (capOk 8 (j16.1.length + 1)) = true
    case neg => rw [if_neg hk18] at h; cases h
    rw [if_pos hk18] at h
    refine Sem.runS (s1 := ⟨Fr 50 [(0, .sl 1 (x0.map (cdL 1 (cdL 1 cdI)).enc)), (1, .v (.int .i64 x1)), (2, .v (.int .i64 x2)), (7, hd 0 ((j16.1 ++ [c2]).map cdI.enc)), (8, .v (.int .i64 c2)), (9, .v (.int .i64 c5))], [mk 1 3 ((j16.1 ++ [c2]).map cdI.enc)]⟩) ?_ ?_
    · refine RunS.segF (n := 50) e_ref09_Together_ok 3 [(0, .sl 1 (x0.map (cdL 1 (cdL 1 cdI)).enc)), (1, .v (.int .i64 x1)), (2, .v (.int .i64 x2)), (8, .v (.int .i64 c2)), (9, .v (.int .i64 c5)), (45, hd 0 (j16.1.map cdI.enc)), (47, hd 1 ([c2].map cdI.enc))] [mk 1 3 (j16.1.map cdI.enc), mk 1 3 ([c2].map cdI.enc)] (by kernel_rfl) ?_
      refine RunS.one e_ref09_Together_ok 0 rfl (op_w (wantedA_none rfl) rfl (by kernel_rfl) (by kernel_rfl) (w_append (a := hd 0 (j16.1.map cdI.enc)) (b := hd 1 ([c2].map cdI.enc)) (by kernel_rfl) (by kernel_rfl) (append_B (c := cdI) (xs := j16.1) (vs := [c2]) (k := 1) (bytes := 8) (el := 3) (by kernel_rfl) (by kernel_rfl) (elems_hd (t := 3) (by kernel_rfl)) (List.cons_ne_nil _ _) (by kernel_rfl) hk18))) ?_
      refine RunS.segF (n := 50) e_ref09_Together_ok 1 [(0, .sl 1 (x0.map (cdL 1 (cdL 1 cdI)).enc)), (1, .v (.int .i64 x1)), (2, .v (.int .i64 x2)), (7, hd 2 ((j16.1 ++ [c2]).map cdI.enc)), (8, .v (.int .i64 c2)), (9, .v (.int .i64 c5))] [none, mk 1 3 ([c2].map cdI.enc), mk 1 3 ((j16.1 ++ [c2]).map cdI.enc)] (by kernel_rfl) ?_
      exact RunS.done rfl (Wk.s3 [2] ⟨⟨_, rfl, bu_mk⟩, trivial⟩ ⟨lv, lv, lv, lu_hd (b' := 2) (by kernel_rfl) (by kernel_rfl), lv, lv, trivial⟩)
    have hq := Option.some.inj h; subst hq
    exact ⟨rfl, (Wk.s3 [0] ⟨⟨_, rfl, bu_mk⟩, trivial⟩ ⟨lv, lv, lv, lu_hd (b' := 0) (by kernel_rfl) (by kernel_rfl), lv, lv, trivial⟩)⟩
  · rw [if_f hb17] at h
    refine Sem.skip ?_
    have hq := Option.some.inj h; subst hq
    exact ⟨rfl, (Wk.s3 [0] ⟨⟨_, rfl, bu_mk⟩, trivial⟩ ⟨lv, lv, lv, lu_hd (b' := 0) (by kernel_rfl) (by kernel_rfl), lv, lv, trivial⟩)⟩
set_option maxHeartbeats 4000000 in
set_option maxRecDepth 100000 in
theorem ref09_Together_2_ok (x0 : (List (List (List Int)))) (x1 : Int) (x2 : Int) (c2 : Int) : ∀ (f : Nat) (c4 : (List Int)) (c5 : Int) (r : ((List Int))), ref09_Together_2 x0 x1 x2 c2 f c4 c5 = some r → SemN e_ref09_Together ⟨none, false⟩ (pc cb_ref09_Together [1, 1, 0, 1, 0, 0, 1, 0, 0, 1, 0, 0]) f ⟨Fr 50 [(0, .sl 1 (x0.map (cdL 1 (cdL 1 cdI)).enc)), (1, .v (.int .i64 x1)), (2, .v (.int .i64 x2)), (7, hd 0 (c4.map cdI.enc)), (8, .v (.int .i64 c2)), (9, .v (.int .i64 c5))], [mk 1 3 (c4.map cdI.enc)]⟩ (fun e s => e = (.exit 2) ∧ Wk e_ref09_Together s ⟨Fr 50 [(0, .sl 1 (x0.map (cdL 1 (cdL 1 cdI)).enc)), (1, .v (.int .i64 x1)), (2, .v (.int .i64 x2)), (7, hd 0 (r.map cdI.enc)), (8, .v (.int .i64 c2))], [mk 1 3 (r.map cdI.enc)]⟩) := by
  intro f
  induction f with
  | zero => intro c4 c5 r h; cases h
  | succ f ih0 =>
    intro c4 c5 r h
    have ih := fun (c4 : (List Int)) (c5 : Int) => ih0 c4 c5 r
    unfold ref09_Together_2 at h
    refine SemN.succ ?_
    refine Sem.seq ?_
    refine Sem.seq ?_
    obtain ⟨v6, hv6, h⟩ := Option.bind_eq_some_iff.1 h
    refine Sem.runS (s1 := ⟨Fr 50 [(0, .sl 1 (x0.map (cdL 1 (cdL 1 cdI)).enc)), (1, .v (.int .i64 x1)), (2, .v (.int .i64 x2)), (7, hd 0 (c4.map cdI.enc)), (8, .v (.int .i64 c2)), (9, .v (.int .i64 c5)), (22, .v (.bool (decide (c5 < (v6.length : Int)))))], [mk 1 3 (c4.map cdI.enc)]⟩) ?_ ?_
    · refine RunS.segF (n := 50) e_ref09_Together_ok 3 [(0, .sl 1 (x0.map (cdL 1 (cdL 1 cdI)).enc)), (1, .v (.int .i64 x1)), (2, .v (.int .i64 x2)), (7, hd 0 (c4.map cdI.enc)), (8, .v (.int .i64 c2)), (9, .v (.int .i64 c5)), (16, .v (.int .i64 c5)), (17, .sl 1 (x0.map (cdL 1 (cdL 1 cdI)).enc)), (18, .v (.int .i64 c2))] [mk 1 3 (c4.map cdI.enc)] (by kernel_rfl) ?_
      refine RunS.one e_ref09_Together_ok 0 rfl (op_q (wantedA_none rfl) rfl (q_indexAddr (a := .sl 1 (x0.map (cdL 1 (cdL 1 cdI)).enc)) (b := .v (.int .i64 c2)) (by kernel_rfl) (by kernel_rfl) (ix_sl (e := (cdL 1 (cdL 1 cdI)).enc) (el := 50) (k := 1) (ki := .i64) (by kernel_rfl) (by kernel_rfl) hv6))) ?_
      refine RunS.segF (n := 50) e_ref09_Together_ok 1 [(0, .sl 1 (x0.map (cdL 1 (cdL 1 cdI)).enc)), (1, .v (.int .i64 x1)), (2, .v (.int .i64 x2)), (7, hd 0 (c4.map cdI.enc)), (8, .v (.int .i64 c2)), (9, .v (.int .i64 c5)), (16, .v (.int .i64 c5)), (20, .sl 1 (v6.map (cdL 1 cdI).enc))] [mk 1 3 (c4.map cdI.enc)] (by kernel_rfl) ?_
      refine RunS.one e_ref09_Together_ok 0 rfl (op_q (wantedA_none rfl) rfl (q_len (a := .sl 1 (v6.map (cdL 1 cdI).enc)) (by kernel_rfl) (len_sl (el := 31) (by kernel_rfl)))) ?_
      refine RunS.segF (n := 50) e_ref09_Together_ok 1 [(0, .sl 1 (x0.map (cdL 1 (cdL 1 cdI)).enc)), (1, .v (.int .i64 x1)), (2, .v (.int .i64 x2)), (7, hd 0 (c4.map cdI.enc)), (8, .v (.int .i64 c2)), (9, .v (.int .i64 c5)), (22, .v (.bool (decide (c5 < (v6.length : Int)))))] [mk 1 3 (c4.map cdI.enc)] (by kernel_rfl) ?_
      exact RunS.done rfl (Wk.s3 [0] ⟨⟨_, rfl, bu_mk⟩, trivial⟩ ⟨lv, lv, lv, lu_hd (b' := 0) (by kernel_rfl) (by kernel_rfl), lv, lv, lv, trivial⟩)
    refine Sem.cond (b := (decide (c5 < (v6.length : Int)))) (by kernel_rfl) (fun hb7 => ?_) (fun hb7 => ?_)
    · rw [if_pos hb7] at h
      refine Sem.skip ?_
      refine Sem.seq ?_
      refine Sem.block ?_
      refine Sem.seq ?_
      obtain ⟨v8, hv8, h⟩ := Option.bind_eq_some_iff.1 h
      obtain ⟨v9, hv9, h⟩ := Option.bind_eq_some_iff.1 h
      obtain ⟨v10, hv10, h⟩ := Option.bind_eq_some_iff.1 h
      obtain ⟨j16, hj16, h⟩ := Option.bind_eq_some_iff.1 h
      refine Sem.runS (s1 := ⟨Fr 50 [(0, .sl 1 (x0.map (cdL 1 (cdL 1 cdI)).enc)), (1, .v (.int .i64 x1)), (2, .v (.int .i64 x2)), (7, hd 0 (j16.1.map cdI.enc)), (8, .v (.int .i64 c2)), (9, .v (.int .i64 c5)), (44, .v (.bool j16.2))], [mk 1 3 (j16.1.map cdI.enc)]⟩) ?_ ?_
      · refine RunS.segF (n := 50) e_ref09_Together_ok 2 [(0, .sl 1 (x0.map (cdL 1 (cdL 1 cdI)).enc)), (1, .v (.int .i64 x1)), (2, .v (.int .i64 x2)), (7, hd 0 (c4.map cdI.enc)), (8, .v (.int .i64 c2)), (9, .v (.int .i64 c5)), (25, .sl 1 (x0.map (cdL 1 (cdL 1 cdI)).enc)), (26, .v (.int .i64 c2))] [mk 1 3 (c4.map cdI.enc)] (by kernel_rfl) ?_
        refine RunS.one e_ref09_Together_ok 0 rfl (op_q (wantedA_none rfl) rfl (q_indexAddr (a := .sl 1 (x0.map (cdL 1 (cdL 1 cdI)).enc)) (b := .v (.int .i64 c2)) (by kernel_rfl) (by kernel_rfl) (ix_sl (e := (cdL 1 (cdL 1 cdI)).enc) (el := 50) (k := 1) (ki := .i64) (by kernel_rfl) (by kernel_rfl) hv8))) ?_
        refine RunS.segF (n := 50) e_ref09_Together_ok 2 [(0, .sl 1 (x0.map (cdL 1 (cdL 1 cdI)).enc)), (1, .v (.int .i64 x1)), (2, .v (.int .i64 x2)), (7, hd 0 (c4.map cdI.enc)), (8, .v (.int .i64 c2)), (9, .v (.int .i64 c5)), (28, .sl 1 (v8.map (cdL 1 cdI).enc)), (29, .v (.int .i64 c5))] [mk 1 3 (c4.map cdI.enc)] (by kernel_rfl) ?_
        refine RunS.one e_ref09_Together_ok 0 rfl (op_q (wantedA_none rfl) rfl (q_indexAddr (a := .sl 1 (v8.map (cdL 1 cdI).enc)) (b := .v (.int .i64 c5)) (by kernel_rfl) (by kernel_rfl) (ix_sl (e := (cdL 1 cdI).enc) (el := 31) (k := 1) (ki := .i64) (by kernel_rfl) (by kernel_rfl) hv9))) ?_
        refine RunS.segF (n := 50) e_ref09_Together_ok 2 [(0, .sl 1 (x0.map (cdL 1 (cdL 1 cdI)).enc)), (1, .v (.int .i64 x1)), (2, .v (.int .i64 x2)), (7, hd 0 (c4.map cdI.enc)), (8, .v (.int .i64 c2)), (9, .v (.int .i64 c5)), (31, .sl 1 (v9.map cdI.enc)), (32, .v (.int .i64 x1))] [mk 1 3 (c4.map cdI.enc)] (by kernel_rfl) ?_
        refine RunS.call e_ref09_Together_ok (fid := 76) (s := cs_ref09_has) (F := fun a => ref09_has a.1 a.2.1) (er := er_ref09_has) (xs := [.sl 1 (v9.map cdI.enc), .v (.int .i64 x1)]) (a := (v9, x1, ())) rfl (wantedA_none rfl) (by kernel_rfl) (by kernel_rfl) (by kernel_rfl) (by kernel_rfl) (Sns.cons (Sn.enc (c := (cdL 1 cdI)) (v := v9)) (Sns.cons (Sn.enc (c := cdI) (v := x1)) Sns.nil)) (.inl (by kernel_rfl)) hv10 ?_
        refine RunS.segF (n := 50) e_ref09_Together_ok 1 [(0, .sl 1 (x0.map (cdL 1 (cdL 1 cdI)).enc)), (1, .v (.int .i64 x1)), (2, .v (.int .i64 x2)), (7, hd 0 (c4.map cdI.enc)), (8, .v (.int .i64 c2)), (9, .v (.int .i64 c5)), (34, .v (.bool v10))] [mk 1 3 (c4.map cdI.enc)] (by kernel_rfl) ?_
        rcases Bool.eq_false_or_eq_true v10 with hc21 | hc21
        · rw [if_pos hc21] at hj16
          rw [hc21]
          refine RunS.segF (n := 50) e_ref09_Together_ok 2 [(0, .sl 1 (x0.map (cdL 1 (cdL 1 cdI)).enc)), (1, .v (.int .i64 x1)), (2, .v (.int .i64 x2)), (7, hd 0 (c4.map cdI.enc)), (8, .v (.int .i64 c2)), (9, .v (.int .i64 c5)), (34, .v (.bool true)), (35, .sl 1 (x0.map (cdL 1 (cdL 1 cdI)).enc)), (36, .v (.int .i64 c2))] [mk 1 3 (c4.map cdI.enc)] (by kernel_rfl) ?_
          obtain ⟨v11, hv11, hj16⟩ := Option.bind_eq_some_iff.1 hj16
          refine RunS.one e_ref09_Together_ok 0 rfl (op_q (by kernel_rfl) rfl (q_indexAddr (a := .sl 1 (x0.map (cdL 1 (cdL 1 cdI)).enc)) (b := .v (.int .i64 c2)) (by kernel_rfl) (by kernel_rfl) (ix_sl (e := (cdL 1 (cdL 1 cdI)).enc) (el := 50) (k := 1) (ki := .i64) (by kernel_rfl) (by kernel_rfl) hv11))) ?_
          refine RunS.segF (n := 50) e_ref09_Together_ok 2 [(0, .sl 1 (x0.map (cdL 1 (cdL 1 cdI)).enc)), (1, .v (.int .i64 x1)), (2, .v (.int .i64 x2)), (7, hd 0 (c4.map cdI.enc)), (8, .v (.int .i64 c2)), (9, .v (.int .i64 c5)), (34, .v (.bool true)), (35, .sl 1 (x0.map (cdL 1 (cdL 1 cdI)).enc)), (36, .v (.int .i64 c2)), (37, .pe (.sl 1 (v11.map (cdL 1 cdI).enc)) 0), (38, .sl 1 (v11.map (cdL 1 cdI).enc)), (39, .v (.int .i64 c5))] [mk 1 3 (c4.map cdI.enc)] (by kernel_rfl) ?_
          obtain ⟨v12, hv12, hj16⟩ := Option.bind_eq_some_iff.1 hj16
          refine RunS.one e_ref09_Together_ok 0 rfl (op_q (by kernel_rfl) rfl (q_indexAddr (a := .sl 1 (v11.map (cdL 1 cdI).enc)) (b := .v (.int .i64 c5)) (by kernel_rfl) (by kernel_rfl) (ix_sl (e := (cdL 1 cdI).enc) (el := 31) (k := 1) (ki := .i64) (by kernel_rfl) (by kernel_rfl) hv12))) ?_
          refine RunS.segF (n := 50) e_ref09_Together_ok 2 [(0, .sl 1 (x0.map (cdL 1 (cdL 1 cdI)).enc)), (1, .v (.int .i64 x1)), (2, .v (.int .i64 x2)), (7, hd 0 (c4.map cdI.enc)), (8, .v (.int .i64 c2)), (9, .v (.int .i64 c5)), (34, .v (.bool true)), (35, .sl 1 (x0.map (cdL 1 (cdL 1 cdI)).enc)), (36, .v (.int .i64 c2)), (37, .pe (.sl 1 (v11.map (cdL 1 cdI).enc)) 0), (38, .sl 1 (v11.map (cdL 1 cdI).enc)), (39, .v (.int .i64 c5)), (40, .pe (.sl 1 (v12.map cdI.enc)) 0), (41, .sl 1 (v12.map cdI.enc)), (42, .v (.int .i64 x2))] [mk 1 3 (c4.map cdI.enc)] (by kernel_rfl) ?_
          obtain ⟨v13, hv13, hj16⟩ := Option.bind_eq_some_iff.1 hj16
          refine RunS.call e_ref09_Together_ok (fid := 76) (s := cs_ref09_has) (F := fun a => ref09_has a.1 a.2.1) (er := er_ref09_has) (xs := [.sl 1 (v12.map cdI.enc), .v (.int .i64 x2)]) (a := (v12, x2, ())) rfl (by kernel_rfl) (by kernel_rfl) (by kernel_rfl) (by kernel_rfl) (by kernel_rfl) (Sns.cons (Sn.enc (c := (cdL 1 cdI)) (v := v12)) (Sns.cons (Sn.enc (c := cdI) (v := x2)) Sns.nil)) (.inl (by kernel_rfl)) hv13 ?_
          refine RunS.segF (n := 50) e_ref09_Together_ok 1 [(0, .sl 1 (x0.map (cdL 1 (cdL 1 cdI)).enc)), (1, .v (.int .i64 x1)), (2, .v (.int .i64 x2)), (7, hd 0 (c4.map cdI.enc)), (8, .v (.int .i64 c2)), (9, .v (.int .i64 c5)), (35, .sl 1 (x0.map (cdL 1 (cdL 1 cdI)).enc)), (36, .v (.int .i64 c2)), (37, .pe (.sl 1 (v11.map (cdL 1 cdI).enc)) 0), (38, .sl 1 (v11.map (cdL 1 cdI).enc)), (39, .v (.int .i64 c5)), (40, .pe (.sl 1 (v12.map cdI.enc)) 0), (41, .sl 1 (v12.map cdI.enc)), (42, .v (.int .i64 x2)), (43, .v (.bool v13)), (44, .v (.bool v13))] [mk 1 3 (c4.map cdI.enc)] (by kernel_rfl) ?_
          have hq := Option.some.inj hj16; subst hq
          exact RunS.done rfl (Wk.s3 [0] ⟨⟨_, rfl, bu_mk⟩, trivial⟩ ⟨lv, lv, lv, lu_hd (b' := 0) (by kernel_rfl) (by kernel_rfl), lv, lv, lv, trivial⟩)
        · rw [if_f hc21] at hj16
          rw [hc21]
          refine RunS.segF (n := 50) e_ref09_Together_ok 10 [(0, .sl 1 (x0.map (cdL 1 (cdL 1 cdI)).enc)), (1, .v (.int .i64 x1)), (2, .v (.int .i64 x2)), (7, hd 0 (c4.map cdI.enc)), (8, .v (.int .i64 c2)), (9, .v (.int .i64 c5)), (35, .tp []), (36, .tp []), (37, .tp []), (38, .tp []), (39, .tp []), (40, .tp []), (41, .tp []), (42, .tp []), (43, .tp []), (44, .v (.bool false))] [mk 1 3 (c4.map cdI.enc)] (by kernel_rfl) ?_
          have hq := Option.some.inj hj16; subst hq
          exact RunS.done rfl (Wk.s3 [0] ⟨⟨_, rfl, bu_mk⟩, trivial⟩ ⟨lv, lv, lv, lu_hd (b' := 0) (by kernel_rfl) (by kernel_rfl), lv, lv, lv, trivial⟩)
      obtain ⟨r20, hr20, h⟩ := Option.bind_eq_some_iff.1 h
      refine Sem.cut (ref09_Together_j3_ok x0 x1 x2 c2 c5 j16 _ hr20) ?_
      refine Sem.runS (s1 := ⟨Fr 50 [(0, .sl 1 (x0.map (cdL 1 (cdL 1 cdI)).enc)), (1, .v (.int .i64 x1)), (2, .v (.int .i64 x2)), (7, hd 0 (r20.map cdI.enc)), (8, .v (.int .i64 c2)), (9, .v (.int .i64 (wr .i64 (c5 + 1))))], [mk 1 3 (r20.map cdI.enc)]⟩) ?_ ?_
      · refine RunS.segF (n := 50) e_ref09_Together_ok 3 [(0, .sl 1 (x0.map (cdL 1 (cdL 1 cdI)).enc)), (1, .v (.int .i64 x1)), (2, .v (.int .i64 x2)), (7, hd 0 (r20.map cdI.enc)), (8, .v (.int .i64 c2)), (9, .v (.int .i64 (wr .i64 (c5 + 1))))] [mk 1 3 (r20.map cdI.enc)] (by kernel_rfl) ?_
        exact RunS.done rfl (Wk.s3 [0] ⟨⟨_, rfl, bu_mk⟩, trivial⟩ ⟨lv, lv, lv, lu_hd (b' := 0) (by kernel_rfl) (by kernel_rfl), lv, lv, trivial⟩)
      exact SemN.wk (s1 := ⟨Fr 50 [(0, .sl 1 (x0.map (cdL 1 (cdL 1 cdI)).enc)), (1, .v (.int .i64 x1)), (2, .v (.int .i64 x2)), (7, hd 0 (r20.map cdI.enc)), (8, .v (.int .i64 c2)), (9, .v (.int .i64 (wr .i64 (c5 + 1))))], [mk 1 3 (r20.map cdI.enc)]⟩) (Wk.s3 [0] ⟨⟨_, rfl, bu_mk⟩, trivial⟩ ⟨lv, lv, lv, lu_hd (b' := 0) (by kernel_rfl) (by kernel_rfl), lv, lv, trivial⟩) (ih r20 (wr .i64 (c5 + 1)) h)
    · rw [if_f hb7] at h
      refine Sem.exit ?_
      have hq := Option.some.inj h; subst hq
      exact ⟨rfl, (Wk.s3 [0] ⟨⟨_, rfl, bu_mk⟩, trivial⟩ ⟨lv, lv, lv, lu_hd (b' := 0) (by kernel_rfl) (by kernel_rfl), lv, trivial⟩)⟩
set_option maxHeartbeats 4000000 in
set_option maxRecDepth 100000 in
theorem ref09_Together_1_ok (x0 : (List (List (List Int)))) (x1 : Int) (x2 : Int) : ∀ (f : Nat) (c1 : (List Int)) (c2 : Int) (r : ((List Int))), ref09_Together_1 x0 x1 x2 f c1 c2 = some r → SemN e_ref09_Together ⟨none, false⟩ (pc cb_ref09_Together [1, 1, 0, 1, 0, 0]) f ⟨Fr 50 [(0, .sl 1 (x0.map (cdL 1 (cdL 1 cdI)).enc)), (1, .v (.int .i64 x1)), (2, .v (.int .i64 x2)), (7, hd 0 (c1.map cdI.enc)), (8, .v (.int .i64 c2))], [mk 1 3 (c1.map cdI.enc)]⟩ (fun e s => e = (.exit 0) ∧ Wk e_ref09_Together s ⟨Fr 50 [(7, hd 0 (r.map cdI.enc))], [mk 1 3 (r.map cdI.enc)]⟩) := by
  intro f
  induction f with
  | zero => intro c1 c2 r h; cases h
  | succ f ih0 =>
    intro c1 c2 r h
    have ih := fun (c1 : (List Int)) (c2 : Int) => ih0 c1 c2 r
    unfold ref09_Together_1 at h
    refine SemN.succ ?_
    refine Sem.seq ?_
    refine Sem.seq ?_
    refine Sem.runS (s1 := ⟨Fr 50 [(0, .sl 1 (x0.map (cdL 1 (cdL 1 cdI)).enc)), (1, .v (.int .i64 x1)), (2, .v (.int .i64 x2)), (7, hd 0 (c1.map cdI.enc)), (8, .v (.int .i64 c2)), (13, .v (.bool (decide (c2 < (x0.length : Int)))))], [mk 1 3 (c1.map cdI.enc)]⟩) ?_ ?_
    · refine RunS.segF (n := 50) e_ref09_Together_ok 2 [(0, .sl 1 (x0.map (cdL 1 (cdL 1 cdI)).enc)), (1, .v (.int .i64 x1)), (2, .v (.int .i64 x2)), (7, hd 0 (c1.map cdI.enc)), (8, .v (.int .i64 c2)), (10, .v (.int .i64 c2)), (11, .sl 1 (x0.map (cdL 1 (cdL 1 cdI)).enc))] [mk 1 3 (c1.map cdI.enc)] (by kernel_rfl) ?_
      refine RunS.one e_ref09_Together_ok 0 rfl (op_q (wantedA_none rfl) rfl (q_len (a := .sl 1 (x0.map (cdL 1 (cdL 1 cdI)).enc)) (by kernel_rfl) (len_sl (el := 50) (by kernel_rfl)))) ?_
      refine RunS.segF (n := 50) e_ref09_Together_ok 1 [(0, .sl 1 (x0.map (cdL 1 (cdL 1 cdI)).enc)), (1, .v (.int .i64 x1)), (2, .v (.int .i64 x2)), (7, hd 0 (c1.map cdI.enc)), (8, .v (.int .i64 c2)), (13, .v (.bool (decide (c2 < (x0.length : Int)))))] [mk 1 3 (c1.map cdI.enc)] (by kernel_rfl) ?_
      exact RunS.done rfl (Wk.s3 [0] ⟨⟨_, rfl, bu_mk⟩, trivial⟩ ⟨lv, lv, lv, lu_hd (b' := 0) (by kernel_rfl) (by kernel_rfl), lv, lv, trivial⟩)
    refine Sem.cond (b := (decide (c2 < (x0.length : Int)))) (by kernel_rfl) (fun hb3 => ?_) (fun hb3 => ?_)
    · rw [if_pos hb3] at h
      refine Sem.skip ?_
      refine Sem.seq ?_
      refine Sem.block ?_
      refine Sem.seq ?_
      refine Sem.runS (s1 := ⟨Fr 50 [(0, .sl 1 (x0.map (cdL 1 (cdL 1 cdI)).enc)), (1, .v (.int .i64 x1)), (2, .v (.int .i64 x2)), (7, hd 0 (c1.map cdI.enc)), (8, .v (.int .i64 c2)), (9, .v (.int .i64 0))], [mk 1 3 (c1.map cdI.enc)]⟩) ?_ ?_
      · refine RunS.segF (n := 50) e_ref09_Together_ok 1 [(0, .sl 1 (x0.map (cdL 1 (cdL 1 cdI)).enc)), (1, .v (.int .i64 x1)), (2, .v (.int .i64 x2)), (7, hd 0 (c1.map cdI.enc)), (8, .v (.int .i64 c2)), (9, .v (.int .i64 0))] [mk 1 3 (c1.map cdI.enc)] (by kernel_rfl) ?_
        exact RunS.done rfl (Wk.s3 [0] ⟨⟨_, rfl, bu_mk⟩, trivial⟩ ⟨lv, lv, lv, lu_hd (b' := 0) (by kernel_rfl) (by kernel_rfl), lv, lv, trivial⟩)
      refine Sem.block ?_
      obtain ⟨r23, hr23, h⟩ := Option.bind_eq_some_iff.1 h
      refine Sem.loop (n := 100000) ?_
      refine Sem.cutN (SemN.wk (s1 := ⟨Fr 50 [(0, .sl 1 (x0.map (cdL 1 (cdL 1 cdI)).enc)), (1, .v (.int .i64 x1)), (2, .v (.int .i64 x2)), (7, hd 0 (c1.map cdI.enc)), (8, .v (.int .i64 c2)), (9, .v (.int .i64 0))], [mk 1 3 (c1.map cdI.enc)]⟩) (Wk.s3 [0] ⟨⟨_, rfl, bu_mk⟩, trivial⟩ ⟨lv, lv, lv, lu_hd (b' := 0) (by kernel_rfl) (by kernel_rfl), lv, lv, trivial⟩) (ref09_Together_2_ok x0 x1 x2 c2 _ c1 0 _ hr23)) ?_
      refine Sem.runS (s1 := ⟨Fr 50 [(0, .sl 1 (x0.map (cdL 1 (cdL 1 cdI)).enc)), (1, .v (.int .i64 x1)), (2, .v (.int .i64 x2)), (7, hd 0 (r23.map cdI.enc)), (8, .v (.int .i64 (wr .i64 (c2 + 1))))], [mk 1 3 (r23.map cdI.enc)]⟩) ?_ ?_
      · refine RunS.segF (n := 50) e_ref09_Together_ok 3 [(0, .sl 1 (x0.map (cdL 1 (cdL 1 cdI)).enc)), (1, .v (.int .i64 x1)), (2, .v (.int .i64 x2)), (7, hd 0 (r23.map cdI.enc)), (8, .v (.int .i64 (wr .i64 (c2 + 1))))] [mk 1 3 (r23.map cdI.enc)] (by kernel_rfl) ?_
        exact RunS.done rfl (Wk.s3 [0] ⟨⟨_, rfl, bu_mk⟩, trivial⟩ ⟨lv, lv, lv, lu_hd (b' := 0) (by kernel_rfl) (by kernel_rfl), lv, trivial⟩)
      exact SemN.wk (s1 := ⟨Fr 50 [(0, .sl 1 (x0.map (cdL 1 (cdL 1 cdI)).enc)), (1, .v (.int .i64 x1)), (2, .v (.int .i64 x2)), (7, hd 0 (r23.map cdI.enc)), (8, .v (.int .i64 (wr .i64 (c2 + 1))))], [mk 1 3 (r23.map cdI.enc)]⟩) (Wk.s3 [0] ⟨⟨_, rfl, bu_mk⟩, trivial⟩ ⟨lv, lv, lv, lu_hd (b' := 0) (by kernel_rfl) (by kernel_rfl), lv, trivial⟩) (ih r23 (wr .i64 (c2 + 1)) h)
    · rw [if_f hb3] at h
      refine Sem.exit ?_
      have hq := Option.some.inj h; subst hq
      exact ⟨rfl, (Wk.s3 [0] ⟨⟨_, rfl, bu_mk⟩, trivial⟩ ⟨lu_hd (b' := 0) (by kernel_rfl) (by kernel_rfl), trivial⟩)⟩
set_option maxHeartbeats 4000000 in
set_option maxRecDepth 100000 in
theorem ref09_Together_sem (x0 : (List (List (List Int)))) (x1 : Int) (x2 : Int) (r : (List Int)) (h : ref09_Together x0 x1 x2 = some r) : Sem e_ref09_Together ⟨none, false⟩ cb_ref09_Together ⟨Fr 50 (pairs0 0 (cs_ref09_Together.enc (x0, x1, x2, ()))), []⟩ fun e s' => (e = .normal ∨ e = .ret) ∧ ∃ xs, resA e_ref09_Together.P s'.fr s'.hp Tryd.f109.results.toList = some xs ∧ retA xs = er_ref09_Together r := by
  unfold ref09_Together at h
  refine Sem.wkQ (Sem.wk (s1 := ⟨Fr 50 [(0, .sl 1 (x0.map (cdL 1 (cdL 1 cdI)).enc)), (1, .v (.int .i64 x1)), (2, .v (.int .i64 x2))], []⟩) Wk.f1 ?_)
  refine Sem.seq ?_
  refine Sem.runS (s1 := ⟨Fr 50 [(0, .sl 1 (x0.map (cdL 1 (cdL 1 cdI)).enc)), (1, .v (.int .i64 x1)), (2, .v (.int .i64 x2))], []⟩) ?_ ?_
  · refine RunS.segF (n := 50) e_ref09_Together_ok 1 [(0, .sl 1 (x0.map (cdL 1 (cdL 1 cdI)).enc)), (1, .v (.int .i64 x1)), (2, .v (.int .i64 x2))] [] (by kernel_rfl) ?_
    exact RunS.done rfl Wk.f1
  refine Sem.seq ?_
  refine Sem.runS (s1 := ⟨Fr 50 [(0, .sl 1 (x0.map (cdL 1 (cdL 1 cdI)).enc)), (1, .v (.int .i64 x1)), (2, .v (.int .i64 x2)), (7, .e0)], []⟩) ?_ ?_
  · refine RunS.segF (n := 50) e_ref09_Together_ok 1 [(0, .sl 1 (x0.map (cdL 1 (cdL 1 cdI)).enc)), (1, .v (.int .i64 x1)), (2, .v (.int .i64 x2)), (7, .e0)] [] (by kernel_rfl) ?_
    exact RunS.done rfl Wk.f1
  refine Sem.seq ?_
  refine Sem.seq ?_
  refine Sem.runS (s1 := ⟨Fr 50 [(0, .sl 1 (x0.map (cdL 1 (cdL 1 cdI)).enc)), (1, .v (.int .i64 x1)), (2, .v (.int .i64 x2)), (7, .e0), (8, .v (.int .i64 0))], []⟩) ?_ ?_
  · refine RunS.segF (n := 50) e_ref09_Together_ok 1 [(0, .sl 1 (x0.map (cdL 1 (cdL 1 cdI)).enc)), (1, .v (.int .i64 x1)), (2, .v (.int .i64 x2)), (7, .e0), (8, .v (.int .i64 0))] [] (by kernel_rfl) ?_
    exact RunS.done rfl Wk.f1
  refine Sem.block ?_
  obtain ⟨r25, hr25, h⟩ := Option.bind_eq_some_iff.1 h
  refine Sem.loop (n := 100000) ?_
  refine Sem.cutN (SemN.wk (s1 := ⟨Fr 50 [(0, .sl 1 (x0.map (cdL 1 (cdL 1 cdI)).enc)), (1, .v (.int .i64 x1)), (2, .v (.int .i64 x2)), (7, hd 0 ([].map cdI.enc)), (8, .v (.int .i64 0))], [mk 1 3 ([].map cdI.enc)]⟩) (Wk.trans (s1 := ⟨Fr 50 [(0, .sl 1 (x0.map (cdL 1 (cdL 1 cdI)).enc)), (1, .v (.int .i64 x1)), (2, .v (.int .i64 x2)), (7, hd 0 ([].map cdI.enc)), (8, .v (.int .i64 0))], [mk 1 3 ([].map cdI.enc)]⟩) Wk.none (Wk.s3 [0] ⟨⟨_, rfl, bu_none⟩, trivial⟩ ⟨lv, lv, lv, lv, lv, trivial⟩)) (ref09_Together_1_ok x0 x1 x2 _ [] 0 _ hr25)) ?_
  refine Sem.seq ?_
  refine Sem.runS (s1 := ⟨Fr 50 [(6, hd 0 (r25.map cdI.enc))], [mk 1 3 (r25.map cdI.enc)]⟩) ?_ ?_
  · refine RunS.segF (n := 50) e_ref09_Together_ok 2 [(6, hd 0 (r25.map cdI.enc))] [mk 1 3 (r25.map cdI.enc)] (by kernel_rfl) ?_
    exact RunS.done rfl (Wk.s3 [0] ⟨⟨_, rfl, bu_mk⟩, trivial⟩ ⟨lu_hd (b' := 0) (by kernel_rfl) (by kernel_rfl), trivial⟩)
  refine Sem.ret ?_
  have hq := Option.some.inj h; subst hq
  exact ⟨⟨Fr 50 [(6, .sl 1 (r25.map cdI.enc))], []⟩, (Wk.trans (s1 := ⟨Fr 50 [(6, .sl 1 (r25.map cdI.enc))], [none]⟩) (Wk.frzG 0 (.inl (by kernel_rfl)) ⟨.inl rfl, trivial⟩ ⟨⟨hd 0 (r25.map cdI.enc), (by kernel_rfl), fz_hd (t := 3) (by kernel_rfl) enc_ok⟩, trivial⟩) (Wk.s3 [] trivial ⟨lv, trivial⟩)), .inr rfl, [.sl 1 (r25.map cdI.enc)], (by kernel_rfl), (by kernel_rfl)⟩
def t_ref09_Together : List AV → Option AV := told cs_ref09_Together (fun a => ref09_Together a.1 a.2.1 a.2.2.1) er_ref09_Together
theorem x_ref09_Together : XOk 109 t_ref09_Together := by
  refine EnvOk.x (E := e_ref09_Together) (contract_ok e_ref09_Together_ok (fn := Tryd.f109) (c := cb_ref09_Together) ?h1 ?h2 ⟨Tryd.call109⟩ cs_ref09_Together (fun a => ref09_Together a.1 a.2.1 a.2.2.1) er_ref09_Together (fun a => (by show 3 ≤ 50; decide)) ?h3 ?h4) rfl rfl
  case h1 => kernel_rfl
  case h2 => kernel_rfl
  case h3 => intro b; kernel_rfl
  case h4 => exact fun a b h => ref09_Together_sem a.1 a.2.1 a.2.2.1 b h
/- trestle/trestleref09.before -/
noncomputable def e_ref09_before : Env := (E0.withX 109 t_ref09_Together)
theorem e_ref09_before_ok : EnvOk e_ref09_before := (EnvOk.withX E0_ok x_ref09_Together.1 x_ref09_Together.2)
noncomputable def cb_ref09_before : Code := codeOf Tryd.f77
def ref09_before (x0 : (List (List (List Int)))) (x1 : Int) (x2 : Int) : Option (Int) :=
  (ref09_Together x0 x1 x2).bind fun v1 =>
  some (v1.length : Int)
def cs_ref09_before : Cs ((List (List (List Int))) × Int × Int × Unit) := (csC (cdL 1 (cdL 1 (cdL 1 cdI))) (csC cdI (csC cdI csN)))
def er_ref09_before (r : Int) : AV := cdI.enc r
set_option maxHeartbeats 4000000 in
set_option maxRecDepth 100000 in
theorem ref09_before_sem (x0 : (List (List (List Int)))) (x1 : Int) (x2 : Int) (r : Int) (h : ref09_before x0 x1 x2 = some r) : Sem e_ref09_before ⟨none, false⟩ cb_ref09_before ⟨Fr 12 (pairs0 0 (cs_ref09_before.enc (x0, x1, x2, ()))), []⟩ fun e s' => (e = .normal ∨ e = .ret) ∧ ∃ xs, resA e_ref09_before.P s'.fr s'.hp Tryd.f77.results.toList = some xs ∧ retA xs = er_ref09_before r := by
  unfold ref09_before at h
  refine Sem.wkQ (Sem.wk (s1 := ⟨Fr 12 [(0, .sl 1 (x0.map (cdL 1 (cdL 1 cdI)).enc)), (1, .v (.int .i64 x1)), (2, .v (.int .i64 x2))], []⟩) Wk.f1 ?_)
  refine Sem.seq ?_
  refine Sem.runS (s1 := ⟨Fr 12 [(0, .sl 1 (x0.map (cdL 1 (cdL 1 cdI)).enc)), (1, .v (.int .i64 x1)), (2, .v (.int .i64 x2))], []⟩) ?_ ?_
  · refine RunS.segF (n := 12) e_ref09_before_ok 1 [(0, .sl 1 (x0.map (cdL 1 (cdL 1 cdI)).enc)), (1, .v (.int .i64 x1)), (2, .v (.int .i64 x2))] [] (by kernel_rfl) ?_
    exact RunS.done rfl Wk.f1
  refine Sem.seq ?_
  obtain ⟨v1, hv1, h⟩ := Option.bind_eq_some_iff.1 h
  refine Sem.runS (s1 := ⟨Fr 12 [(6, .v (.int .i64 (v1.length : Int)))], []⟩) ?_ ?_
  · refine RunS.segF (n := 12) e_ref09_before_ok 3 [(7, .sl 1 (x0.map (cdL 1 (cdL 1 cdI)).enc)), (8, .v (.int .i64 x1)), (9, .v (.int .i64 x2))] [] (by kernel_rfl) ?_
    refine RunS.call e_ref09_before_ok (fid := 109) (s := cs_ref09_Together) (F := fun a => ref09_Together a.1 a.2.1 a.2.2.1) (er := er_ref09_Together) (xs := [.sl 1 (x0.map (cdL 1 (cdL 1 cdI)).enc), .v (.int .i64 x1), .v (.int .i64 x2)]) (a := (x0, x1, x2, ())) rfl (wantedA_none rfl) (by kernel_rfl) (by kernel_rfl) (by kernel_rfl) (by kernel_rfl) (Sns.cons (Sn.enc (c := (cdL 1 (cdL 1 (cdL 1 cdI)))) (v := x0)) (Sns.cons (Sn.enc (c := cdI) (v := x1)) (Sns.cons (Sn.enc (c := cdI) (v := x2)) Sns.nil))) (.inl (by kernel_rfl)) hv1 ?_
    refine RunS.one e_ref09_before_ok 0 rfl (op_q (wantedA_none rfl) rfl (q_len (a := .sl 1 (v1.map cdI.enc)) (by kernel_rfl) (len_sl (el := 3) (by kernel_rfl)))) ?_
    refine RunS.segF (n := 12) e_ref09_before_ok 1 [(6, .v (.int .i64 (v1.length : Int)))] [] (by kernel_rfl) ?_
    exact RunS.done rfl Wk.f1
  refine Sem.ret ?_
  have hq := Option.some.inj h; subst hq
  exact ⟨⟨Fr 12 [(6, .v (.int .i64 (v1.length : Int)))], []⟩, Wk.f1, .inr rfl, [.v (.int .i64 (v1.length : Int))], (by kernel_rfl), (by kernel_rfl)⟩
def t_ref09_before : List AV → Option AV := told cs_ref09_before (fun a => ref09_before a.1 a.2.1 a.2.2.1) er_ref09_before
theorem x_ref09_before : XOk 77 t_ref09_before := by
  refine EnvOk.x (E := e_ref09_before) (contract_ok e_ref09_before_ok (fn := Tryd.f77) (c := cb_ref09_before) ?h1 ?h2 ⟨Tryd.call77⟩ cs_ref09_before (fun a => ref09_before a.1 a.2.1 a.2.2.1) er_ref09_before (fun a => (by show 3 ≤ 12; decide)) ?h3 ?h4) rfl rfl
  case h1 => kernel_rfl
  case h2 => kernel_rfl
  case h3 => intro b; kernel_rfl
  case h4 => exact fun a b h => ref09_before_sem a.1 a.2.1 a.2.2.1 b h
end Go.Proofs.YtcmgmkepodbpkaaDoor
