/- Lemmas for the proof. -/
import Derived.Test.YtcmgmkepodbpkaaDoorEveningDesignsM1
import Derived.Test.YtcmgmkepodbpkaaDoorEveningDesignsM2
import Derived.Test.YtcmgmkepodbpkaaDoorEveningDesignsM3
import Derived.Test.YtcmgmkepodbpkaaDoorEveningDesignsM4
namespace Go.Proofs.YtcmgmkepodbpkaaDoor
open Go.RowKit
set_option linter.unusedSimpArgs false
set_option linter.unusedVariables false
set_option maxRecDepth 100000 in
theorem refAdd_ok (q a b : Int) (w : World) (hp0 : 0 < (refField q).1) (ha : 0 ≤ a ∧ a < q) (hb : 0 ≤ b ∧ b < q) : Ret Tryd.prog 103 #[.int .i64 q, .int .i64 a, .int .i64 b] w fun v w' => v = .int .i64 (refAdd q a b) ∧ w.grownBy w' none := by
 refine ret_in Tryd.func103 rfl rfl rfl ?_
 have pw := pu_refl w
 refine wc_seq ?_
 refine wc_region ?_
 refine wl_v (st_assign (v := .int .i64 (0)) rfl) rfl rfl rfl ?_
 refine wl_nil ?_
 refine wq_then ?_
 refine wc_seq ?_
 refine wc_region ?_
 refine wl_v (st_move (v := .int .i64 (q)) rfl) rfl rfl rfl ?_
 obtain ⟨p3, poly4, hq5⟩ : ∃ p poly, refField (q) = (p, poly) := ⟨_, _, rfl⟩
 refine wl_call (vs := [.int .i64 (q)]) C102 rfl rfl ((by have h := rfield_ok (q) w; rw [hq5] at h; exact h)) ?_
 rintro _ w6 ⟨hn7, sv1, rfl, hs2⟩
 have pw := pu_trans pw hn7
 have hzw6 := World.grownBy.size hn7
 have hs2 : rI.R w6 (Lo w6.heap.size) sv1 poly4 := hs2
 refine wl_v (st_move (v := .tuple #[.int .i64 (p3), sv1]) rfl) rfl rfl rfl ?_
 refine wl_v (st_extract (v := .int .i64 (p3)) rfl rfl) rfl rfl rfl ?_
 refine wl_v (st_extract (v := sv1) rfl rfl) rfl rfl rfl ?_
 refine wl_v (st_assign (v := .int .i64 (p3)) rfl) rfl rfl rfl ?_
 refine wl_v (st_assign (v := sv1) rfl) rfl rfl rfl ?_
 refine wl_nil ?_
 refine wq_then ?_
 refine wc_seq ?_
 refine wc_seq ?_
 have hq := hq5
 rw [hq] at hp0
 obtain ⟨hb1, hb2, hb3, hb4, hb5⟩ := refField_bd hq hp0
 have hp : 2 ≤ p3 ∧ p3 ≤ 13 := ⟨hb1, hb2⟩
 refine wc_region ?_
 refine wl_v (st_move (v := sv1) rfl) rfl rfl rfl ?_
 refine wl_v (st_lenS hs2 ty31 rfl) rfl rfl rfl ?_
 refine wl_v (st_eql rfl rfl) rfl rfl rfl ?_
 refine wl_nil ?_
 refine wq_then ?_
 refine wc_cond rfl ?_ ?_
 ·intro h8
  have h8p : ((poly4).length : Int) = 0 := by first | simpa using h8 | (simp at h8; omega)
  refine wc_seq ?_
  refine wc_region ?_
  refine wl_v (st_move (v := .int .i64 (a)) rfl) rfl rfl rfl ?_
  refine wl_v (st_move (v := .int .i64 (b)) rfl) rfl rfl rfl ?_
  refine wl_v (st_add rfl rfl (by omega) (by omega)) rfl rfl rfl ?_
  refine wl_v (st_move (v := .int .i64 (p3)) rfl) rfl rfl rfl ?_
  refine wl_v (st_rem rfl rfl (by omega) (by omega)) rfl rfl rfl ?_
  refine wl_v (st_assign (v := .int .i64 ((a + b) % p3)) rfl) rfl rfl rfl ?_
  refine wl_nil ?_
  refine wq_then ?_
  refine wc_ret ?_
  refine wq_then_ret ?_
  refine wq_ret1 (v := .int .i64 ((a + b) % p3)) rfl rfl rfl ?_
  exact ⟨congrArg (Value.int .i64) (refAdd_nil hq (List.eq_nil_of_length_eq_zero (by omega))).symm, pw⟩
 ·intro h8
  have h8p : ¬ (((poly4).length : Int) = 0) := by first | simpa using h8 | (simp at h8; omega)
  refine wc_skip ?_
  refine wq_then ?_
  refine wc_seq ?_
  have hne : poly4 ≠ [] := by intro h; have h9 : (poly4).length = 0 := (by rw [h]; rfl); omega
  obtain ⟨hc1, hc2, hc3, hc4⟩ := hb5.resolve_left hne
  refine wc_region ?_
  refine wl_v (st_move (v := sv1) rfl) rfl rfl rfl ?_
  refine wl_v (st_lenS hs2 ty31 rfl) rfl rfl rfl ?_
  refine wl_v (st_sub rfl rfl (by omega) (by omega)) rfl rfl rfl ?_
  obtain ⟨m, hm⟩ : ∃ m : Nat, ((poly4).length : Int) - 1 = (m : Int) := ⟨(poly4).length - 1, by omega⟩
  rw [hm]
  have hm2 : (poly4).length - 1 = m := by omega
  refine wl_v (st_assign (v := .int .i64 ((m : Int))) rfl) rfl rfl rfl ?_
  refine wl_nil ?_
  refine wq_then ?_
  refine wc_seq ?_
  refine wc_region ?_
  refine wl_v (st_move (v := .int .i64 (a)) rfl) rfl rfl rfl ?_
  refine wl_v (st_move (v := .int .i64 (p3)) rfl) rfl rfl rfl ?_
  refine wl_v (st_move (v := .int .i64 ((m : Int))) rfl) rfl rfl rfl ?_
  refine wl_call (vs := [.int .i64 (a), .int .i64 (p3), .int .i64 ((m : Int))]) C123 rfl rfl (rdigits_ok (a) (p3) (m) _ (by omega) (by omega) (by omega)) ?_
  rintro v10 w11 ⟨hn12, hd9⟩
  have pw := pu_trans pw hn12
  have hs2 := Rep.pu hs2 hn12
  have hzw11 := World.grownBy.size hn12
  refine wl_v (st_move (v := .int .i64 (b)) rfl) rfl rfl rfl ?_
  refine wl_v (st_move (v := .int .i64 (p3)) rfl) rfl rfl rfl ?_
  refine wl_v (st_move (v := .int .i64 ((m : Int))) rfl) rfl rfl rfl ?_
  refine wl_call (vs := [.int .i64 (b), .int .i64 (p3), .int .i64 ((m : Int))]) C123 rfl rfl (rdigits_ok (b) (p3) (m) _ (by omega) (by omega) (by omega)) ?_
  rintro v14 w15 ⟨hn16, hd13⟩
  have pw := pu_trans pw hn16
  have hs2 := Rep.pu hs2 hn16
  have hd9 := Bl.pu hd9 hn16
  have hzw15 := World.grownBy.size hn16
  refine wl_v (st_assign (v := v10) rfl) rfl rfl rfl ?_
  refine wl_v (st_assign (v := v14) rfl) rfl rfl rfl ?_
  refine wl_nil ?_
  refine wq_then ?_
  refine wc_seq ?_
  refine wc_seq ?_
  refine wc_region ?_
  refine wl_v (st_assign (v := .int .i64 (0)) rfl) rfl rfl rfl ?_
  refine wl_nil ?_
  refine wq_then ?_
  refine wc_block ?_
  have hl := digitsL_len p3 m a
  have hl2 := digitsL_len p3 m b
  refine wc_loop (fun fl mm w' => ∃ k : Nat, fl = [(6, .int .i64 (0)), (7, .int .i64 (p3)), (9, .int .i64 ((m : Int))), (10, v10), (11, v14), (12, .int .i64 ((k : Int)))] ∧ mm = m - k ∧ (k ≤ m) ∧ w.grownBy w' none ∧ rI.R w' (Lo w6.heap.size) (sv1) (poly4) ∧ Bl iR 3 w' (w6.heap.size) (w11.heap.size) (v10) (zipGo (fun x y => (x + y) % p3) (digitsL p3 m a) (digitsL p3 m b) k) ∧ Bl iR 3 w' (w11.heap.size) (w15.heap.size) (v14) (digitsL (p3) (m) (b))) (h0 := ⟨0, rfl, rfl, ?_, pw, hs2, (by rw [zipGo_zero]; exact hd9), hd13⟩) (hf := ⟨(by first | rfl | exact congrArg (Value.int _) (by omega) | go_num), (by first | rfl | exact congrArg (Value.int _) (by omega) | go_num), (by first | rfl | exact congrArg (Value.int _) (by omega) | go_num), (by first | rfl | exact congrArg (Value.int _) (by omega) | go_num), (by first | rfl | exact congrArg (Value.int _) (by omega) | go_num), (by first | rfl | exact congrArg (Value.int _) (by omega) | go_num), trivial⟩) ?_
  ·omega
  ·skip
   rintro _ _ w17 s18 ⟨k, rfl, rfl, p1_1, pw, hs2, hd9, hd13⟩
   refine wc_seq ?_
   refine wc_seq ?_
   refine wc_region ?_
   refine wl_v (st_move (v := .int .i64 ((k : Int))) rfl) rfl rfl rfl ?_
   refine wl_v (st_move (v := .int .i64 ((m : Int))) rfl) rfl rfl rfl ?_
   refine wl_v (st_lss rfl rfl) rfl rfl rfl ?_
   refine wl_nil ?_
   refine wq_then ?_
   refine wc_cond rfl ?_ ?_
   ·intro h19
    have h19p : (k : Int) < (m : Int) := by first | simpa using h19 | (simp at h19; omega)
    refine wc_skip ?_
    refine wq_then ?_
    refine wc_seq ?_
    refine wc_block ?_
    refine wc_region_mix (fun w' => (w17.drew).grownBy w' none) (fun k => (false) || Nat.ble 14 k) 14 (by kernel_rfl) (by kernel_rfl) (by kernel_rfl) ?_
    obtain ⟨w20, ew20⟩ : ∃ q, q = w17.drew := ⟨_, rfl⟩
    rw [← ew20]
    have hn21 : w17.grownBy w20 none := by rw [ew20]; exact ch_drew _
    have hsw20 : w20.heap.size = w17.heap.size := by rw [ew20]; rfl
    clear ew20
    have pw := pu_trans pw hn21
    have hs2 := Rep.pu hs2 hn21
    have hd9 := Bl.pu hd9 hn21
    have hd13 := Bl.pu hd13 hn21
    have pc22 := pu_refl w20
    refine wm_v rfl (fun _ => pc22) (fun w' hw' => (st_move (v := v10) rfl)) rfl rfl rfl ?_
    refine wm_v rfl (fun _ => pc22) (fun w' hw' => (st_move (v := .int .i64 ((k : Int))) rfl)) rfl rfl rfl ?_
    refine wm_v rfl (fun _ => pc22) (fun w' hw' => (st_move (v := v10) rfl)) rfl rfl rfl ?_
    refine wm_v rfl (fun _ => pc22) (fun w' hw' => (st_move (v := .int .i64 ((k : Int))) rfl)) rfl rfl rfl ?_
    have hbdg26 : (k : Int) < (((zipGo (fun x y => (x + y) % p3) (digitsL p3 m a) (digitsL p3 m b) k).length : Nat) : Int) := (by have hzl := zipGo_len (fun x y => (x + y) % p3) (digitsL p3 m a) (digitsL p3 m b) k (by omega) (by omega); omega)
    refine wm_e rfl (fun _ => pc22) (st_idxB hd9 ty31 ty3 rfl rfl (by omega) hbdg26) rfl rfl rfl ?_
    rintro _ ⟨g26, rfl, hv25, hc23⟩
    try simp only [Int.toNat_natCast, Int.toNat_zero, Int.reduceToNat] at hc23 ⊢
    refine wm_v rfl (fun _ => pc22) (fun w' hw' => (st_load ty3 rfl rfl (cell_pu hw' hc23))) rfl rfl rfl ?_
    refine wm_v rfl (fun _ => pc22) (fun w' hw' => (st_move (v := v14) rfl)) rfl rfl rfl ?_
    refine wm_v rfl (fun _ => pc22) (fun w' hw' => (st_move (v := .int .i64 ((k : Int))) rfl)) rfl rfl rfl ?_
    refine wm_e rfl (fun _ => pc22) (st_idxI (Bl.sl hd13) ty31 ty3 rfl rfl (by omega) (by omega)) rfl rfl rfl ?_
    rintro _ ⟨a28, rfl, hc27⟩
    simp only [Int.toNat_natCast] at hc27
    refine wm_v rfl (fun _ => pc22) (fun w' hw' => (st_load ty3 rfl rfl (cell_pu hw' hc27))) rfl rfl rfl ?_
    refine wm_v rfl (fun _ => pc22) (fun w' hw' => (st_add rfl rfl (by have h1 := zipGo_getD (fun x y => (x + y) % p3) (digitsL p3 m a) (digitsL p3 m b) k (by omega) (by omega); have h2 := digitsL_at p3 hp m a k (by omega); have h3 := digitsL_at p3 hp m b k (by omega); omega) (by have h1 := zipGo_getD (fun x y => (x + y) % p3) (digitsL p3 m a) (digitsL p3 m b) k (by omega) (by omega); have h2 := digitsL_at p3 hp m a k (by omega); have h3 := digitsL_at p3 hp m b k (by omega); omega))) rfl rfl rfl ?_
    refine wm_v rfl (fun _ => pc22) (fun w' hw' => (st_move (v := .int .i64 (p3)) rfl)) rfl rfl rfl ?_
    refine wm_v rfl (fun _ => pc22) (fun w' hw' => (st_rem rfl rfl (by have h1 := zipGo_getD (fun x y => (x + y) % p3) (digitsL p3 m a) (digitsL p3 m b) k (by omega) (by omega); have h2 := digitsL_at p3 hp m a k (by omega); have h3 := digitsL_at p3 hp m b k (by omega); omega) (by have h1 := zipGo_getD (fun x y => (x + y) % p3) (digitsL p3 m a) (digitsL p3 m b) k (by omega) (by omega); have h2 := digitsL_at p3 hp m a k (by omega); have h3 := digitsL_at p3 hp m b k (by omega); omega))) rfl rfl rfl ?_
    have hbdg32 : (k : Int) < (((zipGo (fun x y => (x + y) % p3) (digitsL p3 m a) (digitsL p3 m b) k).length : Nat) : Int) := (by have hzl := zipGo_len (fun x y => (x + y) % p3) (digitsL p3 m a) (digitsL p3 m b) k (by omega) (by omega); omega)
    refine wm_e rfl (fun _ => pc22) (st_idxB hd9 ty31 ty3 rfl rfl (by omega) hbdg32) rfl rfl rfl ?_
    rintro _ ⟨g32, rfl, hv31, hc29⟩
    try simp only [Int.toNat_natCast, Int.toNat_zero, Int.reduceToNat] at hc29 ⊢
    refine wm_tail (by decide) (fun _ => pc22) (fun j hj => by have hb : Nat.ble 14 j = true := (by rw [Nat.ble_eq]; omega); simp [hb]) ?_
    refine wl_storeB (q := (((zipGo (fun x y => (x + y) % p3) (digitsL p3 m a) (digitsL p3 m b) k).getD k 0) + ((digitsL (p3) (m) (b)).getD k 0)) % p3) hd9 ty3 rfl hv31 (by omega) rfl (fun _ _ => rfl) ?_
    intro w33 hb34 hg35 hs36
    have hown := Bl.own hd9 hv31
    have pw := pu_row pw hg35 (by intro q hq hlt; simp at hq; omega)
    have hs2 := Rep.ch hs2 hg35 (by intro q hq hlt; (try simp only [Lo, Iv]); simp at hq; omega)
    have hd13 := Bl.ch hd13 hg35 (by intro q hq hlt; simp at hq; omega)
    have hd9 := hb34
    try simp only [Int.toNat_natCast, Int.toNat_zero, Int.reduceToNat] at hd9
    refine wt_nil ?_
    refine wq_block_normal ?_
    refine wq_then ?_
    refine wc_region ?_
    refine wl_v (st_move (v := .int .i64 ((k : Int))) rfl) rfl rfl rfl ?_
    refine wl_v (st_add rfl rfl (by omega) (by omega)) rfl rfl rfl ?_
    refine wl_v (st_assign (v := .int .i64 ((k : Int) + 1)) rfl) rfl rfl rfl ?_
    refine wl_nil ?_
    refine wq_round (hI := ⟨k + 1, rfl, rfl, ?_, pw, hs2, (by have e : (zipGo (fun x y => (x + y) % p3) (digitsL p3 m a) (digitsL p3 m b) k).set k (((zipGo (fun x y => (x + y) % p3) (digitsL p3 m a) (digitsL p3 m b) k).getD k 0 + (digitsL p3 m b).getD k 0) % p3) = zipGo (fun x y => (x + y) % p3) (digitsL p3 m a) (digitsL p3 m b) (k + 1) := zipGo_set (fun x y => (x + y) % p3) (digitsL p3 m a) (digitsL p3 m b) k (by omega) (by omega); rw [e] at hd9; exact hd9), hd13⟩) (hm := ?_) (hf := ?_) rfl rfl
    ·omega
    ·omega
    ·exact ⟨(by first | rfl | exact congrArg (Value.int _) (by omega) | go_num), (by first | rfl | exact congrArg (Value.int _) (by omega) | go_num), (by first | rfl | exact congrArg (Value.int _) (by omega) | go_num), (by first | rfl | exact congrArg (Value.int _) (by omega) | go_num), (by first | rfl | exact congrArg (Value.int _) (by omega) | go_num), (by first | rfl | exact congrArg (Value.int _) (by omega) | go_num), trivial⟩
   ·intro h19
    have h19p : ¬ ((k : Int) < (m : Int)) := by first | simpa using h19 | (simp at h19; omega)
    refine wc_exit ?_
    refine wq_then_exit ?_
    refine wq_then_exit ?_
    refine wq_block_exit ?_
    refine wq_then ?_
    refine wc_seq ?_
    refine wc_region ?_
    refine wl_v (st_move (v := v10) rfl) rfl rfl rfl ?_
    refine wl_v (st_move (v := .int .i64 (p3)) rfl) rfl rfl rfl ?_
    refine wl_v (st_move (v := .int .i64 ((m : Int))) rfl) rfl rfl rfl ?_
    refine wl_call (vs := [v10, .int .i64 (p3), .int .i64 ((m : Int))]) C124 rfl rfl (rnumber_ok (v10) (zipGo (fun x y => (x + y) % p3) (digitsL p3 m a) (digitsL p3 m b) k) _ (p3) (m) _ (by omega) (by omega) (by have hzl := zipGo_len (fun x y => (x + y) % p3) (digitsL p3 m a) (digitsL p3 m b) k (by omega) (by omega); omega) (zipGo_bd (fun x y => mod_bd p3 hp _) (digitsL_bd' p3 hp m a)) (Bl.sl hd9)) ?_
    rintro _ w37 ⟨rfl, hn38⟩
    have pw := pu_trans pw hn38
    have hs2 := Rep.pu hs2 hn38
    have hd9 := Bl.pu hd9 hn38
    have hd13 := Bl.pu hd13 hn38
    have hzw37 := World.grownBy.size hn38
    refine wl_v (st_assign (v := .int .i64 (refNum (p3) ((zipGo (fun x y => (x + y) % p3) (digitsL p3 m a) (digitsL p3 m b) k).take (m)))) rfl) rfl rfl rfl ?_
    refine wl_nil ?_
    refine wq_then ?_
    refine wc_ret ?_
    refine wq_ret1 (v := .int .i64 (refNum (p3) ((zipGo (fun x y => (x + y) % p3) (digitsL p3 m a) (digitsL p3 m b) k).take (m)))) rfl rfl rfl ?_
    have hk : k = m := by omega
    subst hk
    have he := zipGo_all (fun x y => (x + y) % p3) (digitsL p3 k a) (digitsL p3 k b) (by rw [hl, hl2])
    rw [hl] at he
    rw [he, List.take_of_length_le (by simp; omega), refAdd_ext hq hne, hm2]
    exact ⟨rfl, pw⟩
set_option maxRecDepth 100000 in
theorem refMul_ok (q a b : Int) (w : World) (hp0 : 0 < (refField q).1) (ha : 0 ≤ a ∧ a < q) (hb : 0 ≤ b ∧ b < q) : Ret Tryd.prog 104 #[.int .i64 q, .int .i64 a, .int .i64 b] w fun v w' => v = .int .i64 (refMul q a b) ∧ w.grownBy w' none := by
 refine ret_in Tryd.func104 rfl rfl rfl ?_
 have pw := pu_refl w
 have hab := mul_bd ha.1 (show a ≤ 1000 + q by omega) hb.1 (show b ≤ 1000 + q by omega)
 refine wc_seq ?_
 refine wc_region ?_
 refine wl_v (st_assign (v := .int .i64 (0)) rfl) rfl rfl rfl ?_
 refine wl_nil ?_
 refine wq_then ?_
 refine wc_seq ?_
 refine wc_region ?_
 refine wl_v (st_move (v := .int .i64 (q)) rfl) rfl rfl rfl ?_
 obtain ⟨p3, poly4, hq5⟩ : ∃ p poly, refField (q) = (p, poly) := ⟨_, _, rfl⟩
 refine wl_call (vs := [.int .i64 (q)]) C102 rfl rfl ((by have h := rfield_ok (q) w; rw [hq5] at h; exact h)) ?_
 rintro _ w6 ⟨hn7, sv1, rfl, hs2⟩
 have pw := pu_trans pw hn7
 have hzw6 := World.grownBy.size hn7
 have hs2 : rI.R w6 (Lo w6.heap.size) sv1 poly4 := hs2
 refine wl_v (st_move (v := .tuple #[.int .i64 (p3), sv1]) rfl) rfl rfl rfl ?_
 refine wl_v (st_extract (v := .int .i64 (p3)) rfl rfl) rfl rfl rfl ?_
 refine wl_v (st_extract (v := sv1) rfl rfl) rfl rfl rfl ?_
 refine wl_v (st_assign (v := .int .i64 (p3)) rfl) rfl rfl rfl ?_
 refine wl_v (st_assign (v := sv1) rfl) rfl rfl rfl ?_
 refine wl_nil ?_
 refine wq_then ?_
 refine wc_seq ?_
 refine wc_seq ?_
 have hq := hq5
 rw [hq] at hp0
 obtain ⟨hb1, hb2, hb3, hb4, hb5⟩ := refField_bd hq hp0
 have hp : 2 ≤ p3 ∧ p3 ≤ 13 := ⟨hb1, hb2⟩
 refine wc_region ?_
 refine wl_v (st_move (v := sv1) rfl) rfl rfl rfl ?_
 refine wl_v (st_lenS hs2 ty31 rfl) rfl rfl rfl ?_
 refine wl_v (st_eql rfl rfl) rfl rfl rfl ?_
 refine wl_nil ?_
 refine wq_then ?_
 refine wc_cond rfl ?_ ?_
 ·intro h8
  have h8p : ((poly4).length : Int) = 0 := by first | simpa using h8 | (simp at h8; omega)
  refine wc_seq ?_
  have hab2 := mul_bd ha.1 (show a ≤ 16 by omega) hb.1 (show b ≤ 16 by omega)
  refine wc_region ?_
  refine wl_v (st_move (v := .int .i64 (a)) rfl) rfl rfl rfl ?_
  refine wl_v (st_move (v := .int .i64 (b)) rfl) rfl rfl rfl ?_
  refine wl_v (st_mul rfl rfl (by omega) (by omega)) rfl rfl rfl ?_
  refine wl_v (st_move (v := .int .i64 (p3)) rfl) rfl rfl rfl ?_
  refine wl_v (st_rem rfl rfl (by omega) (by omega)) rfl rfl rfl ?_
  refine wl_v (st_assign (v := .int .i64 ((a * b) % p3)) rfl) rfl rfl rfl ?_
  refine wl_nil ?_
  refine wq_then ?_
  refine wc_ret ?_
  refine wq_then_ret ?_
  refine wq_ret1 (v := .int .i64 ((a * b) % p3)) rfl rfl rfl ?_
  exact ⟨congrArg (Value.int .i64) (refMul_nil hq (List.eq_nil_of_length_eq_zero (by omega))).symm, pw⟩
 ·intro h8
  have h8p : ¬ (((poly4).length : Int) = 0) := by first | simpa using h8 | (simp at h8; omega)
  refine wc_skip ?_
  refine wq_then ?_
  refine wc_seq ?_
  have hne : poly4 ≠ [] := by intro h; have h9 : (poly4).length = 0 := (by rw [h]; rfl); omega
  obtain ⟨hc1, hc2, hc3, hc4⟩ := hb5.resolve_left hne
  refine wc_region ?_
  refine wl_v (st_move (v := sv1) rfl) rfl rfl rfl ?_
  refine wl_v (st_lenS hs2 ty31 rfl) rfl rfl rfl ?_
  refine wl_v (st_sub rfl rfl (by omega) (by omega)) rfl rfl rfl ?_
  obtain ⟨m, hm⟩ : ∃ m : Nat, ((poly4).length : Int) - 1 = (m : Int) := ⟨(poly4).length - 1, by omega⟩
  rw [hm]
  have hm2 : (poly4).length - 1 = m := by omega
  refine wl_v (st_assign (v := .int .i64 ((m : Int))) rfl) rfl rfl rfl ?_
  refine wl_nil ?_
  refine wq_then ?_
  refine wc_seq ?_
  refine wc_region ?_
  refine wl_v (st_move (v := .int .i64 (a)) rfl) rfl rfl rfl ?_
  refine wl_v (st_move (v := .int .i64 (p3)) rfl) rfl rfl rfl ?_
  refine wl_v (st_move (v := .int .i64 ((m : Int))) rfl) rfl rfl rfl ?_
  refine wl_call (vs := [.int .i64 (a), .int .i64 (p3), .int .i64 ((m : Int))]) C123 rfl rfl (rdigits_ok (a) (p3) (m) _ (by omega) (by omega) (by omega)) ?_
  rintro v10 w11 ⟨hn12, hd9⟩
  have pw := pu_trans pw hn12
  have hs2 := Rep.pu hs2 hn12
  have hzw11 := World.grownBy.size hn12
  refine wl_v (st_move (v := .int .i64 (b)) rfl) rfl rfl rfl ?_
  refine wl_v (st_move (v := .int .i64 (p3)) rfl) rfl rfl rfl ?_
  refine wl_v (st_move (v := .int .i64 ((m : Int))) rfl) rfl rfl rfl ?_
  refine wl_call (vs := [.int .i64 (b), .int .i64 (p3), .int .i64 ((m : Int))]) C123 rfl rfl (rdigits_ok (b) (p3) (m) _ (by omega) (by omega) (by omega)) ?_
  rintro v14 w15 ⟨hn16, hd13⟩
  have pw := pu_trans pw hn16
  have hs2 := Rep.pu hs2 hn16
  have hd9 := Bl.pu hd9 hn16
  have hzw15 := World.grownBy.size hn16
  refine wl_v (st_assign (v := v10) rfl) rfl rfl rfl ?_
  refine wl_v (st_assign (v := v14) rfl) rfl rfl rfl ?_
  refine wl_nil ?_
  refine wq_then ?_
  refine wc_seq ?_
  refine wc_region ?_
  refine wl_v (st_move (v := .int .i64 (p3)) rfl) rfl rfl rfl ?_
  refine wl_v (st_move (v := .int .i64 ((m : Int))) rfl) rfl rfl rfl ?_
  refine wl_v (st_mul rfl rfl (by omega) (by omega)) rfl rfl rfl ?_
  rw [show 2 * (m : Int) = ((2 * m : Nat) : Int) by omega]
  refine wl_call (vs := [.int .i64 (0), .int .i64 (p3), .int .i64 (((2 * m : Nat) : Int))]) C123 rfl rfl (rdigits_ok (0) (p3) ((2 * m : Nat)) _ (by omega) (by omega) (by omega)) ?_
  rintro v18 w19 ⟨hn20, hd17⟩
  have pw := pu_trans pw hn20
  have hs2 := Rep.pu hs2 hn20
  have hd9 := Bl.pu hd9 hn20
  have hd13 := Bl.pu hd13 hn20
  have hzw19 := World.grownBy.size hn20
  refine wl_v (st_assign (v := v18) rfl) rfl rfl rfl ?_
  refine wl_nil ?_
  refine wq_then ?_
  refine wc_seq ?_
  refine wc_seq ?_
  refine wc_region ?_
  refine wl_v (st_assign (v := .int .i64 (0)) rfl) rfl rfl rfl ?_
  refine wl_nil ?_
  refine wq_then ?_
  refine wc_block ?_
  have hl := digitsL_len p3 m a
  have hl2 := digitsL_len p3 m b
  refine wc_loop (fun fl mm w' => ∃ i : Nat, ∃ dd : List Int, fl = [(6, .int .i64 (0)), (7, .int .i64 (p3)), (8, sv1), (9, .int .i64 ((m : Int))), (10, v10), (11, v14), (12, v18), (13, .int .i64 ((i : Int)))] ∧ mm = m - i ∧ (i ≤ m) ∧ (dd = (List.range i).foldl (mulRow p3 (digitsL p3 m a) (digitsL p3 m b) m) (digitsL p3 (2 * m) 0)) ∧ (dd.length = 2 * m) ∧ (∀ x ∈ dd, 0 ≤ x ∧ x ≤ p3 - 1) ∧ w.grownBy w' none ∧ rI.R w' (Lo w6.heap.size) (sv1) (poly4) ∧ Bl iR 3 w' (w6.heap.size) (w11.heap.size) (v10) (digitsL (p3) (m) (a)) ∧ Bl iR 3 w' (w11.heap.size) (w15.heap.size) (v14) (digitsL (p3) (m) (b)) ∧ Bl iR 3 w' (w15.heap.size) (w19.heap.size) (v18) (dd)) (h0 := ⟨0, (digitsL p3 (2 * m) 0), rfl, rfl, ?_, ?_, ?_, ?_, pw, hs2, hd9, hd13, hd17⟩) (hf := ⟨(by first | rfl | exact congrArg (Value.int _) (by omega) | go_num), (by first | rfl | exact congrArg (Value.int _) (by omega) | go_num), (by first | rfl | exact congrArg (Value.int _) (by omega) | go_num), (by first | rfl | exact congrArg (Value.int _) (by omega) | go_num), (by first | rfl | exact congrArg (Value.int _) (by omega) | go_num), (by first | rfl | exact congrArg (Value.int _) (by omega) | go_num), (by first | rfl | exact congrArg (Value.int _) (by omega) | go_num), (by first | rfl | exact congrArg (Value.int _) (by omega) | go_num), trivial⟩) ?_
  ·omega
  ·rfl
  ·(exact digitsL_len p3 (2 * m) 0)
  ·(exact digitsL_bd2 p3 hp.1 (2 * m) 0)
  ·skip
   rintro _ _ w21 s22 ⟨i, dd, rfl, rfl, p1_1, p1_2, p1_3, p1_4, pw, hs2, hd9, hd13, hd17⟩
   refine wc_seq ?_
   refine wc_seq ?_
   refine wc_region ?_
   refine wl_v (st_move (v := .int .i64 ((i : Int))) rfl) rfl rfl rfl ?_
   refine wl_v (st_move (v := .int .i64 ((m : Int))) rfl) rfl rfl rfl ?_
   refine wl_v (st_lss rfl rfl) rfl rfl rfl ?_
   refine wl_nil ?_
   refine wq_then ?_
   refine wc_cond rfl ?_ ?_
   ·intro h23
    have h23p : (i : Int) < (m : Int) := by first | simpa using h23 | (simp at h23; omega)
    refine wc_skip ?_
    refine wq_then ?_
    refine wc_seq ?_
    refine wc_block ?_
    refine wc_seq ?_
    refine wc_region ?_
    refine wl_v (st_assign (v := .int .i64 (0)) rfl) rfl rfl rfl ?_
    refine wl_nil ?_
    refine wq_then ?_
    refine wc_block ?_
    refine wc_loop (fun fl mm w' => ∃ k : Nat, ∃ ee : List Int, fl = [(6, .int .i64 (0)), (7, .int .i64 (p3)), (8, sv1), (9, .int .i64 ((m : Int))), (10, v10), (11, v14), (12, v18), (13, .int .i64 ((i : Int))), (14, .int .i64 ((k : Int)))] ∧ mm = m - k ∧ (k ≤ m) ∧ (ee = (List.range k).foldl (mulIn p3 (digitsL p3 m a) (digitsL p3 m b) i) dd) ∧ (ee.length = 2 * m) ∧ (∀ x ∈ ee, 0 ≤ x ∧ x ≤ p3 - 1) ∧ w.grownBy w' none ∧ rI.R w' (Lo w6.heap.size) (sv1) (poly4) ∧ Bl iR 3 w' (w6.heap.size) (w11.heap.size) (v10) (digitsL (p3) (m) (a)) ∧ Bl iR 3 w' (w11.heap.size) (w15.heap.size) (v14) (digitsL (p3) (m) (b)) ∧ Bl iR 3 w' (w15.heap.size) (w19.heap.size) (v18) (ee)) (h0 := ⟨0, dd, rfl, rfl, ?_, ?_, ?_, ?_, pw, hs2, hd9, hd13, hd17⟩) (hf := ⟨(by first | rfl | exact congrArg (Value.int _) (by omega) | go_num), (by first | rfl | exact congrArg (Value.int _) (by omega) | go_num), (by first | rfl | exact congrArg (Value.int _) (by omega) | go_num), (by first | rfl | exact congrArg (Value.int _) (by omega) | go_num), (by first | rfl | exact congrArg (Value.int _) (by omega) | go_num), (by first | rfl | exact congrArg (Value.int _) (by omega) | go_num), (by first | rfl | exact congrArg (Value.int _) (by omega) | go_num), (by first | rfl | exact congrArg (Value.int _) (by omega) | go_num), (by first | rfl | exact congrArg (Value.int _) (by omega) | go_num), trivial⟩) ?_
    ·omega
    ·rfl
    ·omega
    ·(exact p1_4)
    ·skip
     rintro _ _ w24 s25 ⟨k, ee, rfl, rfl, p2_1, p2_2, p2_3, p2_4, pw, hs2, hd9, hd13, hd17⟩
     refine wc_seq ?_
     refine wc_seq ?_
     refine wc_region ?_
     refine wl_v (st_move (v := .int .i64 ((k : Int))) rfl) rfl rfl rfl ?_
     refine wl_v (st_move (v := .int .i64 ((m : Int))) rfl) rfl rfl rfl ?_
     refine wl_v (st_lss rfl rfl) rfl rfl rfl ?_
     refine wl_nil ?_
     refine wq_then ?_
     refine wc_cond rfl ?_ ?_
     ·intro h26
      have h26p : (k : Int) < (m : Int) := by first | simpa using h26 | (simp at h26; omega)
      refine wc_skip ?_
      refine wq_then ?_
      refine wc_seq ?_
      refine wc_block ?_
      refine wc_region_mix (fun w' => (w24.drew).grownBy w' none) (fun k => (false) || Nat.ble 23 k) 23 (by kernel_rfl) (by kernel_rfl) (by kernel_rfl) ?_
      obtain ⟨w27, ew27⟩ : ∃ q, q = w24.drew := ⟨_, rfl⟩
      rw [← ew27]
      have hn28 : w24.grownBy w27 none := by rw [ew27]; exact ch_drew _
      have hsw27 : w27.heap.size = w24.heap.size := by rw [ew27]; rfl
      clear ew27
      have pw := pu_trans pw hn28
      have hs2 := Rep.pu hs2 hn28
      have hd9 := Bl.pu hd9 hn28
      have hd13 := Bl.pu hd13 hn28
      have hd17 := Bl.pu hd17 hn28
      have pc29 := pu_refl w27
      refine wm_v rfl (fun _ => pc29) (fun w' hw' => (st_move (v := v18) rfl)) rfl rfl rfl ?_
      refine wm_v rfl (fun _ => pc29) (fun w' hw' => (st_move (v := .int .i64 ((i : Int))) rfl)) rfl rfl rfl ?_
      refine wm_v rfl (fun _ => pc29) (fun w' hw' => (st_move (v := .int .i64 ((k : Int))) rfl)) rfl rfl rfl ?_
      refine wm_v rfl (fun _ => pc29) (fun w' hw' => (st_add rfl rfl (by omega) (by omega))) rfl rfl rfl ?_
      rw [show (i : Int) + (k : Int) = ((i + k : Nat) : Int) by omega]
      refine wm_v rfl (fun _ => pc29) (fun w' hw' => (st_move (v := v18) rfl)) rfl rfl rfl ?_
      refine wm_v rfl (fun _ => pc29) (fun w' hw' => (st_move (v := .int .i64 ((i : Int))) rfl)) rfl rfl rfl ?_
      refine wm_v rfl (fun _ => pc29) (fun w' hw' => (st_move (v := .int .i64 ((k : Int))) rfl)) rfl rfl rfl ?_
      refine wm_v rfl (fun _ => pc29) (fun w' hw' => (st_add rfl rfl (by omega) (by omega))) rfl rfl rfl ?_
      rw [show (i : Int) + (k : Int) = ((i + k : Nat) : Int) by omega]
      refine wm_e rfl (fun _ => pc29) (st_idxI (Bl.sl hd17) ty31 ty3 rfl rfl (by omega) (by omega)) rfl rfl rfl ?_
      rintro _ ⟨a31, rfl, hc30⟩
      simp only [Int.toNat_natCast] at hc30
      refine wm_v rfl (fun _ => pc29) (fun w' hw' => (st_load ty3 rfl rfl (cell_pu hw' hc30))) rfl rfl rfl ?_
      refine wm_v rfl (fun _ => pc29) (fun w' hw' => (st_move (v := v10) rfl)) rfl rfl rfl ?_
      refine wm_v rfl (fun _ => pc29) (fun w' hw' => (st_move (v := .int .i64 ((i : Int))) rfl)) rfl rfl rfl ?_
      refine wm_e rfl (fun _ => pc29) (st_idxI (Bl.sl hd9) ty31 ty3 rfl rfl (by omega) (by omega)) rfl rfl rfl ?_
      rintro _ ⟨a33, rfl, hc32⟩
      simp only [Int.toNat_natCast] at hc32
      refine wm_v rfl (fun _ => pc29) (fun w' hw' => (st_load ty3 rfl rfl (cell_pu hw' hc32))) rfl rfl rfl ?_
      refine wm_v rfl (fun _ => pc29) (fun w' hw' => (st_move (v := v14) rfl)) rfl rfl rfl ?_
      refine wm_v rfl (fun _ => pc29) (fun w' hw' => (st_move (v := .int .i64 ((k : Int))) rfl)) rfl rfl rfl ?_
      refine wm_e rfl (fun _ => pc29) (st_idxI (Bl.sl hd13) ty31 ty3 rfl rfl (by omega) (by omega)) rfl rfl rfl ?_
      rintro _ ⟨a35, rfl, hc34⟩
      simp only [Int.toNat_natCast] at hc34
      refine wm_v rfl (fun _ => pc29) (fun w' hw' => (st_load ty3 rfl rfl (cell_pu hw' hc34))) rfl rfl rfl ?_
      refine wm_v rfl (fun _ => pc29) (fun w' hw' => (st_mul rfl rfl (by have h1 := at_bd ee (p3 - 1) (by omega) p2_4 (i + k); have h2 := digitsL_at p3 hp m a i (by omega); have h3 := digitsL_at p3 hp m b k (by omega); have h4 := mul_bd h2.1 h2.2 h3.1 h3.2; omega) (by have h1 := at_bd ee (p3 - 1) (by omega) p2_4 (i + k); have h2 := digitsL_at p3 hp m a i (by omega); have h3 := digitsL_at p3 hp m b k (by omega); have h4 := mul_bd h2.1 h2.2 h3.1 h3.2; omega))) rfl rfl rfl ?_
      refine wm_v rfl (fun _ => pc29) (fun w' hw' => (st_add rfl rfl (by have h1 := at_bd ee (p3 - 1) (by omega) p2_4 (i + k); have h2 := digitsL_at p3 hp m a i (by omega); have h3 := digitsL_at p3 hp m b k (by omega); have h4 := mul_bd h2.1 h2.2 h3.1 h3.2; omega) (by have h1 := at_bd ee (p3 - 1) (by omega) p2_4 (i + k); have h2 := digitsL_at p3 hp m a i (by omega); have h3 := digitsL_at p3 hp m b k (by omega); have h4 := mul_bd h2.1 h2.2 h3.1 h3.2; omega))) rfl rfl rfl ?_
      refine wm_v rfl (fun _ => pc29) (fun w' hw' => (st_move (v := .int .i64 (p3)) rfl)) rfl rfl rfl ?_
      refine wm_v rfl (fun _ => pc29) (fun w' hw' => (st_rem rfl rfl (by have h1 := at_bd ee (p3 - 1) (by omega) p2_4 (i + k); have h2 := digitsL_at p3 hp m a i (by omega); have h3 := digitsL_at p3 hp m b k (by omega); have h4 := mul_bd h2.1 h2.2 h3.1 h3.2; omega) (by have h1 := at_bd ee (p3 - 1) (by omega) p2_4 (i + k); have h2 := digitsL_at p3 hp m a i (by omega); have h3 := digitsL_at p3 hp m b k (by omega); have h4 := mul_bd h2.1 h2.2 h3.1 h3.2; omega))) rfl rfl rfl ?_
      have hbdg39 : ((i + k : Nat) : Int) < (((ee).length : Nat) : Int) := (by omega)
      refine wm_e rfl (fun _ => pc29) (st_idxB hd17 ty31 ty3 rfl rfl (by omega) hbdg39) rfl rfl rfl ?_
      rintro _ ⟨g39, rfl, hv38, hc36⟩
      try simp only [Int.toNat_natCast, Int.toNat_zero, Int.reduceToNat] at hc36 ⊢
      refine wm_tail (by decide) (fun _ => pc29) (fun j hj => by have hb : Nat.ble 23 j = true := (by rw [Nat.ble_eq]; omega); simp [hb]) ?_
      refine wl_storeB (q := (((ee).getD (i + k : Nat) 0) + (((digitsL (p3) (m) (a)).getD i 0) * ((digitsL (p3) (m) (b)).getD k 0))) % p3) hd17 ty3 rfl hv38 (by omega) rfl (fun _ _ => rfl) ?_
      intro w40 hb41 hg42 hs43
      have hown := Bl.own hd17 hv38
      have pw := pu_row pw hg42 (by intro q hq hlt; simp at hq; omega)
      have hs2 := Rep.ch hs2 hg42 (by intro q hq hlt; (try simp only [Lo, Iv]); simp at hq; omega)
      have hd9 := Bl.ch hd9 hg42 (by intro q hq hlt; simp at hq; omega)
      have hd13 := Bl.ch hd13 hg42 (by intro q hq hlt; simp at hq; omega)
      have hd17 := hb41
      try simp only [Int.toNat_natCast, Int.toNat_zero, Int.reduceToNat] at hd17
      refine wt_nil ?_
      refine wq_block_normal ?_
      refine wq_then ?_
      refine wc_region ?_
      refine wl_v (st_move (v := .int .i64 ((k : Int))) rfl) rfl rfl rfl ?_
      refine wl_v (st_add rfl rfl (by omega) (by omega)) rfl rfl rfl ?_
      refine wl_v (st_assign (v := .int .i64 ((k : Int) + 1)) rfl) rfl rfl rfl ?_
      refine wl_nil ?_
      refine wq_round (hI := ⟨k + 1, (mulIn p3 (digitsL p3 m a) (digitsL p3 m b) i ee k), rfl, rfl, ?_, ?_, ?_, ?_, pw, hs2, hd9, hd13, hd17⟩) (hm := ?_) (hf := ?_) rfl rfl
      ·omega
      ·(rw [← fold_succ, ← p2_2])
      ·(rw [mulIn, List.length_set]; omega)
      ·(exact set_bd p2_4 (mod_bd' p3 hp.1 _))
      ·omega
      ·exact ⟨(by first | rfl | exact congrArg (Value.int _) (by omega) | go_num), (by first | rfl | exact congrArg (Value.int _) (by omega) | go_num), (by first | rfl | exact congrArg (Value.int _) (by omega) | go_num), (by first | rfl | exact congrArg (Value.int _) (by omega) | go_num), (by first | rfl | exact congrArg (Value.int _) (by omega) | go_num), (by first | rfl | exact congrArg (Value.int _) (by omega) | go_num), (by first | rfl | exact congrArg (Value.int _) (by omega) | go_num), (by first | rfl | exact congrArg (Value.int _) (by omega) | go_num), (by first | rfl | exact congrArg (Value.int _) (by omega) | go_num), trivial⟩
     ·intro h26
      have h26p : ¬ ((k : Int) < (m : Int)) := by first | simpa using h26 | (simp at h26; omega)
      refine wc_exit ?_
      refine wq_then_exit ?_
      refine wq_then_exit ?_
      refine wq_block_exit ?_
      refine wq_block_normal ?_
      refine wq_then ?_
      refine wc_region ?_
      refine wl_v (st_move (v := .int .i64 ((i : Int))) rfl) rfl rfl rfl ?_
      refine wl_v (st_add rfl rfl (by omega) (by omega)) rfl rfl rfl ?_
      refine wl_v (st_assign (v := .int .i64 ((i : Int) + 1)) rfl) rfl rfl rfl ?_
      refine wl_nil ?_
      refine wq_round (hI := ⟨i + 1, ee, rfl, rfl, ?_, ?_, ?_, ?_, pw, hs2, hd9, hd13, hd17⟩) (hm := ?_) (hf := ?_) rfl rfl
      ·omega
      ·(rw [← fold_succ, ← p1_2, show mulRow p3 (digitsL p3 m a) (digitsL p3 m b) m dd i = (List.range m).foldl (mulIn p3 (digitsL p3 m a) (digitsL p3 m b) i) dd from rfl]; rw [show k = m by omega] at p2_2; exact p2_2)
      ·omega
      ·(exact p2_4)
      ·omega
      ·exact ⟨(by first | rfl | exact congrArg (Value.int _) (by omega) | go_num), (by first | rfl | exact congrArg (Value.int _) (by omega) | go_num), (by first | rfl | exact congrArg (Value.int _) (by omega) | go_num), (by first | rfl | exact congrArg (Value.int _) (by omega) | go_num), (by first | rfl | exact congrArg (Value.int _) (by omega) | go_num), (by first | rfl | exact congrArg (Value.int _) (by omega) | go_num), (by first | rfl | exact congrArg (Value.int _) (by omega) | go_num), (by first | rfl | exact congrArg (Value.int _) (by omega) | go_num), trivial⟩
   ·intro h23
    have h23p : ¬ ((i : Int) < (m : Int)) := by first | simpa using h23 | (simp at h23; omega)
    refine wc_exit ?_
    refine wq_then_exit ?_
    refine wq_then_exit ?_
    refine wq_block_exit ?_
    refine wq_then ?_
    refine wc_seq ?_
    refine wc_seq ?_
    refine wc_region ?_
    refine wl_v (st_move (v := .int .i64 ((m : Int))) rfl) rfl rfl rfl ?_
    refine wl_v (st_mul rfl rfl (by omega) (by omega)) rfl rfl rfl ?_
    refine wl_v (st_sub rfl rfl (by omega) (by omega)) rfl rfl rfl ?_
    refine wl_v (st_assign (v := .int .i64 ((2 * (m : Int)) - 1)) rfl) rfl rfl rfl ?_
    refine wl_nil ?_
    refine wq_then ?_
    refine wc_block ?_
    refine wc_loop (fun fl mm w' => ∃ j : Nat, ∃ ff : List Int, fl = [(6, .int .i64 (0)), (7, .int .i64 (p3)), (8, sv1), (9, .int .i64 ((m : Int))), (12, v18), (15, .int .i64 (((2 * m - 1 - j : Nat) : Int)))] ∧ mm = m - j ∧ (j ≤ m) ∧ (ff = (List.range j).foldl (redRow p3 poly4 m) ((List.range m).foldl (mulRow p3 (digitsL p3 m a) (digitsL p3 m b) m) (digitsL p3 (2 * m) 0))) ∧ (ff.length = 2 * m) ∧ (∀ x ∈ ff, 0 ≤ x ∧ x ≤ p3 - 1) ∧ w.grownBy w' none ∧ rI.R w' (Lo w6.heap.size) (sv1) (poly4) ∧ Bl iR 3 w' (w6.heap.size) (w11.heap.size) (v10) (digitsL (p3) (m) (a)) ∧ Bl iR 3 w' (w11.heap.size) (w15.heap.size) (v14) (digitsL (p3) (m) (b)) ∧ Bl iR 3 w' (w15.heap.size) (w19.heap.size) (v18) (ff)) (h0 := ⟨0, dd, rfl, rfl, ?_, ?_, ?_, ?_, pw, hs2, hd9, hd13, hd17⟩) (hf := ⟨(by first | rfl | exact congrArg (Value.int _) (by omega) | go_num), (by first | rfl | exact congrArg (Value.int _) (by omega) | go_num), (by first | rfl | exact congrArg (Value.int _) (by omega) | go_num), (by first | rfl | exact congrArg (Value.int _) (by omega) | go_num), (by first | rfl | exact congrArg (Value.int _) (by omega) | go_num), (by first | rfl | exact congrArg (Value.int _) (by omega) | go_num), trivial⟩) ?_
    ·omega
    ·(rw [p1_2, show i = m by omega]; rfl)
    ·omega
    ·(exact p1_4)
    ·skip
     rintro _ _ w44 s45 ⟨j, ff, rfl, rfl, p3_1, p3_2, p3_3, p3_4, pw, hs2, hd9, hd13, hd17⟩
     refine wc_seq ?_
     refine wc_seq ?_
     refine wc_region ?_
     refine wl_v (st_move (v := .int .i64 (((2 * m - 1 - j : Nat) : Int))) rfl) rfl rfl rfl ?_
     refine wl_v (st_move (v := .int .i64 ((m : Int))) rfl) rfl rfl rfl ?_
     refine wl_v (st_geq rfl rfl) rfl rfl rfl ?_
     refine wl_nil ?_
     refine wq_then ?_
     refine wc_cond rfl ?_ ?_
     ·intro h46
      have h46p : (m : Int) ≤ ((2 * m - 1 - j : Nat) : Int) := by first | simpa using h46 | (simp at h46; omega)
      refine wc_skip ?_
      refine wq_then ?_
      refine wc_seq ?_
      refine wc_block ?_
      refine wc_seq ?_
      refine wc_region ?_
      refine wl_v (st_move (v := v18) rfl) rfl rfl rfl ?_
      refine wl_v (st_move (v := .int .i64 (((2 * m - 1 - j : Nat) : Int))) rfl) rfl rfl rfl ?_
      refine wl_e (st_idxI (Bl.sl hd17) ty31 ty3 rfl rfl (by omega) (by omega)) rfl rfl rfl ?_
      rintro _ ⟨a48, rfl, hc47⟩
      simp only [Int.toNat_natCast] at hc47
      refine wl_v (st_load ty3 rfl rfl hc47) rfl rfl rfl ?_
      refine wl_v (st_assign (v := .int .i64 ((ff).getD (2 * m - 1 - j : Nat) 0)) rfl) rfl rfl rfl ?_
      refine wl_nil ?_
      refine wq_then ?_
      refine wc_seq ?_
      refine wc_region ?_
      refine wl_v (st_assign (v := .int .i64 (0)) rfl) rfl rfl rfl ?_
      refine wl_nil ?_
      refine wq_then ?_
      refine wc_block ?_
      refine wc_loop (fun fl mm w' => ∃ r : Nat, ∃ gg : List Int, fl = [(6, .int .i64 (0)), (7, .int .i64 (p3)), (8, sv1), (9, .int .i64 ((m : Int))), (12, v18), (15, .int .i64 (((2 * m - 1 - j : Nat) : Int))), (16, .int .i64 ((ff).getD (2 * m - 1 - j : Nat) 0)), (17, .int .i64 ((r : Int)))] ∧ mm = m + 1 - r ∧ (r ≤ m + 1) ∧ (gg = (List.range r).foldl (redIn p3 poly4 m (2 * m - 1 - j) (ff.getD (2 * m - 1 - j) 0)) ff) ∧ (gg.length = 2 * m) ∧ (∀ x ∈ gg, 0 ≤ x ∧ x ≤ p3 - 1) ∧ w.grownBy w' none ∧ rI.R w' (Lo w6.heap.size) (sv1) (poly4) ∧ Bl iR 3 w' (w6.heap.size) (w11.heap.size) (v10) (digitsL (p3) (m) (a)) ∧ Bl iR 3 w' (w11.heap.size) (w15.heap.size) (v14) (digitsL (p3) (m) (b)) ∧ Bl iR 3 w' (w15.heap.size) (w19.heap.size) (v18) (gg)) (h0 := ⟨0, ff, rfl, rfl, ?_, ?_, ?_, ?_, pw, hs2, hd9, hd13, hd17⟩) (hf := ⟨(by first | rfl | exact congrArg (Value.int _) (by omega) | go_num), (by first | rfl | exact congrArg (Value.int _) (by omega) | go_num), (by first | rfl | exact congrArg (Value.int _) (by omega) | go_num), (by first | rfl | exact congrArg (Value.int _) (by omega) | go_num), (by first | rfl | exact congrArg (Value.int _) (by omega) | go_num), (by first | rfl | exact congrArg (Value.int _) (by omega) | go_num), (by first | rfl | exact congrArg (Value.int _) (by omega) | go_num), (by first | rfl | exact congrArg (Value.int _) (by omega) | go_num), trivial⟩) ?_
      ·omega
      ·rfl
      ·omega
      ·(exact p3_4)
      ·skip
       rintro _ _ w49 s50 ⟨r, gg, rfl, rfl, p4_1, p4_2, p4_3, p4_4, pw, hs2, hd9, hd13, hd17⟩
       refine wc_seq ?_
       refine wc_seq ?_
       refine wc_region ?_
       refine wl_v (st_move (v := .int .i64 ((r : Int))) rfl) rfl rfl rfl ?_
       refine wl_v (st_move (v := .int .i64 ((m : Int))) rfl) rfl rfl rfl ?_
       refine wl_v (st_leq rfl rfl) rfl rfl rfl ?_
       refine wl_nil ?_
       refine wq_then ?_
       refine wc_cond rfl ?_ ?_
       ·intro h51
        have h51p : (r : Int) ≤ (m : Int) := by first | simpa using h51 | (simp at h51; omega)
        refine wc_skip ?_
        refine wq_then ?_
        refine wc_seq ?_
        refine wc_block ?_
        refine wc_region_mix (fun w' => (w49.drew).grownBy w' none) (fun k => (false) || Nat.ble 26 k) 26 (by kernel_rfl) (by kernel_rfl) (by kernel_rfl) ?_
        obtain ⟨w52, ew52⟩ : ∃ q, q = w49.drew := ⟨_, rfl⟩
        rw [← ew52]
        have hn53 : w49.grownBy w52 none := by rw [ew52]; exact ch_drew _
        have hsw52 : w52.heap.size = w49.heap.size := by rw [ew52]; rfl
        clear ew52
        have pw := pu_trans pw hn53
        have hs2 := Rep.pu hs2 hn53
        have hd9 := Bl.pu hd9 hn53
        have hd13 := Bl.pu hd13 hn53
        have hd17 := Bl.pu hd17 hn53
        have pc54 := pu_refl w52
        refine wm_v rfl (fun _ => pc54) (fun w' hw' => (st_move (v := v18) rfl)) rfl rfl rfl ?_
        refine wm_v rfl (fun _ => pc54) (fun w' hw' => (st_move (v := .int .i64 (((2 * m - 1 - j : Nat) : Int))) rfl)) rfl rfl rfl ?_
        refine wm_v rfl (fun _ => pc54) (fun w' hw' => (st_move (v := .int .i64 ((m : Int))) rfl)) rfl rfl rfl ?_
        refine wm_v rfl (fun _ => pc54) (fun w' hw' => (st_sub rfl rfl (by omega) (by omega))) rfl rfl rfl ?_
        rw [show ((2 * m - 1 - j : Nat) : Int) - (m : Int) = ((2 * m - 1 - j - m : Nat) : Int) by omega]
        refine wm_v rfl (fun _ => pc54) (fun w' hw' => (st_move (v := .int .i64 ((r : Int))) rfl)) rfl rfl rfl ?_
        refine wm_v rfl (fun _ => pc54) (fun w' hw' => (st_add rfl rfl (by omega) (by omega))) rfl rfl rfl ?_
        rw [show ((2 * m - 1 - j - m : Nat) : Int) + (r : Int) = ((2 * m - 1 - j - m + r : Nat) : Int) by omega]
        refine wm_v rfl (fun _ => pc54) (fun w' hw' => (st_move (v := v18) rfl)) rfl rfl rfl ?_
        refine wm_v rfl (fun _ => pc54) (fun w' hw' => (st_move (v := .int .i64 (((2 * m - 1 - j : Nat) : Int))) rfl)) rfl rfl rfl ?_
        refine wm_v rfl (fun _ => pc54) (fun w' hw' => (st_move (v := .int .i64 ((m : Int))) rfl)) rfl rfl rfl ?_
        refine wm_v rfl (fun _ => pc54) (fun w' hw' => (st_sub rfl rfl (by omega) (by omega))) rfl rfl rfl ?_
        rw [show ((2 * m - 1 - j : Nat) : Int) - (m : Int) = ((2 * m - 1 - j - m : Nat) : Int) by omega]
        refine wm_v rfl (fun _ => pc54) (fun w' hw' => (st_move (v := .int .i64 ((r : Int))) rfl)) rfl rfl rfl ?_
        refine wm_v rfl (fun _ => pc54) (fun w' hw' => (st_add rfl rfl (by omega) (by omega))) rfl rfl rfl ?_
        rw [show ((2 * m - 1 - j - m : Nat) : Int) + (r : Int) = ((2 * m - 1 - j - m + r : Nat) : Int) by omega]
        refine wm_e rfl (fun _ => pc54) (st_idxI (Bl.sl hd17) ty31 ty3 rfl rfl (by omega) (by omega)) rfl rfl rfl ?_
        rintro _ ⟨a56, rfl, hc55⟩
        simp only [Int.toNat_natCast] at hc55
        refine wm_v rfl (fun _ => pc54) (fun w' hw' => (st_load ty3 rfl rfl (cell_pu hw' hc55))) rfl rfl rfl ?_
        refine wm_v rfl (fun _ => pc54) (fun w' hw' => (st_move (v := .int .i64 (p3)) rfl)) rfl rfl rfl ?_
        refine wm_v rfl (fun _ => pc54) (fun w' hw' => (st_move (v := .int .i64 ((ff).getD (2 * m - 1 - j : Nat) 0)) rfl)) rfl rfl rfl ?_
        refine wm_v rfl (fun _ => pc54) (fun w' hw' => (st_sub rfl rfl (by have h1 := at_bd gg (p3 - 1) (by omega) p4_4 (2 * m - 1 - j - m + r); have h2 := at_bd ff (p3 - 1) (by omega) p3_4 (2 * m - 1 - j); have h3 := at_bd poly4 1 (by omega) hc4 r; have h4 := mul_bd (show 0 ≤ p3 - (ff.getD (2 * m - 1 - j) 0) by omega) (show p3 - (ff.getD (2 * m - 1 - j) 0) ≤ 3 by omega) h3.1 h3.2; omega) (by have h1 := at_bd gg (p3 - 1) (by omega) p4_4 (2 * m - 1 - j - m + r); have h2 := at_bd ff (p3 - 1) (by omega) p3_4 (2 * m - 1 - j); have h3 := at_bd poly4 1 (by omega) hc4 r; have h4 := mul_bd (show 0 ≤ p3 - (ff.getD (2 * m - 1 - j) 0) by omega) (show p3 - (ff.getD (2 * m - 1 - j) 0) ≤ 3 by omega) h3.1 h3.2; omega))) rfl rfl rfl ?_
        refine wm_v rfl (fun _ => pc54) (fun w' hw' => (st_move (v := sv1) rfl)) rfl rfl rfl ?_
        refine wm_v rfl (fun _ => pc54) (fun w' hw' => (st_move (v := .int .i64 ((r : Int))) rfl)) rfl rfl rfl ?_
        refine wm_e rfl (fun _ => pc54) (st_idxI hs2 ty31 ty3 rfl rfl (by omega) (by omega)) rfl rfl rfl ?_
        rintro _ ⟨a58, rfl, hc57⟩
        simp only [Int.toNat_natCast] at hc57
        refine wm_v rfl (fun _ => pc54) (fun w' hw' => (st_load ty3 rfl rfl (cell_pu hw' hc57))) rfl rfl rfl ?_
        refine wm_v rfl (fun _ => pc54) (fun w' hw' => (st_mul rfl rfl (by have h1 := at_bd gg (p3 - 1) (by omega) p4_4 (2 * m - 1 - j - m + r); have h2 := at_bd ff (p3 - 1) (by omega) p3_4 (2 * m - 1 - j); have h3 := at_bd poly4 1 (by omega) hc4 r; have h4 := mul_bd (show 0 ≤ p3 - (ff.getD (2 * m - 1 - j) 0) by omega) (show p3 - (ff.getD (2 * m - 1 - j) 0) ≤ 3 by omega) h3.1 h3.2; omega) (by have h1 := at_bd gg (p3 - 1) (by omega) p4_4 (2 * m - 1 - j - m + r); have h2 := at_bd ff (p3 - 1) (by omega) p3_4 (2 * m - 1 - j); have h3 := at_bd poly4 1 (by omega) hc4 r; have h4 := mul_bd (show 0 ≤ p3 - (ff.getD (2 * m - 1 - j) 0) by omega) (show p3 - (ff.getD (2 * m - 1 - j) 0) ≤ 3 by omega) h3.1 h3.2; omega))) rfl rfl rfl ?_
        refine wm_v rfl (fun _ => pc54) (fun w' hw' => (st_add rfl rfl (by have h1 := at_bd gg (p3 - 1) (by omega) p4_4 (2 * m - 1 - j - m + r); have h2 := at_bd ff (p3 - 1) (by omega) p3_4 (2 * m - 1 - j); have h3 := at_bd poly4 1 (by omega) hc4 r; have h4 := mul_bd (show 0 ≤ p3 - (ff.getD (2 * m - 1 - j) 0) by omega) (show p3 - (ff.getD (2 * m - 1 - j) 0) ≤ 3 by omega) h3.1 h3.2; omega) (by have h1 := at_bd gg (p3 - 1) (by omega) p4_4 (2 * m - 1 - j - m + r); have h2 := at_bd ff (p3 - 1) (by omega) p3_4 (2 * m - 1 - j); have h3 := at_bd poly4 1 (by omega) hc4 r; have h4 := mul_bd (show 0 ≤ p3 - (ff.getD (2 * m - 1 - j) 0) by omega) (show p3 - (ff.getD (2 * m - 1 - j) 0) ≤ 3 by omega) h3.1 h3.2; omega))) rfl rfl rfl ?_
        refine wm_v rfl (fun _ => pc54) (fun w' hw' => (st_move (v := .int .i64 (p3)) rfl)) rfl rfl rfl ?_
        refine wm_v rfl (fun _ => pc54) (fun w' hw' => (st_rem rfl rfl (by have h1 := at_bd gg (p3 - 1) (by omega) p4_4 (2 * m - 1 - j - m + r); have h2 := at_bd ff (p3 - 1) (by omega) p3_4 (2 * m - 1 - j); have h3 := at_bd poly4 1 (by omega) hc4 r; have h4 := mul_bd (show 0 ≤ p3 - (ff.getD (2 * m - 1 - j) 0) by omega) (show p3 - (ff.getD (2 * m - 1 - j) 0) ≤ 3 by omega) h3.1 h3.2; omega) (by have h1 := at_bd gg (p3 - 1) (by omega) p4_4 (2 * m - 1 - j - m + r); have h2 := at_bd ff (p3 - 1) (by omega) p3_4 (2 * m - 1 - j); have h3 := at_bd poly4 1 (by omega) hc4 r; have h4 := mul_bd (show 0 ≤ p3 - (ff.getD (2 * m - 1 - j) 0) by omega) (show p3 - (ff.getD (2 * m - 1 - j) 0) ≤ 3 by omega) h3.1 h3.2; omega))) rfl rfl rfl ?_
        have hbdg62 : ((2 * m - 1 - j - m + r : Nat) : Int) < (((gg).length : Nat) : Int) := (by omega)
        refine wm_e rfl (fun _ => pc54) (st_idxB hd17 ty31 ty3 rfl rfl (by omega) hbdg62) rfl rfl rfl ?_
        rintro _ ⟨g62, rfl, hv61, hc59⟩
        try simp only [Int.toNat_natCast, Int.toNat_zero, Int.reduceToNat] at hc59 ⊢
        refine wm_tail (by decide) (fun _ => pc54) (fun j hj => by have hb : Nat.ble 26 j = true := (by rw [Nat.ble_eq]; omega); simp [hb]) ?_
        refine wl_storeB (q := (((gg).getD (2 * m - 1 - j - m + r : Nat) 0) + ((p3 - ((ff).getD (2 * m - 1 - j : Nat) 0)) * ((poly4).getD r 0))) % p3) hd17 ty3 rfl hv61 (by omega) rfl (fun _ _ => rfl) ?_
        intro w63 hb64 hg65 hs66
        have hown := Bl.own hd17 hv61
        have pw := pu_row pw hg65 (by intro q hq hlt; simp at hq; omega)
        have hs2 := Rep.ch hs2 hg65 (by intro q hq hlt; (try simp only [Lo, Iv]); simp at hq; omega)
        have hd9 := Bl.ch hd9 hg65 (by intro q hq hlt; simp at hq; omega)
        have hd13 := Bl.ch hd13 hg65 (by intro q hq hlt; simp at hq; omega)
        have hd17 := hb64
        try simp only [Int.toNat_natCast, Int.toNat_zero, Int.reduceToNat] at hd17
        refine wt_nil ?_
        refine wq_block_normal ?_
        refine wq_then ?_
        refine wc_region ?_
        refine wl_v (st_move (v := .int .i64 ((r : Int))) rfl) rfl rfl rfl ?_
        refine wl_v (st_add rfl rfl (by omega) (by omega)) rfl rfl rfl ?_
        refine wl_v (st_assign (v := .int .i64 ((r : Int) + 1)) rfl) rfl rfl rfl ?_
        refine wl_nil ?_
        refine wq_round (hI := ⟨r + 1, (redIn p3 poly4 m (2 * m - 1 - j) (ff.getD (2 * m - 1 - j) 0) gg r), rfl, rfl, ?_, ?_, ?_, ?_, pw, hs2, hd9, hd13, hd17⟩) (hm := ?_) (hf := ?_) rfl rfl
        ·omega
        ·(rw [← fold_succ, ← p4_2])
        ·(rw [redIn, List.length_set]; omega)
        ·(exact set_bd p4_4 (mod_bd' p3 hp.1 _))
        ·omega
        ·exact ⟨(by first | rfl | exact congrArg (Value.int _) (by omega) | go_num), (by first | rfl | exact congrArg (Value.int _) (by omega) | go_num), (by first | rfl | exact congrArg (Value.int _) (by omega) | go_num), (by first | rfl | exact congrArg (Value.int _) (by omega) | go_num), (by first | rfl | exact congrArg (Value.int _) (by omega) | go_num), (by first | rfl | exact congrArg (Value.int _) (by omega) | go_num), (by first | rfl | exact congrArg (Value.int _) (by omega) | go_num), (by first | rfl | exact congrArg (Value.int _) (by omega) | go_num), trivial⟩
       ·intro h51
        have h51p : ¬ ((r : Int) ≤ (m : Int)) := by first | simpa using h51 | (simp at h51; omega)
        refine wc_exit ?_
        refine wq_then_exit ?_
        refine wq_then_exit ?_
        refine wq_block_exit ?_
        refine wq_block_normal ?_
        refine wq_then ?_
        refine wc_region ?_
        refine wl_v (st_move (v := .int .i64 (((2 * m - 1 - j : Nat) : Int))) rfl) rfl rfl rfl ?_
        refine wl_v (st_sub rfl rfl (by omega) (by omega)) rfl rfl rfl ?_
        refine wl_v (st_assign (v := .int .i64 (((2 * m - 1 - j : Nat) : Int) - 1)) rfl) rfl rfl rfl ?_
        refine wl_nil ?_
        refine wq_round (hI := ⟨j + 1, gg, rfl, rfl, ?_, ?_, ?_, ?_, pw, hs2, hd9, hd13, hd17⟩) (hm := ?_) (hf := ?_) rfl rfl
        ·omega
        ·(rw [← fold_succ, ← p3_2, show redRow p3 poly4 m ff j = (List.range (m + 1)).foldl (redIn p3 poly4 m (2 * m - 1 - j) (ff.getD (2 * m - 1 - j) 0)) ff from rfl]; rw [show r = m + 1 by omega] at p4_2; exact p4_2)
        ·omega
        ·(exact p4_4)
        ·omega
        ·exact ⟨(by first | rfl | exact congrArg (Value.int _) (by omega) | go_num), (by first | rfl | exact congrArg (Value.int _) (by omega) | go_num), (by first | rfl | exact congrArg (Value.int _) (by omega) | go_num), (by first | rfl | exact congrArg (Value.int _) (by omega) | go_num), (by first | rfl | exact congrArg (Value.int _) (by omega) | go_num), (by first | rfl | exact congrArg (Value.int _) (by omega) | go_num), trivial⟩
     ·intro h46
      have h46p : ¬ ((m : Int) ≤ ((2 * m - 1 - j : Nat) : Int)) := by first | simpa using h46 | (simp at h46; omega)
      refine wc_exit ?_
      refine wq_then_exit ?_
      refine wq_then_exit ?_
      refine wq_block_exit ?_
      refine wq_then ?_
      refine wc_seq ?_
      refine wc_region ?_
      refine wl_v (st_move (v := v18) rfl) rfl rfl rfl ?_
      refine wl_v (st_move (v := .int .i64 (p3)) rfl) rfl rfl rfl ?_
      refine wl_v (st_move (v := .int .i64 ((m : Int))) rfl) rfl rfl rfl ?_
      refine wl_call (vs := [v18, .int .i64 (p3), .int .i64 ((m : Int))]) C124 rfl rfl (rnumber_ok (v18) (ff) _ (p3) (m) _ (by omega) (by omega) (by omega) (fun x hx => by have := p3_4 x hx; omega) (Bl.sl hd17)) ?_
      rintro _ w67 ⟨rfl, hn68⟩
      have pw := pu_trans pw hn68
      have hs2 := Rep.pu hs2 hn68
      have hd9 := Bl.pu hd9 hn68
      have hd13 := Bl.pu hd13 hn68
      have hd17 := Bl.pu hd17 hn68
      have hzw67 := World.grownBy.size hn68
      refine wl_v (st_assign (v := .int .i64 (refNum (p3) ((ff).take (m)))) rfl) rfl rfl rfl ?_
      refine wl_nil ?_
      refine wq_then ?_
      refine wc_ret ?_
      refine wq_ret1 (v := .int .i64 (refNum (p3) ((ff).take (m)))) rfl rfl rfl ?_
      rw [refMul_ext hq hne, hm2]
      rw [show j = m by omega] at p3_2
      exact ⟨congrArg (Value.int .i64) (by rw [p3_2]; rfl), pw⟩
def ref09_Add (q a b : Int) : Option Int := if 0 < (refField q).1 ∧ 0 ≤ a ∧ a < q ∧ 0 ≤ b ∧ b < q then some (refAdd q a b) else none
def cs_ref09_Add : Cs (Int × Int × Int × Unit) := (csC cdI (csC cdI (csC cdI csN)))
def er_ref09_Add (r : Int) : AV := cdI.enc r
def t_ref09_Add : List AV → Option AV := told cs_ref09_Add (fun a => ref09_Add a.1 a.2.1 a.2.2.1) er_ref09_Add
theorem x_ref09_Add : XOk 103 t_ref09_Add := by
 refine ⟨⟨Tryd.call103⟩, fun xs x h w Z us _ _ hv => ?_⟩
 obtain ⟨a, ha, h⟩ := Option.bind_eq_some_iff.1 h
 obtain ⟨b, hb, rfl⟩ := Option.map_eq_some_iff.1 h
 rw [ints3 (cs_ref09_Add.vr ha hv)]
 simp only [ref09_Add] at hb
 split at hb
 ·next hc =>
  have hb := Option.some.inj hb
  subst hb
  exact Ret.mono (refAdd_ok a.1 a.2.1 a.2.2.1 w hc.1 ⟨hc.2.1, hc.2.2.1⟩ ⟨hc.2.2.2.1, hc.2.2.2.2⟩) fun v w' h => ⟨h.2, by rw [h.1]; exact .v rfl⟩
 ·cases hb
def ref09_Mul (q a b : Int) : Option Int := if 0 < (refField q).1 ∧ 0 ≤ a ∧ a < q ∧ 0 ≤ b ∧ b < q then some (refMul q a b) else none
def cs_ref09_Mul : Cs (Int × Int × Int × Unit) := (csC cdI (csC cdI (csC cdI csN)))
def er_ref09_Mul (r : Int) : AV := cdI.enc r
def t_ref09_Mul : List AV → Option AV := told cs_ref09_Mul (fun a => ref09_Mul a.1 a.2.1 a.2.2.1) er_ref09_Mul
theorem x_ref09_Mul : XOk 104 t_ref09_Mul := by
 refine ⟨⟨Tryd.call104⟩, fun xs x h w Z us _ _ hv => ?_⟩
 obtain ⟨a, ha, h⟩ := Option.bind_eq_some_iff.1 h
 obtain ⟨b, hb, rfl⟩ := Option.map_eq_some_iff.1 h
 rw [ints3 (cs_ref09_Mul.vr ha hv)]
 simp only [ref09_Mul] at hb
 split at hb
 ·next hc =>
  have hb := Option.some.inj hb
  subst hb
  exact Ret.mono (refMul_ok a.1 a.2.1 a.2.2.1 w hc.1 ⟨hc.2.1, hc.2.2.1⟩ ⟨hc.2.2.2.1, hc.2.2.2.2⟩) fun v w' h => ⟨h.2, by rw [h.1]; exact .v rfl⟩
 ·cases hb
/- trestle/trestleref09.Net -/
noncomputable def e_ref09_Net_o : Env := (((E0.withX 102 t_ref09_Field).withX 104 t_ref09_Mul).withX 103 t_ref09_Add)
theorem e_ref09_Net_o_ok : EnvOk e_ref09_Net_o := (EnvOk.withX (EnvOk.withX (EnvOk.withX E0_ok x_ref09_Field.1 x_ref09_Field.2) x_ref09_Mul.1 x_ref09_Mul.2) x_ref09_Add.1 x_ref09_Add.2)
noncomputable def cb_ref09_Net_o : Code := codeOf Tryd.f61
def ref09_Net_o_3 (x0 : Int) (x1 : Int) (c9 : Int) (c14 : Int) : Nat → Int → (List Int) → Option (((List Int)))
 | 0, _, _ => none
 | f + 1, c19, c21 =>
  if (decide (c19 < x0)) = true then
  (ref09_Mul x1 c9 c19).bind fun v23 =>
  (ref09_Add x1 v23 c14).bind fun v24 =>
  if (capOk 8 (c21.length + ([(wr .i64 ((wr .i64 (c19 * x1)) + v24))] : List Int).length)) = true then
  ref09_Net_o_3 x0 x1 c9 c14 f (wr .i64 (c19 + 1)) (c21 ++ ([(wr .i64 ((wr .i64 (c19 * x1)) + v24))] : List Int))
  else none
  else
  some c21
def ref09_Net_o_2 (x0 : Int) (x1 : Int) (c9 : Int) : Nat → Int → (List (List Int)) → Option (((List (List Int))))
 | 0, _, _ => none
 | f + 1, c14, c16 =>
  if (decide (c14 < x1)) = true then
  (ref09_Net_o_3 x0 x1 c9 c14 100000 0 ([] : (List Int))).bind fun r39 =>
  if (capOk 24 (c16.length + ([r39] : List (List Int)).length)) = true then
  ref09_Net_o_2 x0 x1 c9 f (wr .i64 (c14 + 1)) (c16 ++ ([r39] : List (List Int)))
  else none
  else
  some c16
def ref09_Net_o_1 (x0 : Int) (x1 : Int) : Nat → Int → (List (List (List Int))) → Option (((List (List (List Int)))))
 | 0, _, _ => none
 | f + 1, c9, c11 =>
  if (decide (c9 < x1)) = true then
  (ref09_Net_o_2 x0 x1 c9 100000 0 ([] : (List (List Int)))).bind fun r61 =>
  if (capOk 24 (c11.length + ([r61] : List (List (List Int))).length)) = true then
  ref09_Net_o_1 x0 x1 f (wr .i64 (c9 + 1)) (c11 ++ ([r61] : List (List (List Int))))
  else none
  else
  some c11
def ref09_Net_o (x0 : Int) (x1 : Int) : Option (Int × (List (List (List Int)))) :=
 (ref09_Field x1).bind fun v1 =>
 (if (v1.1 == 0) = true then some true else if (decide (x0 < 1)) = true then some true else if (decide (x0 > x1)) = true then some true else some (decide ((wr .i64 (x0 * x1)) > 64))).bind fun j2 =>
 if j2 = true then
 some (90, ([] : (List (List (List Int)))))
 else
 (ref09_Net_o_1 x0 x1 100000 0 ([] : (List (List (List Int))))).bind fun r81 =>
 some (0, r81)
set_option maxHeartbeats 4000000 in
set_option maxRecDepth 100000 in
theorem ref09_Net_o_3_ok {L : List Asn} (x0 : Int) (x1 : Int) (c9 : Int) (c14 : Int) (e10 : AV) (c11 : (List (List (List Int)))) (e15 : AV) (c16 : (List (List Int))) : ∀ (f : Nat) (c19 : Int) (c21 : (List Int)) (r : ((List Int))), ref09_Net_o_3 x0 x1 c9 c14 f c19 c21 = some r → ∀ (e20 : AV) (hp : Hp), T hp ((own_ (ocL 1 50 (ocV (cdL 1 (cdL 1 cdI)))) e10 c11) :: (own_ (ocL 1 31 (ocV (cdL 1 cdI))) e15 c16) :: (own_ (ocL 1 3 (ocV cdI)) e20 c21) :: L) → SemYN e_ref09_Net_o ⟨none, false⟩ (pc cb_ref09_Net_o [1, 1, 1, 0, 1, 0, 0, 1, 0, 0, 1, 0, 1, 0, 0, 1, 0, 0, 1, 0, 1, 0, 0]) f ⟨Fr 74 [(0, .v (.int .i64 x0)), (1, .v (.int .i64 x1)), (8, e10), (9, .v (.int .i64 c9)), (10, e15), (11, .v (.int .i64 c14)), (12, e20), (13, .v (.int .i64 c19))], hp⟩ (fun e s => e = (.exit 4) ∧ ∃ s2, (∃ (e36 : AV) (h' : Hp), T h' ((own_ (ocL 1 50 (ocV (cdL 1 (cdL 1 cdI)))) e10 c11) :: (own_ (ocL 1 31 (ocV (cdL 1 cdI))) e15 c16) :: (own_ (ocL 1 3 (ocV cdI)) e36 r) :: L) ∧ s2 = ⟨Fr 74 [(0, .v (.int .i64 x0)), (1, .v (.int .i64 x1)), (8, e10), (9, .v (.int .i64 c9)), (10, e15), (11, .v (.int .i64 c14)), (12, e36)], h'⟩) ∧ WkY e_ref09_Net_o s s2) := by
 have he := e_ref09_Net_o_ok
 intro f
 induction f with
 | zero => intro c19 c21 r h; cases h
 | succ f ih0 =>
  intro c19 c21 r h e20 hp hT
  unfold ref09_Net_o_3 at h
  refine SemYN.succ ?_
  refine SemY.seq ?_
  refine SemY.sq he [(0, .v (.int .i64 x0)), (1, .v (.int .i64 x1)), (8, e10), (9, .v (.int .i64 c9)), (10, e15), (11, .v (.int .i64 c14)), (12, e20), (13, .v (.int .i64 c19)), (48, .v (.bool (decide (c19 < x0))))] ?_
  refine SemY.cond (b := (decide (c19 < x0))) kr (fun hb22 => ?_) (fun hb22 => ?_)
  ·rw [if_pos hb22] at h
   refine SemY.skip ?_
   refine SemY.seq ?_
   refine SemY.block ?_
   refine SemY.regionL ?_
   refine RunL.sg he 8 ?_
   obtain ⟨v23, hv23, h⟩ := Option.bind_eq_some_iff.1 h
   refine RunL.call he (fid := 104) (b := v23) (s := cs_ref09_Mul) (F := fun a => ref09_Mul a.1 a.2.1 a.2.2.1) (er := er_ref09_Mul) (xs := [.v (.int .i64 x1), .v (.int .i64 c9), .v (.int .i64 c19)]) (a := (x1, c9, c19, ())) rfl (wantedA_none rfl) kr kr kr kr (Sns.cons (Sn.enc (c := cdI) (v := x1)) (Sns.cons (Sn.enc (c := cdI) (v := c9)) (Sns.cons (Sn.enc (c := cdI) (v := c19)) Sns.nil))) (.inl kr) hv23 ?_
   refine RunL.sg he 1 ?_
   obtain ⟨v24, hv24, h⟩ := Option.bind_eq_some_iff.1 h
   refine RunL.call he (fid := 103) (b := v24) (s := cs_ref09_Add) (F := fun a => ref09_Add a.1 a.2.1 a.2.2.1) (er := er_ref09_Add) (xs := [.v (.int .i64 x1), .v (.int .i64 v23), .v (.int .i64 c14)]) (a := (x1, v23, c14, ())) rfl (wantedA_none rfl) kr kr kr kr (Sns.cons (Sn.enc (c := cdI) (v := x1)) (Sns.cons (Sn.enc (c := cdI) (v := v23)) (Sns.cons (Sn.enc (c := cdI) (v := c14)) Sns.nil))) (.inl kr) hv24 ?_
   refine RunL.sg he 1 ?_
   obtain ⟨e28, hp25, hb26, hT27⟩ := lit_ownB (P := Tryd.prog) (bytes := 8) (k := 1) (t := 3) (ty := 31) (xs := ([(wr .i64 ((wr .i64 (c19 * x1)) + v24))] : List Int)) (n := 1) (fit_V (k := 1) (fun _ => ⟨rfl, rfl, rfl⟩)) (els_leaf (c := cdI) (xs := ([(wr .i64 ((wr .i64 (c19 * x1)) + v24))] : List Int)) hT) rfl kr kr kr
   refine RunL.one he 0 rfl (op_n (wantedA_none rfl) rfl kr (n_lit (xs := enumA 0 [.v (.int .i64 (wr .i64 ((wr .i64 (c19 * x1)) + v24)))]) kr hb26)) ?_
   by_cases hk33 : (capOk 8 (c21.length + ([(wr .i64 ((wr .i64 (c19 * x1)) + v24))] : List Int).length)) = true
   case neg => rw [if_neg hk33] at h; cases h
   rw [if_pos hk33] at h
   have hT34 := ((hT27.front 0 rfl).front 3 rfl)
   obtain ⟨e32, hp29, hb30, hT31⟩ := app_ownB (P := Tryd.prog) (ty := 31) (ty2 := 31) (bytes := 8) hT34 kr kr hk33
   refine RunL.one he 0 rfl (op_w (wantedA_none rfl) rfl kr kr (w_append (a := e20) (b := e28) kr kr hb30)) ?_
   refine RunL.fin he [(0, .v (.int .i64 x0)), (1, .v (.int .i64 x1)), (8, e10), (9, .v (.int .i64 c9)), (10, e15), (11, .v (.int .i64 c14)), (12, e32), (13, .v (.int .i64 c19))] ?_
   refine SemY.regionL ?_
   refine RunL.sg he 3 ?_
   refine RunL.done rfl ?_
   have hT35 := ((hT31.front 2 rfl).front 2 rfl)
   exact SemYN.wk (WkY.fr kr) (ih0 (wr .i64 (c19 + 1)) (c21 ++ ([(wr .i64 ((wr .i64 (c19 * x1)) + v24))] : List Int)) _ h e32 hp29 hT35)
  ·rw [if_f hb22] at h
   refine SemY.exit ?_
   have hq := Option.some.inj h; subst hq
   exact ⟨rfl, _, ⟨e20, hp, hT, rfl⟩, (WkY.fr kr)⟩
set_option maxHeartbeats 4000000 in
set_option maxRecDepth 100000 in
theorem ref09_Net_o_2_ok {L : List Asn} (x0 : Int) (x1 : Int) (c9 : Int) (e10 : AV) (c11 : (List (List (List Int)))) : ∀ (f : Nat) (c14 : Int) (c16 : (List (List Int))) (r : ((List (List Int)))), ref09_Net_o_2 x0 x1 c9 f c14 c16 = some r → ∀ (e15 : AV) (hp : Hp), T hp ((own_ (ocL 1 50 (ocV (cdL 1 (cdL 1 cdI)))) e10 c11) :: (own_ (ocL 1 31 (ocV (cdL 1 cdI))) e15 c16) :: L) → SemYN e_ref09_Net_o ⟨none, false⟩ (pc cb_ref09_Net_o [1, 1, 1, 0, 1, 0, 0, 1, 0, 0, 1, 0, 1, 0, 0]) f ⟨Fr 74 [(0, .v (.int .i64 x0)), (1, .v (.int .i64 x1)), (8, e10), (9, .v (.int .i64 c9)), (10, e15), (11, .v (.int .i64 c14))], hp⟩ (fun e s => e = (.exit 2) ∧ ∃ s2, (∃ (e58 : AV) (h' : Hp), T h' ((own_ (ocL 1 50 (ocV (cdL 1 (cdL 1 cdI)))) e10 c11) :: (own_ (ocL 1 31 (ocV (cdL 1 cdI))) e58 r) :: L) ∧ s2 = ⟨Fr 74 [(0, .v (.int .i64 x0)), (1, .v (.int .i64 x1)), (8, e10), (9, .v (.int .i64 c9)), (10, e58)], h'⟩) ∧ WkY e_ref09_Net_o s s2) := by
 have he := e_ref09_Net_o_ok
 intro f
 induction f with
 | zero => intro c14 c16 r h; cases h
 | succ f ih0 =>
  intro c14 c16 r h e15 hp hT
  unfold ref09_Net_o_2 at h
  refine SemYN.succ ?_
  refine SemY.seq ?_
  let p1 : Nat × AV := (11, .v (.int .i64 c14))
  let p2 : Nat × AV := (9, .v (.int .i64 c9))
  let p3 : Nat × AV := (1, .v (.int .i64 x1))
  let p4 : Nat × AV := (0, .v (.int .i64 x0))
  refine SemY.sq he [p4, p3, (8, e10), p2, (10, e15), p1, (43, .v (.bool (decide (c14 < x1))))] ?_
  refine SemY.cond (b := (decide (c14 < x1))) kr (fun hb17 => ?_) (fun hb17 => ?_)
  ·rw [if_pos hb17] at h
   refine SemY.skip ?_
   refine SemY.seq ?_
   refine SemY.block ?_
   refine SemY.sq he [p4, p3, (8, e10), p2, (10, e15), p1, (12, .e0)] ?_
   refine SemY.seq ?_
   refine SemY.sq he [p4, p3, (8, e10), p2, (10, e15), p1, (12, .e0), (13, .v (.int .i64 0))] ?_
   refine SemY.block ?_
   have hT18 := (T.e0 (k := 1) (ty := 3) (o := (ocV cdI)) hT)
   have hT38 := ((hT18.front 2 rfl).front 2 rfl)
   refine SemY.loop (n := 100000) ?_
   obtain ⟨r39, hr39, h⟩ := Option.bind_eq_some_iff.1 h
   refine SemYN.cutT (SemYN.wk (WkY.fr kr) (ref09_Net_o_3_ok x0 x1 c9 c14 e10 c11 e15 c16 _ 0 ([] : (List Int)) _ hr39 .e0 hp hT38)) ?_
   rintro _ ⟨e40, hp41, hT42, rfl⟩
   refine SemY.regionL ?_
   refine RunL.sg he 2 ?_
   have hT43 := (hT42.front 2 rfl)
   obtain ⟨hp44, hw45, hT46⟩ := WkY.frzT (E := e_ref09_Net_o) (n := 74) (l := [p4, p3, (8, e10), p2, p1, (65, e15), (66, e40)]) (l' := [p4, p3, (8, e10), p2, p1, (65, e15), (66, .sl 1 (r39.map cdI.enc))]) hT43 (LkT.at_ ⟨.inl kr, .inl kr, .inl kr, .inl kr, .inl kr, .inl kr, .inr ⟨kr, rfl⟩, trivial⟩)
   refine RunL.wk (WkY.trans (WkY.fr kr) hw45) ?_
   obtain ⟨e50, hp47, hb48, hT49⟩ := lit_ownB (P := Tryd.prog) (bytes := 24) (k := 1) (t := 31) (ty := 50) (xs := ([r39] : List (List Int))) (n := 1) (fit_V (k := 1) (fun _ => ⟨rfl, rfl, rfl⟩)) (els_leaf (c := (cdL 1 cdI)) (xs := ([r39] : List (List Int))) hT46) rfl kr kr kr
   refine RunL.one he 0 rfl (op_n (wantedA_none rfl) rfl kr (n_lit (xs := enumA 0 [.sl 1 (r39.map cdI.enc)]) kr hb48)) ?_
   by_cases hk55 : (capOk 24 (c16.length + ([r39] : List (List Int)).length)) = true
   case neg => rw [if_neg hk55] at h; cases h
   rw [if_pos hk55] at h
   have hT56 := ((hT49.front 0 rfl).front 2 rfl)
   obtain ⟨e54, hp51, hb52, hT53⟩ := app_ownB (P := Tryd.prog) (ty := 50) (ty2 := 50) (bytes := 24) hT56 kr kr hk55
   refine RunL.one he 0 rfl (op_w (wantedA_none rfl) rfl kr kr (w_append (a := e15) (b := e50) kr kr hb52)) ?_
   refine RunL.fin he [p4, p3, (8, e10), p2, (10, e54), p1] ?_
   refine SemY.regionL ?_
   refine RunL.sg he 3 ?_
   refine RunL.done rfl ?_
   have hT57 := (hT53.front 1 rfl)
   exact SemYN.wk (WkY.fr kr) (ih0 (wr .i64 (c14 + 1)) (c16 ++ ([r39] : List (List Int))) _ h e54 hp51 hT57)
  ·rw [if_f hb17] at h
   refine SemY.exit ?_
   have hq := Option.some.inj h; subst hq
   exact ⟨rfl, _, ⟨e15, hp, hT, rfl⟩, (WkY.fr kr)⟩
set_option maxHeartbeats 4000000 in
set_option maxRecDepth 100000 in
theorem ref09_Net_o_1_ok {L : List Asn} (x0 : Int) (x1 : Int) : ∀ (f : Nat) (c9 : Int) (c11 : (List (List (List Int)))) (r : ((List (List (List Int))))), ref09_Net_o_1 x0 x1 f c9 c11 = some r → ∀ (e10 : AV) (hp : Hp), T hp ((own_ (ocL 1 50 (ocV (cdL 1 (cdL 1 cdI)))) e10 c11) :: L) → SemYN e_ref09_Net_o ⟨none, false⟩ (pc cb_ref09_Net_o [1, 1, 1, 0, 1, 0, 0]) f ⟨Fr 74 [(0, .v (.int .i64 x0)), (1, .v (.int .i64 x1)), (8, e10), (9, .v (.int .i64 c9))], hp⟩ (fun e s => e = (.exit 0) ∧ ∃ s2, (∃ (e79 : AV) (h' : Hp), T h' ((own_ (ocL 1 50 (ocV (cdL 1 (cdL 1 cdI)))) e79 r) :: L) ∧ s2 = ⟨Fr 74 [(8, e79)], h'⟩) ∧ WkY e_ref09_Net_o s s2) := by
 have he := e_ref09_Net_o_ok
 intro f
 induction f with
 | zero => intro c9 c11 r h; cases h
 | succ f ih0 =>
  intro c9 c11 r h e10 hp hT
  unfold ref09_Net_o_1 at h
  refine SemYN.succ ?_
  refine SemY.seq ?_
  let p1 : Nat × AV := (9, .v (.int .i64 c9))
  let p2 : Nat × AV := (1, .v (.int .i64 x1))
  let p3 : Nat × AV := (0, .v (.int .i64 x0))
  refine SemY.sq he [p3, p2, (8, e10), p1, (38, .v (.bool (decide (c9 < x1))))] ?_
  refine SemY.cond (b := (decide (c9 < x1))) kr (fun hb12 => ?_) (fun hb12 => ?_)
  ·rw [if_pos hb12] at h
   refine SemY.skip ?_
   refine SemY.seq ?_
   refine SemY.block ?_
   refine SemY.sq he [p3, p2, (8, e10), p1, (10, .e0)] ?_
   refine SemY.seq ?_
   refine SemY.sq he [p3, p2, (8, e10), p1, (10, .e0), (11, .v (.int .i64 0))] ?_
   refine SemY.block ?_
   have hT13 := (T.e0 (k := 1) (ty := 31) (o := (ocV (cdL 1 cdI))) hT)
   have hT60 := (hT13.front 1 rfl)
   refine SemY.loop (n := 100000) ?_
   obtain ⟨r61, hr61, h⟩ := Option.bind_eq_some_iff.1 h
   refine SemYN.cutT (SemYN.wk (WkY.fr kr) (ref09_Net_o_2_ok x0 x1 c9 e10 c11 _ 0 ([] : (List (List Int))) _ hr61 .e0 hp hT60)) ?_
   rintro _ ⟨e62, hp63, hT64, rfl⟩
   refine SemY.regionL ?_
   refine RunL.sg he 2 ?_
   have hT65 := (hT64.front 1 rfl)
   obtain ⟨hp66, hw67, hT68⟩ := WkY.frzT (E := e_ref09_Net_o) (n := 74) (l := [p3, p2, p1, (69, e10), (70, e62)]) (l' := [p3, p2, p1, (69, e10), (70, .sl 1 (r61.map (cdL 1 cdI).enc))]) hT65 (LkT.at_ ⟨.inl kr, .inl kr, .inl kr, .inl kr, .inr ⟨kr, rfl⟩, trivial⟩)
   refine RunL.wk (WkY.trans (WkY.fr kr) hw67) ?_
   obtain ⟨e72, hp69, hb70, hT71⟩ := lit_ownB (P := Tryd.prog) (bytes := 24) (k := 1) (t := 50) (ty := 22) (xs := ([r61] : List (List (List Int)))) (n := 1) (fit_V (k := 1) (fun _ => ⟨rfl, rfl, rfl⟩)) (els_leaf (c := (cdL 1 (cdL 1 cdI))) (xs := ([r61] : List (List (List Int)))) hT68) rfl kr kr kr
   refine RunL.one he 0 rfl (op_n (wantedA_none rfl) rfl kr (n_lit (xs := enumA 0 [.sl 1 (r61.map (cdL 1 cdI).enc)]) kr hb70)) ?_
   by_cases hk77 : (capOk 24 (c11.length + ([r61] : List (List (List Int))).length)) = true
   case neg => rw [if_neg hk77] at h; cases h
   rw [if_pos hk77] at h
   have hT78 := ((hT71.front 0 rfl).front 1 rfl)
   obtain ⟨e76, hp73, hb74, hT75⟩ := app_ownB (P := Tryd.prog) (ty := 22) (ty2 := 22) (bytes := 24) hT78 kr kr hk77
   refine RunL.one he 0 rfl (op_w (wantedA_none rfl) rfl kr kr (w_append (a := e10) (b := e72) kr kr hb74)) ?_
   refine RunL.fin he [p3, p2, (8, e76), p1] ?_
   refine SemY.regionL ?_
   refine RunL.sg he 3 ?_
   refine RunL.done rfl ?_
   exact SemYN.wk (WkY.fr kr) (ih0 (wr .i64 (c9 + 1)) (c11 ++ ([r61] : List (List (List Int)))) _ h e76 hp73 hT75)
  ·rw [if_f hb12] at h
   refine SemY.exit ?_
   have hq := Option.some.inj h; subst hq
   exact ⟨rfl, _, ⟨e10, hp, hT, rfl⟩, (WkY.fr kr)⟩
set_option maxHeartbeats 4000000 in
set_option maxRecDepth 100000 in
theorem ref09_Net_o_sem {L : List Asn} {hp : Hp} (x0 : Int) (x1 : Int) (r : Int × (List (List (List Int)))) (h : ref09_Net_o x0 x1 = some r) (hT : T hp (L)) : SemY e_ref09_Net_o ⟨none, false⟩ cb_ref09_Net_o ⟨Fr 74 (pairs0 0 [.v (.int .i64 x0), .v (.int .i64 x1)]), hp⟩ fun x s' => (x = .normal ∨ x = .ret) ∧ ∃ ys, resA e_ref09_Net_o.P s'.fr s'.hp Tryd.f61.results.toList = some ys ∧ (fun v h' => ∃ (z0 : AV), v = .tp [z0, .v (.int .i64 r.1)] ∧ T h' ((own_ (ocL 1 50 (ocV (cdL 1 (cdL 1 cdI)))) z0 r.2) :: L)) (retA ys) s'.hp := by
 have he := e_ref09_Net_o_ok
 unfold ref09_Net_o at h
 let p1 : Nat × AV := (1, .v (.int .i64 x1))
 let p2 : Nat × AV := (0, .v (.int .i64 x0))
 refine SemY.wkQ (SemY.wk (s1 := ⟨Fr 74 [p2, p1], hp⟩) (WkY.fr kr) ?_)
 refine SemY.sq he [p2, p1] ?_
 refine SemY.seq ?_
 refine SemY.seq ?_
 refine SemY.regionL ?_
 refine RunL.sg he 1 ?_
 obtain ⟨v1, hv1, h⟩ := Option.bind_eq_some_iff.1 h
 refine RunL.call he (fid := 102) (b := v1) (s := cs_ref09_Field) (F := fun a => ref09_Field a.1) (er := er_ref09_Field) (xs := [.v (.int .i64 x1)]) (a := (x1, ())) rfl (wantedA_none rfl) kr kr kr kr (Sns.cons (Sn.enc (c := cdI) (v := x1)) Sns.nil) (.inl kr) hv1 ?_
 refine RunL.fin he [p2, p1, (6, .v (.int .i64 v1.1))] ?_
 refine SemY.seq ?_
 obtain ⟨j2, hj2, h⟩ := Option.bind_eq_some_iff.1 h
 refine SemY.regT (A := fun s1 => ∃ (h' : Hp), T h' (L) ∧ s1 = ⟨Fr 74 [p2, p1, (35, .v (.bool j2))], h'⟩) ?_ ?_
 ·refine RunL.segF (n := 74) he 3 [p2, p1, (21, .v (.bool (v1.1 == 0)))] hp kr ?_
  rcases Bool.eq_false_or_eq_true (v1.1 == 0) with hc85 | hc85
  ·rw [if_pos hc85] at hj2
   rw [hc85]
   refine RunL.sg he 14 ?_
   have hq := Option.some.inj hj2; subst hq
   exact RunL.done rfl ⟨_, ⟨hp, hT, rfl⟩, (WkY.fr kr)⟩
  ·rw [if_f hc85] at hj2
   rw [hc85]
   refine RunL.segF (n := 74) he 4 [p2, p1, (25, .v (.bool (decide (x0 < 1))))] hp kr ?_
   rcases Bool.eq_false_or_eq_true (decide (x0 < 1)) with hc86 | hc86
   ·rw [if_pos hc86] at hj2
    rw [hc86]
    refine RunL.sg he 10 ?_
    have hq := Option.some.inj hj2; subst hq
    exact RunL.done rfl ⟨_, ⟨hp, hT, rfl⟩, (WkY.fr kr)⟩
   ·rw [if_f hc86] at hj2
    rw [hc86]
    refine RunL.segF (n := 74) he 5 [p2, p1, (30, .v (.bool (decide (x0 > x1))))] hp kr ?_
    rcases Bool.eq_false_or_eq_true (decide (x0 > x1)) with hc87 | hc87
    ·rw [if_pos hc87] at hj2
     rw [hc87]
     refine RunL.sg he 5 ?_
     have hq := Option.some.inj hj2; subst hq
     exact RunL.done rfl ⟨_, ⟨hp, hT, rfl⟩, (WkY.fr kr)⟩
    ·rw [if_f hc87] at hj2
     rw [hc87]
     refine RunL.sg he 5 ?_
     have hq := Option.some.inj hj2; subst hq
     exact RunL.done rfl ⟨_, ⟨hp, hT, rfl⟩, (WkY.fr kr)⟩
 rintro _ ⟨hp4, hT5, rfl⟩
 refine SemY.cond (b := j2) kr (fun hb6 => ?_) (fun hb6 => ?_)
 ·rw [if_pos hb6] at h
  refine SemY.sq he [(4, .e0), (5, .v (.int .i64 90))] ?_
  refine SemY.ret ?_
  have hq := Option.some.inj h; subst hq
  have hT7 := (T.e0 (k := 1) (ty := 50) (o := (ocV (cdL 1 (cdL 1 cdI)))) hT5)
  exact ⟨⟨Fr 74 [(4, .e0), (5, .v (.int .i64 90))], hp4⟩, (WkY.fr kr), .inr rfl, [.e0, .v (.int .i64 90)], kr, ⟨.e0, rfl, hT7⟩⟩
 ·rw [if_f hb6] at h
  refine SemY.skip ?_
  refine SemY.sq he [p2, p1, (8, .e0)] ?_
  refine SemY.seq ?_
  refine SemY.sq he [p2, p1, (8, .e0), (9, .v (.int .i64 0))] ?_
  refine SemY.block ?_
  have hT8 := (T.e0 (k := 1) (ty := 50) (o := (ocV (cdL 1 (cdL 1 cdI)))) hT5)
  refine SemY.loop (n := 100000) ?_
  obtain ⟨r81, hr81, h⟩ := Option.bind_eq_some_iff.1 h
  refine SemYN.cutT (SemYN.wk (WkY.fr kr) (ref09_Net_o_1_ok x0 x1 _ 0 ([] : (List (List (List Int)))) _ hr81 .e0 hp4 hT8)) ?_
  rintro _ ⟨e82, hp83, hT84, rfl⟩
  refine SemY.sq he [(4, e82), (5, .v (.int .i64 0))] ?_
  refine SemY.ret ?_
  have hq := Option.some.inj h; subst hq
  exact ⟨⟨Fr 74 [(4, e82), (5, .v (.int .i64 0))], hp83⟩, (WkY.fr kr), .inr rfl, [e82, .v (.int .i64 0)], kr, ⟨e82, rfl, hT84⟩⟩
section
variable {E : Env} {fr fr' : List (Option AV)} {hp : Hp} {α : Type} {o : Oc α} {e : AV} {x : α} {L : List Asn}
theorem WkY.frzA (ht : T hp (own_ o e x :: L)) (hlen : fr'.length = fr.length) (hl : ∀ (t : Nat) (y : AV), fr'[t]? = some (some y) → fr[t]? = some (some y) ∨ (fr[t]? = some (some e) ∧ y = o.cd.enc x)) : ∃ hp', WkY E ⟨fr, hp⟩ ⟨fr', hp'⟩ ∧ T hp' L := by
 obtain ⟨F, p, hn', _, hk⟩ := ht.act
 refine ⟨killF F hp, fun base w Z R a sr => ?_, hk _ fun b hb _ => killF_same hb⟩
 have hown : ∀ c, (∃ b ∈ F, ∃ r, R[b]? = some r ∧ c = r.c) → own R hp c := fun c ⟨b, hb, r, hr, hc⟩ => by
  obtain ⟨B, k1, k2⟩ := o.own p hb
  exact ⟨b, B, r, k1, k2, hr, hc.symm⟩
 have hown' : ∀ c, own R (killF F hp) c → own R hp c := fun c ⟨b, B, r, h1, h2, h3, h4⟩ => ⟨b, B, r, (killF_get.1 h1).2, h2, h3, h4⟩
 have hzo : ∀ c, (Z c ∨ ∃ b ∈ F, ∃ r, R[b]? = some r ∧ c = r.c) → Z c ∨ own R hp c := fun c hc => hc.imp_right (hown c)
 have up' : ∀ {x : AV} {u : Value} {R' : List RI}, VR w Z R' x u → VR w (fun c => Z c ∨ ∃ b ∈ F, ∃ r, R[b]? = some r ∧ c = r.c) R' x u := fun hv => hv.mono (fun _ _ => rfl) (fun _ h => .inl h) (fun _ _ h => h)
 refine ⟨fun c => Z c ∨ ∃ b ∈ F, ∃ r, R[b]? = some r ∧ c = r.c, R, ⟨⟨by simp [killF, sr.hh.len], fun b B hB => ?_, fun b b' B B' r r' h1 f1 h2 f2 g1 g2 e => ?_, fun c hc => ?_⟩, ⟨?_, fun t x hx => ?_⟩, ?_, fun g x hx => up' (sr.gl g x hx), sr.bs⟩, ⟨rfl, rfl, rfl, Nat.le_refl _, fun _ _ _ => rfl, fun c hc => .inl (hown' c hc), fun _ h => .inl h, fun c hc => (hzo c hc).imp_right .inl, fun _ _ h => h⟩⟩
 ·obtain ⟨hb, hB⟩ := killF_get.1 hB
  obtain ⟨r, arr, us, g1, g2, g3, g4, g5, g6, g7, g8, g9, g10⟩ := sr.hh.blk b B hB
  refine ⟨r, arr, us, g1, g2, g3, g4, g5, g6, fun hf => .inl (g7 hf), fun hf hc => ?_, ⟨g9.len, fun i x u hx hu => up' (g9.at_ i x u hx hu)⟩, g10⟩
  rcases hc with hc | ⟨b', hb', r', hr', hc⟩
  ·exact g8 hf hc
  ·obtain ⟨B', k1, k2⟩ := o.own p hb'
   have := sr.hh.inj b b' B B' r r' hB hf k1 k2 g1 hr' hc
   exact hb (this ▸ hb')
 ·exact sr.hh.inj b b' B B' r r' (killF_get.1 h1).2 f1 (killF_get.1 h2).2 f2 g1 g2 e
 ·rcases hzo c hc with hc | ⟨b, B, r, k1, _, k3, k4⟩
  ·exact sr.hh.zlt c hc
  ·exact k4 ▸ sr.hh.rltL k1 k3
 ·have := sr.fr.1
  rw [hlen]; exact this
 ·rcases hl t x hx with h1 | ⟨h1, rfl⟩
  ·exact up' (sr.fr.2 t x h1)
  ·exact (o.vr sr.hh p (sr.fr.2 t e h1)).up
 ·have : ∀ {D : List Deferred}, Mks base w Z R hp D → Mks base w (fun c => Z c ∨ ∃ b ∈ F, ∃ r, R[b]? = some r ∧ c = r.c) R (killF F hp) D := by
   intro D
   induction D with
   | nil => intro _; trivial
   | cons d D ih => exact fun ⟨⟨q, h1, h2, h3, h4, h5, h6⟩, hD⟩ => ⟨⟨q, h1, h2, h3, fun hc => (hzo q hc).elim h4 h5, fun ho => h5 (hown' q ho), h6⟩, ih hD⟩
  exact this sr.mks
end
theorem retA_two (y0 y1 : AV) : retA [y0, y1] = .tp [y0, y1] := rfl
/-- A function that hands back what is own, and another thing. -/
theorem sem_frz2 {E : Env} {cx : Cx} {c : Code} {s : St} {α : Type} {o : Oc α} {r0 r1 : Nat} {x : α} {i : AV} (hne : r0 ≠ r1) (h : SemY E cx c s fun e s' => (e = .normal ∨ e = .ret) ∧ ∃ ys, resA E.P s'.fr s'.hp [.tmp r0, .tmp r1] = some ys ∧ ∃ z, retA ys = .tp [z, i] ∧ T s'.hp [own_ o z x]) :
  Sem E cx c s fun e s' => (e = .normal ∨ e = .ret) ∧ ∃ ys, resA E.P s'.fr s'.hp [.tmp r0, .tmp r1] = some ys ∧ retA ys = .tp [o.cd.enc x, i] := by
 refine Sem.ofY (SemY.wkQ (SemY.mono h fun e s' hs => ?_))
 obtain ⟨h1, ys, h2, z, h3, h4⟩ := hs
 simp only [resA] at h2
 split at h2
 ·next y0 r q0 q1 =>
  split at q1
  ·next y1 r' q2 q3 =>
   have q1 := Option.some.inj q1
   have q3 := Option.some.inj q3
   have h2 := Option.some.inj h2
   subst q3 q1 h2
   rw [retA_two] at h3
   injection h3 with h3
   injection h3 with e0 h3
   injection h3 with e1 _
   subst e0 e1
   have hlt : r0 < s'.fr.length := by
    rcases Nat.lt_or_ge r0 s'.fr.length with g | g
    ·exact g
    ·rw [List.getElem?_eq_none g] at q0; cases q0
   obtain ⟨hp', hw, -⟩ := WkY.frzA (E := E) (fr := s'.fr) (fr' := s'.fr.set r0 (some (o.cd.enc x))) h4 (by simp) (fun t y hy => by
    by_cases g : r0 = t
    ·subst g
     rw [List.getElem?_set_self hlt] at hy
     have hy := Option.some.inj (Option.some.inj hy)
     exact .inr ⟨q0, hy.symm⟩
    ·rw [List.getElem?_set_ne g] at hy
     exact .inl hy)
   refine ⟨⟨s'.fr.set r0 (some (o.cd.enc x)), hp'⟩, hw, h1, [o.cd.enc x, y1], ?_, rfl⟩
   simp only [resA]
   rw [List.getElem?_set_self hlt, List.getElem?_set_ne hne, q2]
  ·cases q1
 ·cases h2
/-- A pair the other way round. -/
def sw {α β : Type} (o : Option (α × β)) : Option (β × α) := o.map fun r => (r.2, r.1)
theorem sw_if {α : Type} (j : Option Bool) (c : Int) (o : Option (List α)) : (j.bind fun b => if b = true then some (([] : List α), c) else o.bind fun r => some (r, 0)) = sw (j.bind fun b => if b = true then some (c, ([] : List α)) else o.bind fun r => some (0, r)) := by
 cases j with
 | none => rfl
 | some b =>
  cases b
  ·simp only [Option.bind_some, Bool.false_eq_true, if_false]
   cases o <;> rfl
  ·rfl
theorem sw_some {α β : Type} {o : Option (α × β)} {a : α} {b : β} (h : sw o = some (b, a)) : o = some (a, b) := by
 cases o with
 | none => cases h
 | some r =>
  have h := Option.some.inj h
  injection h with h1 h2
  rw [← h1, ← h2]
def ref09_Net_3 (x0 : Int) (x1 : Int) (c5 : (List (List (List Int)))) (c6 : Int) (c8 : (List (List Int))) (c9 : Int) : Nat → (List Int) → Int → Option (((List Int)))
 | 0, _, _ => none
 | f + 1, c11, c12 =>
  if (decide (c12 < x0)) = true then
  (ref09_Mul x1 c6 c12).bind fun v14 =>
  (ref09_Add x1 v14 c9).bind fun v15 =>
  if (capOk 8 (c11.length + 1)) = true then
  ref09_Net_3 x0 x1 c5 c6 c8 c9 f (c11 ++ [(wr .i64 ((wr .i64 (c12 * x1)) + v15))]) (wr .i64 (c12 + 1))
  else none
  else
  some c11
def ref09_Net_2 (x0 : Int) (x1 : Int) (c5 : (List (List (List Int)))) (c6 : Int) : Nat → (List (List Int)) → Int → Option (((List (List Int))))
 | 0, _, _ => none
 | f + 1, c8, c9 =>
  if (decide (c9 < x1)) = true then
  (ref09_Net_3 x0 x1 c5 c6 c8 c9 100000 [] 0).bind fun r18 =>
  if (capOk 24 (c8.length + 1)) = true then
  ref09_Net_2 x0 x1 c5 c6 f (c8 ++ [r18]) (wr .i64 (c9 + 1))
  else none
  else
  some c8
def ref09_Net_1 (x0 : Int) (x1 : Int) : Nat → (List (List (List Int))) → Int → Option (((List (List (List Int)))))
 | 0, _, _ => none
 | f + 1, c5, c6 =>
  if (decide (c6 < x1)) = true then
  (ref09_Net_2 x0 x1 c5 c6 100000 [] 0).bind fun r21 =>
  if (capOk 24 (c5.length + 1)) = true then
  ref09_Net_1 x0 x1 f (c5 ++ [r21]) (wr .i64 (c6 + 1))
  else none
  else
  some c5
def ref09_Net (x0 : Int) (x1 : Int) : Option ((List (List (List Int))) × Int) :=
 (ref09_Field x1).bind fun v1 =>
 (if (v1.1 == 0) = true then some true else if (decide (x0 < 1)) = true then some true else if (decide (x0 > x1)) = true then some true else some (decide ((wr .i64 (x0 * x1)) > 64))).bind fun j3 =>
 if j3 = true then
 some ([], 90)
 else
 (ref09_Net_1 x0 x1 100000 [] 0).bind fun r24 =>
 some (r24, 0)
def cs_ref09_Net : Cs (Int × Int × Unit) := (csC cdI (csC cdI csN))
def er_ref09_Net (r : (List (List (List Int))) × Int) : AV := .tp [(cdL 1 (cdL 1 (cdL 1 cdI))).enc r.1, cdI.enc r.2]
theorem on_3 (k q : Int) (a : List (List (List Int))) (c : Int) (l2 : List (List Int)) (c2 : Int) : ∀ (f : Nat) (i : Int) (l : List Int), ref09_Net_3 k q a c l2 c2 f l i = ref09_Net_o_3 k q c c2 f i l
 | 0, _, _ => rfl
 | f + 1, i, l => by
  unfold ref09_Net_3 ref09_Net_o_3
  simp only [List.length_singleton, on_3 k q a c l2 c2 f]
theorem on_2 (k q : Int) (a : List (List (List Int))) (c : Int) : ∀ (f : Nat) (i : Int) (l : List (List Int)), ref09_Net_2 k q a c f l i = ref09_Net_o_2 k q c f i l
 | 0, _, _ => rfl
 | f + 1, i, l => by
  unfold ref09_Net_2 ref09_Net_o_2
  simp only [List.length_singleton, on_2 k q a c f, on_3]
theorem on_1 (k q : Int) : ∀ (f : Nat) (i : Int) (l : List (List (List Int))), ref09_Net_1 k q f l i = ref09_Net_o_1 k q f i l
 | 0, _, _ => rfl
 | f + 1, i, l => by
  unfold ref09_Net_1 ref09_Net_o_1
  simp only [List.length_singleton, on_1 k q f, on_2]
theorem onet (k q : Int) : ref09_Net k q = sw (ref09_Net_o k q) := by
 unfold ref09_Net ref09_Net_o
 simp only [on_1]
 cases ref09_Field q with
 | none => rfl
 | some v => exact sw_if _ _ _
def t_ref09_Net : List AV → Option AV := told cs_ref09_Net (fun a => ref09_Net a.1 a.2.1) er_ref09_Net
theorem x_ref09_Net : XOk 61 t_ref09_Net := by
 refine EnvOk.x (E := e_ref09_Net_o) (contract_ok e_ref09_Net_o_ok (fn := Tryd.f61) (c := cb_ref09_Net_o) ?h1 ?h2 ⟨Tryd.call61⟩ cs_ref09_Net (fun a => ref09_Net a.1 a.2.1) er_ref09_Net (fun a => (by show 2 ≤ 74; decide)) ?h3 ?h4) rfl rfl
 case h1 => kernel_rfl
 case h2 => kernel_rfl
 case h3 => intro b; kernel_rfl
 case h4 =>
  intro a b h
  have hd : ref09_Net_o a.1 a.2.1 = some (b.2, b.1) := sw_some (by rw [← onet]; exact h)
  exact sem_frz2 (r0 := 4) (r1 := 5) (by decide) (SemY.mono (ref09_Net_o_sem (L := []) (hp := []) a.1 a.2.1 _ hd T.nil) fun e s' hs => hs)
/- trestle/trestleref09.Plane -/
noncomputable def e_ref09_Plane : Env := E0
theorem e_ref09_Plane_ok : EnvOk e_ref09_Plane := E0_ok
noncomputable def cb_ref09_Plane : Code := codeOf Tryd.f62
def ref09_Plane_j2 (x0 : Int) (c17 : Int) (c19 : (List (List Int))) (c21 : (List Int)) : Option (((List (List Int)) × (List Int))) :=
 if (((c21 ++ ([c17] : List Int)).length : Int) == x0) = true then
 if (capOk 24 (c19.length + ([(c21 ++ ([c17] : List Int))] : List (List Int)).length)) = true then
 some ((c19 ++ ([(c21 ++ ([c17] : List Int))] : List (List Int))), ([] : (List Int)))
 else none
 else
 some (c19, (c21 ++ ([c17] : List Int)))
def ref09_Plane_1 (x0 : Int) : Nat → Int → (List (List Int)) → (List Int) → Option (((List (List Int))))
 | 0, _, _, _ => none
 | f + 1, c17, c19, c21 =>
  if (decide (c17 < (wr .i64 (x0 * x0)))) = true then
  if (capOk 8 (c21.length + ([c17] : List Int).length)) = true then
  (ref09_Plane_j2 x0 c17 c19 c21).bind fun r55 =>
  ref09_Plane_1 x0 f (wr .i64 (c17 + 1)) r55.1 r55.2
  else none
  else
  some c19
def ref09_Plane (x0 : Int) : Option ((List (List (List Int))) × Int) :=
 if (decide (x0 > 8)) = true then
 some (([] : (List (List (List Int)))), 90)
 else
 (ref09_Net_o x0 x0).bind fun v6 =>
 if (v6.1 != 0) = true then
 some (([] : (List (List (List Int)))), v6.1)
 else
 (ref09_Plane_1 x0 100000 0 ([] : (List (List Int))) ([] : (List Int))).bind fun r64 =>
 if (capOk 24 (v6.2.length + ([r64] : List (List (List Int))).length)) = true then
 some ((v6.2 ++ ([r64] : List (List (List Int)))), 0)
 else none
set_option maxHeartbeats 4000000 in
set_option maxRecDepth 100000 in
theorem ref09_Plane_j2_ok {L : List Asn} {hp : Hp} (x0 : Int) (c17 : Int) (c19 : (List (List Int))) (c21 : (List Int)) (v6 : Int × (List (List (List Int)))) (e7 : AV) (e18 : AV) (e30 : AV) (r : ((List (List Int)) × (List Int))) (h : ref09_Plane_j2 x0 c17 c19 c21 = some r) (hT : T hp ((own_ (ocL 1 3 (ocV cdI)) e30 (c21 ++ ([c17] : List Int))) :: (own_ (ocL 1 50 (ocV (cdL 1 (cdL 1 cdI)))) e7 v6.2) :: (own_ (ocL 1 31 (ocV (cdL 1 cdI))) e18 c19) :: L)) : SemY e_ref09_Plane ⟨none, false⟩ (pc cb_ref09_Plane [1, 1, 1, 1, 1, 1, 0, 1, 0, 0, 1, 0, 0, 1, 1]) ⟨Fr 43 [(0, .v (.int .i64 x0)), (4, e7), (6, e18), (7, e30), (8, .v (.int .i64 c17)), (34, .v (.bool (((c21 ++ ([c17] : List Int)).length : Int) == x0)))], hp⟩ (fun e s => e = .normal ∧ ∃ s2, (∃ (e48 e50 : AV) (h' : Hp), T h' ((own_ (ocL 1 50 (ocV (cdL 1 (cdL 1 cdI)))) e7 v6.2) :: (own_ (ocL 1 31 (ocV (cdL 1 cdI))) e48 r.1) :: (own_ (ocL 1 3 (ocV cdI)) e50 r.2) :: L) ∧ s2 = ⟨Fr 43 [(0, .v (.int .i64 x0)), (4, e7), (6, e48), (7, e50), (8, .v (.int .i64 c17))], h'⟩) ∧ WkY e_ref09_Plane s s2) := by
 have he := e_ref09_Plane_ok
 unfold ref09_Plane_j2 at h
 refine SemY.cond (b := (((c21 ++ ([c17] : List Int)).length : Int) == x0)) kr (fun hb33 => ?_) (fun hb33 => ?_)
 ·rw [if_pos hb33] at h
  refine SemY.seq ?_
  refine SemY.regionL ?_
  refine RunL.sg he 2 ?_
  let p1 : Nat × AV := (8, .v (.int .i64 c17))
  let p2 : Nat × AV := (0, .v (.int .i64 x0))
  obtain ⟨hp34, hw35, hT36⟩ := WkY.frzT (E := e_ref09_Plane) (n := 43) (l := [p2, (4, e7), p1, (35, e18), (36, e30)]) (l' := [p2, (4, e7), p1, (35, e18), (36, .sl 1 ((c21 ++ ([c17] : List Int)).map cdI.enc))]) hT (LkT.at_ ⟨.inl kr, .inl kr, .inl kr, .inl kr, .inr ⟨kr, rfl⟩, trivial⟩)
  refine RunL.wk (WkY.trans (WkY.fr kr) hw35) ?_
  obtain ⟨e40, hp37, hb38, hT39⟩ := lit_ownB (P := Tryd.prog) (bytes := 24) (k := 1) (t := 31) (ty := 50) (xs := ([(c21 ++ ([c17] : List Int))] : List (List Int))) (n := 1) (fit_V (k := 1) (fun _ => ⟨rfl, rfl, rfl⟩)) (els_leaf (c := (cdL 1 cdI)) (xs := ([(c21 ++ ([c17] : List Int))] : List (List Int))) hT36) rfl kr kr kr
  refine RunL.one he 0 rfl (op_n (wantedA_none rfl) rfl kr (n_lit (xs := enumA 0 [.sl 1 ((c21 ++ ([c17] : List Int)).map cdI.enc)]) kr hb38)) ?_
  by_cases hk45 : (capOk 24 (c19.length + ([(c21 ++ ([c17] : List Int))] : List (List Int)).length)) = true
  case neg => rw [if_neg hk45] at h; cases h
  rw [if_pos hk45] at h
  have hT46 := ((hT39.front 0 rfl).front 2 rfl)
  obtain ⟨e44, hp41, hb42, hT43⟩ := app_ownB (P := Tryd.prog) (ty := 50) (ty2 := 50) (bytes := 24) hT46 kr kr hk45
  refine RunL.one he 0 rfl (op_w (wantedA_none rfl) rfl kr kr (w_append (a := e18) (b := e40) kr kr hb42)) ?_
  refine RunL.fin he [p2, (4, e7), (6, e44), p1] ?_
  refine SemY.regionL ?_
  refine RunL.sg he 1 ?_
  refine RunL.done rfl ?_
  have hq := Option.some.inj h; subst hq
  have hT52 := (T.e0 (k := 1) (ty := 3) (o := (ocV cdI)) hT43)
  have hT53 := ((hT52.front 1 rfl).front 2 rfl)
  exact ⟨rfl, _, ⟨e44, .e0, hp41, hT53, rfl⟩, (WkY.fr kr)⟩
 ·rw [if_f hb33] at h
  refine SemY.skip ?_
  have hq := Option.some.inj h; subst hq
  have hT54 := ((hT.front 2 rfl).front 2 rfl)
  exact ⟨rfl, _, ⟨e18, e30, hp, hT54, rfl⟩, (WkY.fr kr)⟩
set_option maxHeartbeats 4000000 in
set_option maxRecDepth 100000 in
theorem ref09_Plane_1_ok {L : List Asn} (x0 : Int) (v6 : Int × (List (List (List Int)))) (e7 : AV) : ∀ (f : Nat) (c17 : Int) (c19 : (List (List Int))) (c21 : (List Int)) (r : ((List (List Int)))), ref09_Plane_1 x0 f c17 c19 c21 = some r → ∀ (e18 e20 : AV) (hp : Hp), T hp ((own_ (ocL 1 50 (ocV (cdL 1 (cdL 1 cdI)))) e7 v6.2) :: (own_ (ocL 1 31 (ocV (cdL 1 cdI))) e18 c19) :: (own_ (ocL 1 3 (ocV cdI)) e20 c21) :: L) → SemYN e_ref09_Plane ⟨none, false⟩ (pc cb_ref09_Plane [1, 1, 1, 1, 1, 1, 0, 1, 0, 0]) f ⟨Fr 43 [(0, .v (.int .i64 x0)), (4, e7), (6, e18), (7, e20), (8, .v (.int .i64 c17))], hp⟩ (fun e s => e = (.exit 0) ∧ ∃ s2, (∃ (e60 : AV) (h' : Hp), T h' ((own_ (ocL 1 50 (ocV (cdL 1 (cdL 1 cdI)))) e7 v6.2) :: (own_ (ocL 1 31 (ocV (cdL 1 cdI))) e60 r) :: L) ∧ s2 = ⟨Fr 43 [(4, e7), (6, e60)], h'⟩) ∧ WkY e_ref09_Plane s s2) := by
 have he := e_ref09_Plane_ok
 intro f
 induction f with
 | zero => intro c17 c19 c21 r h; cases h
 | succ f ih0 =>
  intro c17 c19 c21 r h e18 e20 hp hT
  unfold ref09_Plane_1 at h
  refine SemYN.succ ?_
  refine SemY.seq ?_
  let p1 : Nat × AV := (8, .v (.int .i64 c17))
  let p2 : Nat × AV := (0, .v (.int .i64 x0))
  refine SemY.sq he [p2, (4, e7), (6, e18), (7, e20), p1, (24, .v (.bool (decide (c17 < (wr .i64 (x0 * x0))))))] ?_
  refine SemY.cond (b := (decide (c17 < (wr .i64 (x0 * x0))))) kr (fun hb22 => ?_) (fun hb22 => ?_)
  ·rw [if_pos hb22] at h
   refine SemY.skip ?_
   refine SemY.seq ?_
   refine SemY.block ?_
   refine SemY.seq ?_
   refine SemY.regionL ?_
   refine RunL.sg he 2 ?_
   obtain ⟨e26, hp23, hb24, hT25⟩ := lit_ownB (P := Tryd.prog) (bytes := 8) (k := 1) (t := 3) (ty := 31) (xs := ([c17] : List Int)) (n := 1) (fit_V (k := 1) (fun _ => ⟨rfl, rfl, rfl⟩)) (els_leaf (c := cdI) (xs := ([c17] : List Int)) hT) rfl kr kr kr
   refine RunL.one he 0 rfl (op_n (wantedA_none rfl) rfl kr (n_lit (xs := enumA 0 [.v (.int .i64 c17)]) kr hb24)) ?_
   by_cases hk31 : (capOk 8 (c21.length + ([c17] : List Int).length)) = true
   case neg => rw [if_neg hk31] at h; cases h
   rw [if_pos hk31] at h
   have hT32 := ((hT25.front 0 rfl).front 3 rfl)
   obtain ⟨e30, hp27, hb28, hT29⟩ := app_ownB (P := Tryd.prog) (ty := 31) (ty2 := 31) (bytes := 8) hT32 kr kr hk31
   refine RunL.one he 0 rfl (op_w (wantedA_none rfl) rfl kr kr (w_append (a := e20) (b := e26) kr kr hb28)) ?_
   refine RunL.fin he [p2, (4, e7), (6, e18), (7, e30), p1] ?_
   refine SemY.seq ?_
   refine SemY.regionL ?_
   refine RunL.sg he 1 ?_
   refine RunL.one he 0 rfl (op_q (wantedA_none rfl) rfl (q_len (a := e30) kr (len_B hT29 kr))) ?_
   refine RunL.fin he [p2, (4, e7), (6, e18), (7, e30), p1, (34, .v (.bool (((c21 ++ ([c17] : List Int)).length : Int) == x0)))] ?_
   obtain ⟨r55, hr55, h⟩ := Option.bind_eq_some_iff.1 h
   refine SemY.cutT (ref09_Plane_j2_ok x0 c17 c19 c21 v6 e7 e18 e30 _ hr55 hT29) ?_
   rintro _ ⟨e56, e57, hp58, hT59, rfl⟩
   refine SemY.regionL ?_
   refine RunL.sg he 3 ?_
   refine RunL.done rfl ?_
   exact SemYN.wk (WkY.fr kr) (ih0 (wr .i64 (c17 + 1)) r55.1 r55.2 _ h e56 e57 hp58 hT59)
  ·rw [if_f hb22] at h
   refine SemY.exit ?_
   have hq := Option.some.inj h; subst hq
   have hT62 := (hT.front 2 rfl).drop
   exact ⟨rfl, _, ⟨e18, hp, hT62, rfl⟩, (WkY.fr kr)⟩
set_option maxHeartbeats 4000000 in
set_option maxRecDepth 100000 in
theorem ref09_Plane_sem {L : List Asn} {hp : Hp} (x0 : Int) (r : (List (List (List Int))) × Int) (h : ref09_Plane x0 = some r) (hT : T hp (L)) : SemY e_ref09_Plane ⟨none, false⟩ cb_ref09_Plane ⟨Fr 43 (pairs0 0 [.v (.int .i64 x0)]), hp⟩ fun x s' => (x = .normal ∨ x = .ret) ∧ ∃ ys, resA e_ref09_Plane.P s'.fr s'.hp Tryd.f62.results.toList = some ys ∧ (fun v h' => v = .tp [.sl 1 (r.1.map (cdL 1 (cdL 1 cdI)).enc), .v (.int .i64 r.2)] ∧ T h' (L)) (retA ys) s'.hp := by
 have he := e_ref09_Plane_ok
 unfold ref09_Plane at h
 let p1 : Nat × AV := (0, .v (.int .i64 x0))
 refine SemY.wkQ (SemY.wk (s1 := ⟨Fr 43 [p1], hp⟩) (WkY.fr kr) ?_)
 refine SemY.sq he [p1] ?_
 refine SemY.seq ?_
 refine SemY.sq he [p1, (10, .v (.bool (decide (x0 > 8))))] ?_
 refine SemY.cond (b := (decide (x0 > 8))) kr (fun hb1 => ?_) (fun hb1 => ?_)
 ·rw [if_pos hb1] at h
  let p2 : Nat × AV := (3, .v (.int .i64 90))
  refine SemY.sq he [(2, .e0), p2] ?_
  refine SemY.ret ?_
  have hq := Option.some.inj h; subst hq
  have hT2 := (T.e0 (k := 1) (ty := 50) (o := (ocV (cdL 1 (cdL 1 cdI)))) hT)
  let p3 : Nat × AV := (2, .sl 1 (([] : (List (List (List Int)))).map (cdL 1 (cdL 1 cdI)).enc))
  obtain ⟨hp3, hw4, hT5⟩ := WkY.frzT (E := e_ref09_Plane) (n := 43) (l := [(2, .e0), p2]) (l' := [p3, p2]) hT2 (LkT.at_ ⟨.inr ⟨kr, rfl⟩, .inl kr, trivial⟩)
  exact ⟨⟨Fr 43 [p3, p2], hp3⟩, (WkY.trans (WkY.trans (WkY.fr kr) hw4) (WkY.fr kr)), .inr rfl, [.sl 1 (([] : (List (List (List Int)))).map (cdL 1 (cdL 1 cdI)).enc), .v (.int .i64 90)], kr, ⟨rfl, hT5⟩⟩
 ·rw [if_f hb1] at h
  refine SemY.skip ?_
  refine SemY.seq ?_
  refine SemY.regionL ?_
  refine RunL.sg he 2 ?_
  obtain ⟨v6, hv6, h⟩ := Option.bind_eq_some_iff.1 h
  refine RunL.inlT (E := e_ref09_Plane) (e := e_ref09_Net_o) rfl rfl e_ref09_Net_o_ok rfl rfl (fid := 61) (caps := []) (xs := [.v (.int .i64 x0), .v (.int .i64 x0)]) (fn := Tryd.f61) (c := cb_ref09_Net_o) (Out := fun v h' => ∃ (z0 : AV), v = .tp [z0, .v (.int .i64 v6.1)] ∧ T h' ((own_ (ocL 1 50 (ocV (cdL 1 (cdL 1 cdI)))) z0 v6.2) :: L)) rfl (wantedA_none rfl) kr kr kr kr (by show 2 ≤ 74; decide) (ref09_Net_o_sem x0 x0 _ hv6 hT) ?_
  rintro xx hp8 ⟨e7, hqhp8, hT9⟩; subst xx
  refine RunL.fin he [p1, (4, e7), (5, .v (.int .i64 v6.1))] ?_
  refine SemY.seq ?_
  refine SemY.sq he [p1, (4, e7), (5, .v (.int .i64 v6.1)), (18, .v (.bool (v6.1 != 0)))] ?_
  refine SemY.cond (b := (v6.1 != 0)) kr (fun hb10 => ?_) (fun hb10 => ?_)
  ·rw [if_pos hb10] at h
   let p4 : Nat × AV := (3, .v (.int .i64 v6.1))
   refine SemY.sq he [(2, .e0), p4] ?_
   refine SemY.ret ?_
   have hq := Option.some.inj h; subst hq
   have hT11 := (T.e0 (k := 1) (ty := 50) (o := (ocV (cdL 1 (cdL 1 cdI)))) hT9)
   let p5 : Nat × AV := (2, .sl 1 (([] : (List (List (List Int)))).map (cdL 1 (cdL 1 cdI)).enc))
   obtain ⟨hp12, hw13, hT14⟩ := WkY.frzT (E := e_ref09_Plane) (n := 43) (l := [(2, .e0), p4]) (l' := [p5, p4]) hT11 (LkT.at_ ⟨.inr ⟨kr, rfl⟩, .inl kr, trivial⟩)
   exact ⟨⟨Fr 43 [p5, p4], hp12⟩, (WkY.trans (WkY.trans (WkY.fr kr) hw13) (WkY.fr kr)), .inr rfl, [.sl 1 (([] : (List (List (List Int)))).map (cdL 1 (cdL 1 cdI)).enc), .v (.int .i64 v6.1)], kr, ⟨rfl, hT14.drop⟩⟩
  ·rw [if_f hb10] at h
   refine SemY.skip ?_
   refine SemY.sq he [p1, (4, e7), (6, .e0)] ?_
   refine SemY.sq he [p1, (4, e7), (6, .e0), (7, .e0)] ?_
   refine SemY.seq ?_
   refine SemY.sq he [p1, (4, e7), (6, .e0), (7, .e0), (8, .v (.int .i64 0))] ?_
   refine SemY.block ?_
   have hT15 := (T.e0 (k := 1) (ty := 31) (o := (ocV (cdL 1 cdI))) hT9)
   have hT16 := (T.e0 (k := 1) (ty := 3) (o := (ocV cdI)) hT15)
   have hT63 := ((hT16.front 1 rfl).front 2 rfl)
   refine SemY.loop (n := 100000) ?_
   obtain ⟨r64, hr64, h⟩ := Option.bind_eq_some_iff.1 h
   refine SemYN.cutT (SemYN.wk (WkY.fr kr) (ref09_Plane_1_ok x0 v6 e7 _ 0 ([] : (List (List Int))) ([] : (List Int)) _ hr64 .e0 .e0 hp8 hT63)) ?_
   rintro _ ⟨e65, hp66, hT67, rfl⟩
   refine SemY.seq ?_
   refine SemY.regionL ?_
   refine RunL.sg he 2 ?_
   have hT68 := (hT67.front 1 rfl)
   obtain ⟨hp69, hw70, hT71⟩ := WkY.frzT (E := e_ref09_Plane) (n := 43) (l := [(39, e7), (40, e65)]) (l' := [(39, e7), (40, .sl 1 (r64.map (cdL 1 cdI).enc))]) hT68 (LkT.at_ ⟨.inl kr, .inr ⟨kr, rfl⟩, trivial⟩)
   refine RunL.wk (WkY.trans (WkY.fr kr) hw70) ?_
   obtain ⟨e75, hp72, hb73, hT74⟩ := lit_ownB (P := Tryd.prog) (bytes := 24) (k := 1) (t := 50) (ty := 22) (xs := ([r64] : List (List (List Int)))) (n := 1) (fit_V (k := 1) (fun _ => ⟨rfl, rfl, rfl⟩)) (els_leaf (c := (cdL 1 (cdL 1 cdI))) (xs := ([r64] : List (List (List Int)))) hT71) rfl kr kr kr
   refine RunL.one he 0 rfl (op_n (wantedA_none rfl) rfl kr (n_lit (xs := enumA 0 [.sl 1 (r64.map (cdL 1 cdI).enc)]) kr hb73)) ?_
   by_cases hk80 : (capOk 24 (v6.2.length + ([r64] : List (List (List Int))).length)) = true
   case neg => rw [if_neg hk80] at h; cases h
   rw [if_pos hk80] at h
   have hT81 := ((hT74.front 0 rfl).front 1 rfl)
   obtain ⟨e79, hp76, hb77, hT78⟩ := app_ownB (P := Tryd.prog) (ty := 22) (ty2 := 22) (bytes := 24) hT81 kr kr hk80
   refine RunL.one he 0 rfl (op_w (wantedA_none rfl) rfl kr kr (w_append (a := e7) (b := e75) kr kr hb77)) ?_
   let p6 : Nat × AV := (3, .v (.int .i64 0))
   refine RunL.fin he [(2, e79), p6] ?_
   refine SemY.ret ?_
   have hq := Option.some.inj h; subst hq
   let p7 : Nat × AV := (2, .sl 1 ((v6.2 ++ ([r64] : List (List (List Int)))).map (cdL 1 (cdL 1 cdI)).enc))
   obtain ⟨hp82, hw83, hT84⟩ := WkY.frzT (E := e_ref09_Plane) (n := 43) (l := [(2, e79), p6]) (l' := [p7, p6]) hT78 (LkT.at_ ⟨.inr ⟨kr, rfl⟩, .inl kr, trivial⟩)
   exact ⟨⟨Fr 43 [p7, p6], hp82⟩, (WkY.trans (WkY.trans (WkY.fr kr) hw83) (WkY.fr kr)), .inr rfl, [.sl 1 ((v6.2 ++ ([r64] : List (List (List Int)))).map (cdL 1 (cdL 1 cdI)).enc), .v (.int .i64 0)], kr, ⟨rfl, hT84⟩⟩
def cs_ref09_Plane : Cs (Int × Unit) := (csC cdI csN)
def er_ref09_Plane (r : (List (List (List Int))) × Int) : AV := .tp [(cdL 1 (cdL 1 (cdL 1 cdI))).enc r.1, cdI.enc r.2]
def t_ref09_Plane : List AV → Option AV := told cs_ref09_Plane (fun a => ref09_Plane a.1) er_ref09_Plane
theorem x_ref09_Plane : XOk 62 t_ref09_Plane := by
 refine EnvOk.x (E := e_ref09_Plane) (contract_ok e_ref09_Plane_ok (fn := Tryd.f62) (c := cb_ref09_Plane) ?h1 ?h2 ⟨Tryd.call62⟩ cs_ref09_Plane (fun a => ref09_Plane a.1) er_ref09_Plane (fun a => (by show 1 ≤ 43; decide)) ?h3 ?h4) rfl rfl
 case h1 => kernel_rfl
 case h2 => kernel_rfl
 case h3 => intro b; kernel_rfl
 case h4 =>
  intro a b h
  refine Sem.mono (Sem.ofY (ref09_Plane_sem (L := []) (hp := []) a.1 b h T.nil)) fun e s' hs => ?_
  obtain ⟨h1, ys, h2, h3, -⟩ := hs
  exact ⟨h1, ys, h2, h3⟩
/- trestle/evening.guests -/
noncomputable def e_evening_guests : Env := E0
theorem e_evening_guests_ok : EnvOk e_evening_guests := E0_ok
noncomputable def cb_evening_guests : Code := codeOf Tryd.f82
def evening_guests (x0 : Int) : Option (Bool) :=
 (if (decide (x0 ≥ 1)) = true then some (decide (x0 ≤ 64)) else some false).bind fun j2 =>
 some j2
def cs_evening_guests : Cs (Int × Unit) := (csC cdI csN)
def er_evening_guests (r : Bool) : AV := cdB.enc r
set_option maxHeartbeats 4000000 in
set_option maxRecDepth 100000 in
theorem evening_guests_sem (x0 : Int) (r : Bool) (h : evening_guests x0 = some r) : Sem e_evening_guests ⟨none, false⟩ cb_evening_guests ⟨Fr 9 (pairs0 0 (cs_evening_guests.enc (x0, ()))), []⟩ fun e s' => (e = .normal ∨ e = .ret) ∧ ∃ xs, resA e_evening_guests.P s'.fr s'.hp Tryd.f82.results.toList = some xs ∧ retA xs = er_evening_guests r := by
 have he := e_evening_guests_ok
 unfold evening_guests at h
 let p1 : Nat × AV := (0, .v (.int .i64 x0))
 refine Sem.wkQ (Sem.wk (s1 := ⟨Fr 9 [p1], []⟩) (Wk.fr kr) ?_)
 refine Sem.sq he [p1] [] ?_
 refine Sem.seq ?_
 obtain ⟨j2, hj2, h⟩ := Option.bind_eq_some_iff.1 h
 refine Sem.runS (s1 := ⟨Fr 9 [(2, .v (.bool j2))], []⟩) ?_ ?_
 ·refine RunS.segF (n := 9) he 3 [p1, (5, .v (.bool (decide (x0 ≥ 1))))] [] kr ?_
  rcases Bool.eq_false_or_eq_true (decide (x0 ≥ 1)) with hc3 | hc3
  ·rw [if_pos hc3] at hj2
   rw [hc3]
   refine RunS.segF (n := 9) he 4 [(2, .v (.bool (decide (x0 ≤ 64))))] [] kr ?_
   have hq := Option.some.inj hj2; subst hq
   exact RunS.done rfl (Wk.fr kr)
  ·rw [if_f hc3] at hj2
   rw [hc3]
   refine RunS.segF (n := 9) he 4 [(2, .v (.bool false))] [] kr ?_
   have hq := Option.some.inj hj2; subst hq
   exact RunS.done rfl (Wk.fr kr)
 refine Sem.ret ?_
 have hq := Option.some.inj h; subst hq
 exact ⟨⟨Fr 9 [(2, .v (.bool j2))], []⟩, (Wk.fr kr), .inr rfl, [.v (.bool j2)], kr, kr⟩
def t_evening_guests : List AV → Option AV := told cs_evening_guests (fun a => evening_guests a.1) er_evening_guests
theorem x_evening_guests : XOk 82 t_evening_guests := by
 refine EnvOk.x (E := e_evening_guests) (contract_ok e_evening_guests_ok (fn := Tryd.f82) (c := cb_evening_guests) ?h1 ?h2 ⟨Tryd.call82⟩ cs_evening_guests (fun a => evening_guests a.1) er_evening_guests (fun a => (by show 1 ≤ 9; decide)) ?h3 ?h4) rfl rfl
 case h1 => kernel_rfl
 case h2 => kernel_rfl
 case h3 => intro b; kernel_rfl
 case h4 => exact fun a b h => evening_guests_sem a.1 b h
/- trestle/evening.span -/
noncomputable def e_evening_span : Env := E0
theorem e_evening_span_ok : EnvOk e_evening_span := E0_ok
noncomputable def cb_evening_span : Code := codeOf Tryd.f69
def evening_span_1 (x0 : Int) (x1 : Int) : Nat → (List Int) → Int → Option (((List Int)))
 | 0, _, _ => none
 | f + 1, c1, c2 =>
  if (decide (c2 < x1)) = true then
  if (capOk 8 (c1.length + 1)) = true then
  evening_span_1 x0 x1 f (c1 ++ [(wr .i64 (x0 + c2))]) (wr .i64 (c2 + 1))
  else none
  else
  some c1
def evening_span (x0 : Int) (x1 : Int) : Option ((List Int)) :=
 (evening_span_1 x0 x1 100000 [] 0).bind fun r6 =>
 some r6
def cs_evening_span : Cs (Int × Int × Unit) := (csC cdI (csC cdI csN))
def er_evening_span (r : (List Int)) : AV := (cdL 1 cdI).enc r
set_option maxHeartbeats 4000000 in
set_option maxRecDepth 100000 in
theorem evening_span_1_ok (x0 : Int) (x1 : Int) : ∀ (f : Nat) (c1 : (List Int)) (c2 : Int) (r : ((List Int))), evening_span_1 x0 x1 f c1 c2 = some r → SemN e_evening_span ⟨none, false⟩ (pc cb_evening_span [1, 1, 0, 1, 0, 0]) f ⟨Fr 19 [(0, .v (.int .i64 x0)), (5, hd 0 (c1.map cdI.enc)), (7, .v (.int .i64 x1)), (8, .v (.int .i64 c2))], [mk 1 3 (c1.map cdI.enc)]⟩ (fun e s => e = (.exit 0) ∧ Wk e_evening_span s ⟨Fr 19 [(5, hd 0 (r.map cdI.enc))], [mk 1 3 (r.map cdI.enc)]⟩) := by
 have he := e_evening_span_ok
 intro f
 induction f with
 | zero => intro c1 c2 r h; cases h
 | succ f ih0 =>
  intro c1 c2 r h
  have ih := fun (c1 : (List Int)) (c2 : Int) => ih0 c1 c2 r
  unfold evening_span_1 at h
  refine SemN.succ ?_
  let p1 : Option Blk := mk 1 3 (c1.map cdI.enc)
  let p2 : Nat × AV := (8, .v (.int .i64 c2))
  let p3 : Nat × AV := (7, .v (.int .i64 x1))
  let p4 : Nat × AV := (0, .v (.int .i64 x0))
  refine Sem.sq he [p4, (5, hd 0 (c1.map cdI.enc)), p3, p2, (9, .v (.bool (decide (c2 < x1))))] [p1] ?_
  refine Sem.seq ?_
  refine Sem.cond (b := (decide (c2 < x1))) kr (fun hb3 => ?_) (fun hb3 => ?_)
  ·rw [if_pos hb3] at h
   refine Sem.skip ?_
   refine Sem.seq ?_
   refine Sem.block ?_
   refine Sem.sq he [p4, (5, hd 0 (c1.map cdI.enc)), (6, .v (.int .i64 c2)), p3, p2] [p1] ?_
   by_cases hk4 : (capOk 8 (c1.length + 1)) = true
   case neg => rw [if_neg hk4] at h; cases h
   rw [if_pos hk4] at h
   let p5 : Option Blk := mk 1 3 ((c1 ++ [(wr .i64 (x0 + c2))]).map cdI.enc)
   let p6 : Nat × AV := (5, hd 0 ((c1 ++ [(wr .i64 (x0 + c2))]).map cdI.enc))
   refine Sem.runS (s1 := ⟨Fr 19 [p4, p6, p3, p2], [p5]⟩) ?_ ?_
   ·let p7 : Option Blk := mk 1 3 ([(wr .i64 (x0 + c2))].map cdI.enc)
    refine RunS.segF (n := 19) he 5 [p4, p3, p2, (11, hd 0 (c1.map cdI.enc)), (15, hd 1 ([(wr .i64 (x0 + c2))].map cdI.enc))] [p1, p7] kr ?_
    refine RunS.one he 0 rfl (op_w (wantedA_none rfl) rfl kr kr (w_append (a := hd 0 (c1.map cdI.enc)) (b := hd 1 ([(wr .i64 (x0 + c2))].map cdI.enc)) kr kr (append_B (c := cdI) (xs := c1) (vs := [(wr .i64 (x0 + c2))]) (k := 1) (bytes := 8) (el := 3) kr kr (elems_hd (t := 3) kr) (List.cons_ne_nil _ _) kr hk4))) ?_
    refine RunS.segF (n := 19) he 1 [p4, (5, hd 2 ((c1 ++ [(wr .i64 (x0 + c2))]).map cdI.enc)), p3, p2] [none, p7, p5] kr ?_
    exact RunS.done rfl (Wk.sel2 [2] kr kr kr ⟨⟨_, rfl, bu_mk⟩, trivial⟩ ⟨lu kr kr, lu_hd (b' := 2) kr kr, lu kr kr, lu kr kr, trivial⟩)
   let p8 : Nat × AV := (8, .v (.int .i64 (wr .i64 (c2 + 1))))
   refine Sem.rg he [p4, p6, p3, p8] [p5] ?_
   exact SemN.wk (s1 := ⟨Fr 19 [p4, p6, p3, p8], [p5]⟩) (Wk.sel2 [0] kr kr kr ⟨⟨_, rfl, bu_mk⟩, trivial⟩ ⟨lu kr kr, lu_hd (b' := 0) kr kr, lu kr kr, lu kr kr, trivial⟩) (ih (c1 ++ [(wr .i64 (x0 + c2))]) (wr .i64 (c2 + 1)) h)
  ·rw [if_f hb3] at h
   refine Sem.exit ?_
   have hq := Option.some.inj h; subst hq
   exact ⟨rfl, (Wk.sel2 [0] kr kr kr ⟨⟨_, rfl, bu_mk⟩, trivial⟩ ⟨lu_hd (b' := 0) kr kr, trivial⟩)⟩
set_option maxHeartbeats 4000000 in
set_option maxRecDepth 100000 in
theorem evening_span_sem (x0 : Int) (x1 : Int) (r : (List Int)) (h : evening_span x0 x1 = some r) : Sem e_evening_span ⟨none, false⟩ cb_evening_span ⟨Fr 19 (pairs0 0 (cs_evening_span.enc (x0, x1, ()))), []⟩ fun e s' => (e = .normal ∨ e = .ret) ∧ ∃ xs, resA e_evening_span.P s'.fr s'.hp Tryd.f69.results.toList = some xs ∧ retA xs = er_evening_span r := by
 have he := e_evening_span_ok
 unfold evening_span at h
 let p1 : Nat × AV := (1, .v (.int .i64 x1))
 let p2 : Nat × AV := (0, .v (.int .i64 x0))
 refine Sem.wkQ (Sem.wk (s1 := ⟨Fr 19 [p2, p1], []⟩) (Wk.fr kr) ?_)
 refine Sem.sq he [p2, p1] [] ?_
 refine Sem.sq he [p2, p1, (5, .e0)] [] ?_
 refine Sem.seq ?_
 let p3 : Nat × AV := (8, .v (.int .i64 0))
 let p4 : Nat × AV := (7, .v (.int .i64 x1))
 refine Sem.sq he [p2, (5, .e0), p4, p3] [] ?_
 refine Sem.block ?_
 obtain ⟨r6, hr6, h⟩ := Option.bind_eq_some_iff.1 h
 refine Sem.loop (n := 100000) ?_
 refine Sem.cutN (SemN.wk (s1 := ⟨Fr 19 [p2, (5, hd 0 ([].map cdI.enc)), p4, p3], [mk 1 3 ([].map cdI.enc)]⟩) (Wk.trans (s1 := ⟨Fr 19 [p2, (5, hd 0 ([].map cdI.enc)), p4, p3], [mk 1 3 ([].map cdI.enc)]⟩) Wk.none (Wk.sel2 [0] kr kr kr ⟨⟨_, rfl, bu_none⟩, trivial⟩ ⟨lu kr kr, lu kr kr, lu kr kr, lu kr kr, trivial⟩)) (evening_span_1_ok x0 x1 _ [] 0 _ hr6)) ?_
 refine Sem.sq he [(4, hd 0 (r6.map cdI.enc))] [mk 1 3 (r6.map cdI.enc)] ?_
 refine Sem.ret ?_
 have hq := Option.some.inj h; subst hq
 exact ⟨⟨Fr 19 [(4, .sl 1 (r6.map cdI.enc))], []⟩, (Wk.trans (s1 := ⟨Fr 19 [(4, .sl 1 (r6.map cdI.enc))], [none]⟩) (Wk.frzG 0 (.inl kr) ⟨.inl rfl, trivial⟩ ⟨⟨hd 0 (r6.map cdI.enc), kr, fz_hd (t := 3) kr enc_ok⟩, trivial⟩) (Wk.sel2 [] kr kr kr trivial ⟨lu kr kr, trivial⟩)), .inr rfl, [.sl 1 (r6.map cdI.enc)], kr, kr⟩
def t_evening_span : List AV → Option AV := told cs_evening_span (fun a => evening_span a.1 a.2.1) er_evening_span
theorem x_evening_span : XOk 69 t_evening_span := by
 refine EnvOk.x (E := e_evening_span) (contract_ok e_evening_span_ok (fn := Tryd.f69) (c := cb_evening_span) ?h1 ?h2 ⟨Tryd.call69⟩ cs_evening_span (fun a => evening_span a.1 a.2.1) er_evening_span (fun a => (by show 2 ≤ 19; decide)) ?h3 ?h4) rfl rfl
 case h1 => kernel_rfl
 case h2 => kernel_rfl
 case h3 => intro b; kernel_rfl
 case h4 => exact fun a b h => evening_span_sem a.1 a.2.1 b h
/- trestle/evening.alone -/
noncomputable def e_evening_alone : Env := E0
theorem e_evening_alone_ok : EnvOk e_evening_alone := E0_ok
noncomputable def cb_evening_alone : Code := codeOf Tryd.f105
def evening_alone_2 (x0 : Int) (c1 : (List (List (List Int)))) (c2 : Int) : Nat → (List (List Int)) → Int → Option (((List (List Int))))
 | 0, _, _ => none
 | f + 1, c4, c5 =>
  if (decide (c5 < x0)) = true then
  if (capOk 24 (c4.length + 1)) = true then
  evening_alone_2 x0 c1 c2 f (c4 ++ [[c5]]) (wr .i64 (c5 + 1))
  else none
  else
  some c4
def evening_alone_1 (x0 : Int) : Nat → (List (List (List Int))) → Int → Option (((List (List (List Int)))))
 | 0, _, _ => none
 | f + 1, c1, c2 =>
  if (decide (c2 < 64)) = true then
  (evening_alone_2 x0 c1 c2 100000 [] 0).bind fun r9 =>
  if (capOk 24 (c1.length + 1)) = true then
  evening_alone_1 x0 f (c1 ++ [r9]) (wr .i64 (c2 + 1))
  else none
  else
  some c1
def evening_alone (x0 : Int) : Option ((List (List (List Int)))) :=
 (evening_alone_1 x0 100000 [] 0).bind fun r12 =>
 some r12
def cs_evening_alone : Cs (Int × Unit) := (csC cdI csN)
def er_evening_alone (r : (List (List (List Int)))) : AV := (cdL 1 (cdL 1 (cdL 1 cdI))).enc r
set_option maxHeartbeats 4000000 in
set_option maxRecDepth 100000 in
theorem evening_alone_2_ok (x0 : Int) (c1 : (List (List (List Int)))) (c2 : Int) : ∀ (f : Nat) (c4 : (List (List Int))) (c5 : Int) (r : ((List (List Int)))), evening_alone_2 x0 c1 c2 f c4 c5 = some r → SemN e_evening_alone ⟨none, false⟩ (pc cb_evening_alone [1, 1, 0, 1, 0, 0, 1, 1, 0, 0, 1, 0, 1, 0, 0]) f ⟨Fr 24 [(0, .v (.int .i64 x0)), (3, hd 0 (c1.map (cdL 1 (cdL 1 cdI)).enc)), (4, hd 1 (c4.map (cdL 1 cdI).enc)), (6, .v (.int .i64 c2)), (8, .v (.int .i64 x0)), (9, .v (.int .i64 c5))], [mk 1 50 (c1.map (cdL 1 (cdL 1 cdI)).enc), mk 1 31 (c4.map (cdL 1 cdI).enc)]⟩ (fun e s => e = (.exit 2) ∧ Wk e_evening_alone s ⟨Fr 24 [(0, .v (.int .i64 x0)), (3, hd 0 (c1.map (cdL 1 (cdL 1 cdI)).enc)), (4, hd 1 (r.map (cdL 1 cdI).enc)), (6, .v (.int .i64 c2))], [mk 1 50 (c1.map (cdL 1 (cdL 1 cdI)).enc), mk 1 31 (r.map (cdL 1 cdI).enc)]⟩) := by
 have he := e_evening_alone_ok
 intro f
 induction f with
 | zero => intro c4 c5 r h; cases h
 | succ f ih0 =>
  intro c4 c5 r h
  have ih := fun (c4 : (List (List Int))) (c5 : Int) => ih0 c4 c5 r
  unfold evening_alone_2 at h
  refine SemN.succ ?_
  let p1 : Option Blk := mk 1 31 (c4.map (cdL 1 cdI).enc)
  let p2 : Option Blk := mk 1 50 (c1.map (cdL 1 (cdL 1 cdI)).enc)
  let p3 : Nat × AV := (9, .v (.int .i64 c5))
  let p4 : Nat × AV := (8, .v (.int .i64 x0))
  let p5 : Nat × AV := (6, .v (.int .i64 c2))
  let p6 : Nat × AV := (4, hd 1 (c4.map (cdL 1 cdI).enc))
  let p7 : Nat × AV := (3, hd 0 (c1.map (cdL 1 (cdL 1 cdI)).enc))
  let p8 : Nat × AV := (0, .v (.int .i64 x0))
  refine Sem.sq he [p8, p7, p6, p5, p4, p3, (10, .v (.bool (decide (c5 < x0))))] [p2, p1] ?_
  refine Sem.seq ?_
  refine Sem.cond (b := (decide (c5 < x0))) kr (fun hb6 => ?_) (fun hb6 => ?_)
  ·rw [if_pos hb6] at h
   refine Sem.skip ?_
   refine Sem.seq ?_
   refine Sem.block ?_
   refine Sem.sq he [p8, p7, p6, (5, .v (.int .i64 c5)), p5, p4, p3] [p2, p1] ?_
   by_cases hk7 : (capOk 24 (c4.length + 1)) = true
   case neg => rw [if_neg hk7] at h; cases h
   rw [if_pos hk7] at h
   let p9 : Option Blk := mk 1 31 ((c4 ++ [[c5]]).map (cdL 1 cdI).enc)
   let p10 : Nat × AV := (4, hd 1 ((c4 ++ [[c5]]).map (cdL 1 cdI).enc))
   refine Sem.runS (s1 := ⟨Fr 24 [p8, p7, p10, p5, p4, p3], [p2, p9]⟩) ?_ ?_
   ·refine RunS.segF (n := 24) he 4 [p8, p7, p5, p4, p3, (12, hd 1 (c4.map (cdL 1 cdI).enc)), (15, .rf 3 0 1 1)] [p2, p1, mk 1 3 ([c5].map cdI.enc), some ⟨1, 31, [hd 2 ([c5].map cdI.enc)], false⟩] kr ?_
    refine RunS.wk (s1 := ⟨Fr 24 [p8, p7, p5, p4, p3, (12, hd 1 (c4.map (cdL 1 cdI).enc)), (15, hd 3 ([[c5]].map (cdL 1 cdI).enc))], [p2, p1, none, mk 1 31 ([[c5]].map (cdL 1 cdI).enc)]⟩) (Wk.frzG 2 (.inl kr) ⟨.inr (.inl rfl), .inr (.inl rfl), .inl rfl, .inr (.inr ⟨_, _, _, _, rfl, rfl, ⟨fz_hd (t := 3) kr enc_ok, trivial⟩⟩), trivial⟩ ⟨⟨.v (.int .i64 x0), kr, .inl rfl⟩, ⟨hd 0 (c1.map (cdL 1 (cdL 1 cdI)).enc), kr, .inl rfl⟩, ⟨.v (.int .i64 c2), kr, .inl rfl⟩, ⟨.v (.int .i64 x0), kr, .inl rfl⟩, ⟨.v (.int .i64 c5), kr, .inl rfl⟩, ⟨hd 1 (c4.map (cdL 1 cdI).enc), kr, .inl rfl⟩, ⟨.rf 3 0 1 1, kr, .inl rfl⟩, trivial⟩) ?_
    refine RunS.one he 0 rfl (op_w (wantedA_none rfl) rfl kr kr (w_append (a := hd 1 (c4.map (cdL 1 cdI).enc)) (b := hd 3 ([[c5]].map (cdL 1 cdI).enc)) kr kr (append_B (c := (cdL 1 cdI)) (xs := c4) (vs := [[c5]]) (k := 1) (bytes := 24) (el := 31) kr kr (elems_hd (t := 31) kr) (List.cons_ne_nil _ _) kr hk7))) ?_
    refine RunS.segF (n := 24) he 1 [p8, p7, (4, hd 4 ((c4 ++ [[c5]]).map (cdL 1 cdI).enc)), p5, p4, p3] [p2, none, none, mk 1 31 ([[c5]].map (cdL 1 cdI).enc), p9] kr ?_
    exact RunS.done rfl (Wk.sel2 [0, 4] kr kr kr ⟨⟨_, rfl, bu_mk⟩, ⟨_, rfl, bu_mk⟩, trivial⟩ ⟨lu kr kr, lu_hd (b' := 0) kr kr, lu_hd (b' := 4) kr kr, lu kr kr, lu kr kr, lu kr kr, trivial⟩)
   let p11 : Nat × AV := (9, .v (.int .i64 (wr .i64 (c5 + 1))))
   refine Sem.rg he [p8, p7, p10, p5, p4, p11] [p2, p9] ?_
   exact SemN.wk (s1 := ⟨Fr 24 [p8, p7, p10, p5, p4, p11], [p2, p9]⟩) (Wk.sel2 [0, 1] kr kr kr ⟨⟨_, rfl, bu_mk⟩, ⟨_, rfl, bu_mk⟩, trivial⟩ ⟨lu kr kr, lu_hd (b' := 0) kr kr, lu_hd (b' := 1) kr kr, lu kr kr, lu kr kr, lu kr kr, trivial⟩) (ih (c4 ++ [[c5]]) (wr .i64 (c5 + 1)) h)
  ·rw [if_f hb6] at h
   refine Sem.exit ?_
   have hq := Option.some.inj h; subst hq
   exact ⟨rfl, (Wk.sel2 [0, 1] kr kr kr ⟨⟨_, rfl, bu_mk⟩, ⟨_, rfl, bu_mk⟩, trivial⟩ ⟨lu kr kr, lu_hd (b' := 0) kr kr, lu_hd (b' := 1) kr kr, lu kr kr, trivial⟩)⟩
set_option maxHeartbeats 4000000 in
set_option maxRecDepth 100000 in
theorem evening_alone_1_ok (x0 : Int) : ∀ (f : Nat) (c1 : (List (List (List Int)))) (c2 : Int) (r : ((List (List (List Int))))), evening_alone_1 x0 f c1 c2 = some r → SemN e_evening_alone ⟨none, false⟩ (pc cb_evening_alone [1, 1, 0, 1, 0, 0]) f ⟨Fr 24 [(0, .v (.int .i64 x0)), (3, hd 0 (c1.map (cdL 1 (cdL 1 cdI)).enc)), (6, .v (.int .i64 c2))], [mk 1 50 (c1.map (cdL 1 (cdL 1 cdI)).enc)]⟩ (fun e s => e = (.exit 0) ∧ Wk e_evening_alone s ⟨Fr 24 [(3, hd 0 (r.map (cdL 1 (cdL 1 cdI)).enc))], [mk 1 50 (r.map (cdL 1 (cdL 1 cdI)).enc)]⟩) := by
 have he := e_evening_alone_ok
 intro f
 induction f with
 | zero => intro c1 c2 r h; cases h
 | succ f ih0 =>
  intro c1 c2 r h
  have ih := fun (c1 : (List (List (List Int)))) (c2 : Int) => ih0 c1 c2 r
  unfold evening_alone_1 at h
  refine SemN.succ ?_
  let p1 : Option Blk := mk 1 50 (c1.map (cdL 1 (cdL 1 cdI)).enc)
  let p2 : Nat × AV := (6, .v (.int .i64 c2))
  let p3 : Nat × AV := (3, hd 0 (c1.map (cdL 1 (cdL 1 cdI)).enc))
  let p4 : Nat × AV := (0, .v (.int .i64 x0))
  refine Sem.sq he [p4, p3, p2, (7, .v (.bool (decide (c2 < 64))))] [p1] ?_
  refine Sem.seq ?_
  refine Sem.cond (b := (decide (c2 < 64))) kr (fun hb3 => ?_) (fun hb3 => ?_)
  ·rw [if_pos hb3] at h
   refine Sem.skip ?_
   refine Sem.seq ?_
   refine Sem.block ?_
   refine Sem.sq he [p4, p3, (4, .e0), p2] [p1] ?_
   refine Sem.seq ?_
   let p5 : Nat × AV := (9, .v (.int .i64 0))
   let p6 : Nat × AV := (8, .v (.int .i64 x0))
   refine Sem.sq he [p4, p3, (4, .e0), p2, p6, p5] [p1] ?_
   refine Sem.block ?_
   obtain ⟨r9, hr9, h⟩ := Option.bind_eq_some_iff.1 h
   refine Sem.loop (n := 100000) ?_
   refine Sem.cutN (SemN.wk (s1 := ⟨Fr 24 [p4, p3, (4, hd 1 ([].map (cdL 1 cdI).enc)), p2, p6, p5], [p1, mk 1 31 ([].map (cdL 1 cdI).enc)]⟩) (Wk.trans (s1 := ⟨Fr 24 [p4, p3, (4, hd 1 ([].map (cdL 1 cdI).enc)), p2, p6, p5], [p1, mk 1 31 ([].map (cdL 1 cdI).enc)]⟩) Wk.none (Wk.sel2 [0, 1] kr kr kr ⟨⟨_, rfl, bu_mk⟩, ⟨_, rfl, bu_none⟩, trivial⟩ ⟨lu kr kr, lu_hd (b' := 0) kr kr, lu kr kr, lu kr kr, lu kr kr, lu kr kr, trivial⟩)) (evening_alone_2_ok x0 c1 c2 _ [] 0 _ hr9)) ?_
   by_cases hk10 : (capOk 24 (c1.length + 1)) = true
   case neg => rw [if_neg hk10] at h; cases h
   rw [if_pos hk10] at h
   let p7 : Option Blk := mk 1 50 ((c1 ++ [r9]).map (cdL 1 (cdL 1 cdI)).enc)
   let p8 : Nat × AV := (3, hd 0 ((c1 ++ [r9]).map (cdL 1 (cdL 1 cdI)).enc))
   refine Sem.runS (s1 := ⟨Fr 24 [p4, p8, p2], [p7]⟩) ?_ ?_
   ·let p9 : Nat × AV := (18, hd 0 (c1.map (cdL 1 (cdL 1 cdI)).enc))
    refine RunS.segF (n := 24) he 2 [p4, p2, p9, (19, hd 1 (r9.map (cdL 1 cdI).enc))] [p1, mk 1 31 (r9.map (cdL 1 cdI).enc)] kr ?_
    refine RunS.wk (s1 := ⟨Fr 24 [p4, p2, p9, (19, .sl 1 (r9.map (cdL 1 cdI).enc))], [p1, none]⟩) (Wk.frzG 1 (.inl kr) ⟨.inr (.inl rfl), .inl rfl, trivial⟩ ⟨⟨.v (.int .i64 x0), kr, .inl rfl⟩, ⟨.v (.int .i64 c2), kr, .inl rfl⟩, ⟨hd 0 (c1.map (cdL 1 (cdL 1 cdI)).enc), kr, .inl rfl⟩, ⟨hd 1 (r9.map (cdL 1 cdI).enc), kr, fz_hd (t := 31) kr enc_ok⟩, trivial⟩) ?_
    let p10 : Option Blk := mk 1 50 ([r9].map (cdL 1 (cdL 1 cdI)).enc)
    refine RunS.segF (n := 24) he 1 [p4, p2, p9, (20, hd 2 ([r9].map (cdL 1 (cdL 1 cdI)).enc))] [p1, none, p10] kr ?_
    refine RunS.one he 0 rfl (op_w (wantedA_none rfl) rfl kr kr (w_append (a := hd 0 (c1.map (cdL 1 (cdL 1 cdI)).enc)) (b := hd 2 ([r9].map (cdL 1 (cdL 1 cdI)).enc)) kr kr (append_B (c := (cdL 1 (cdL 1 cdI))) (xs := c1) (vs := [r9]) (k := 1) (bytes := 24) (el := 50) kr kr (elems_hd (t := 50) kr) (List.cons_ne_nil _ _) kr hk10))) ?_
    refine RunS.segF (n := 24) he 1 [p4, (3, hd 3 ((c1 ++ [r9]).map (cdL 1 (cdL 1 cdI)).enc)), p2] [none, none, p10, p7] kr ?_
    exact RunS.done rfl (Wk.sel2 [3] kr kr kr ⟨⟨_, rfl, bu_mk⟩, trivial⟩ ⟨lu kr kr, lu_hd (b' := 3) kr kr, lu kr kr, trivial⟩)
   let p11 : Nat × AV := (6, .v (.int .i64 (wr .i64 (c2 + 1))))
   refine Sem.rg he [p4, p8, p11] [p7] ?_
   exact SemN.wk (s1 := ⟨Fr 24 [p4, p8, p11], [p7]⟩) (Wk.sel2 [0] kr kr kr ⟨⟨_, rfl, bu_mk⟩, trivial⟩ ⟨lu kr kr, lu_hd (b' := 0) kr kr, lu kr kr, trivial⟩) (ih (c1 ++ [r9]) (wr .i64 (c2 + 1)) h)
  ·rw [if_f hb3] at h
   refine Sem.exit ?_
   have hq := Option.some.inj h; subst hq
   exact ⟨rfl, (Wk.sel2 [0] kr kr kr ⟨⟨_, rfl, bu_mk⟩, trivial⟩ ⟨lu_hd (b' := 0) kr kr, trivial⟩)⟩
set_option maxHeartbeats 4000000 in
set_option maxRecDepth 100000 in
theorem evening_alone_sem (x0 : Int) (r : (List (List (List Int)))) (h : evening_alone x0 = some r) : Sem e_evening_alone ⟨none, false⟩ cb_evening_alone ⟨Fr 24 (pairs0 0 (cs_evening_alone.enc (x0, ()))), []⟩ fun e s' => (e = .normal ∨ e = .ret) ∧ ∃ xs, resA e_evening_alone.P s'.fr s'.hp Tryd.f105.results.toList = some xs ∧ retA xs = er_evening_alone r := by
 have he := e_evening_alone_ok
 unfold evening_alone at h
 let p1 : Nat × AV := (0, .v (.int .i64 x0))
 refine Sem.wkQ (Sem.wk (s1 := ⟨Fr 24 [p1], []⟩) (Wk.fr kr) ?_)
 refine Sem.sq he [p1] [] ?_
 refine Sem.sq he [p1, (3, .e0)] [] ?_
 refine Sem.seq ?_
 let p2 : Nat × AV := (6, .v (.int .i64 0))
 refine Sem.sq he [p1, (3, .e0), p2] [] ?_
 refine Sem.block ?_
 obtain ⟨r12, hr12, h⟩ := Option.bind_eq_some_iff.1 h
 refine Sem.loop (n := 100000) ?_
 let p3 : Option Blk := mk 1 50 ([].map (cdL 1 (cdL 1 cdI)).enc)
 let p4 : Nat × AV := (3, hd 0 ([].map (cdL 1 (cdL 1 cdI)).enc))
 refine Sem.cutN (SemN.wk (s1 := ⟨Fr 24 [p1, p4, p2], [p3]⟩) (Wk.trans (s1 := ⟨Fr 24 [p1, p4, p2], [p3]⟩) Wk.none (Wk.sel2 [0] kr kr kr ⟨⟨_, rfl, bu_none⟩, trivial⟩ ⟨lu kr kr, lu kr kr, lu kr kr, trivial⟩)) (evening_alone_1_ok x0 _ [] 0 _ hr12)) ?_
 refine Sem.sq he [(2, hd 0 (r12.map (cdL 1 (cdL 1 cdI)).enc))] [mk 1 50 (r12.map (cdL 1 (cdL 1 cdI)).enc)] ?_
 refine Sem.ret ?_
 have hq := Option.some.inj h; subst hq
 let p5 : Nat × AV := (2, .sl 1 (r12.map (cdL 1 (cdL 1 cdI)).enc))
 exact ⟨⟨Fr 24 [p5], []⟩, (Wk.trans (s1 := ⟨Fr 24 [p5], [none]⟩) (Wk.frzG 0 (.inl kr) ⟨.inl rfl, trivial⟩ ⟨⟨hd 0 (r12.map (cdL 1 (cdL 1 cdI)).enc), kr, fz_hd (t := 50) kr enc_ok⟩, trivial⟩) (Wk.sel2 [] kr kr kr trivial ⟨lu kr kr, trivial⟩)), .inr rfl, [.sl 1 (r12.map (cdL 1 (cdL 1 cdI)).enc)], kr, kr⟩
def t_evening_alone : List AV → Option AV := told cs_evening_alone (fun a => evening_alone a.1) er_evening_alone
theorem x_evening_alone : XOk 105 t_evening_alone := by
 refine EnvOk.x (E := e_evening_alone) (contract_ok e_evening_alone_ok (fn := Tryd.f105) (c := cb_evening_alone) ?h1 ?h2 ⟨Tryd.call105⟩ cs_evening_alone (fun a => evening_alone a.1) er_evening_alone (fun a => (by show 1 ≤ 24; decide)) ?h3 ?h4) rfl rfl
 case h1 => kernel_rfl
 case h2 => kernel_rfl
 case h3 => intro b; kernel_rfl
 case h4 => exact fun a b h => evening_alone_sem a.1 b h
/- trestle/evening.Pairs -/
noncomputable def e_evening_Pairs_d : Env := E0
theorem e_evening_Pairs_d_ok : EnvOk e_evening_Pairs_d := E0_ok
noncomputable def cb_evening_Pairs_d : Code := codeOf Tryd.f44
def evening_Pairs_d_j2 (x0 : Int) (c8 : Int) : Option (((List (List Int)))) :=
 if ((x0.tmod 2) == 1) = true then
 some ([([c8] : List Int)] : List (List Int))
 else
 some ([([(wr .i64 ((wr .i64 (x0 + (x0.tmod 2))) - 1)), c8] : List Int)] : List (List Int))
def evening_Pairs_d_3 (x0 : Int) (c8 : Int) : Nat → Int → (List (List Int)) → Option (((List (List Int))))
 | 0, _, _ => none
 | f + 1, c39, c41 =>
  if (decide (c39 < (wr .i64 ((wr .i64 (x0 + (x0.tmod 2))).tdiv 2)))) = true then
  if (wr .i64 ((wr .i64 (x0 + (x0.tmod 2))) - 1)) = (0 : Int) then none else
  if (wr .i64 ((wr .i64 (x0 + (x0.tmod 2))) - 1)) = (0 : Int) then none else
  if (capOk 24 (c41.length + ([([((wr .i64 (c8 + c39)).tmod (wr .i64 ((wr .i64 (x0 + (x0.tmod 2))) - 1))), ((wr .i64 ((wr .i64 ((wr .i64 (c8 - c39)) + (wr .i64 (x0 + (x0.tmod 2))))) - 1)).tmod (wr .i64 ((wr .i64 (x0 + (x0.tmod 2))) - 1)))] : List Int)] : List (List Int)).length)) = true then
  evening_Pairs_d_3 x0 c8 f (wr .i64 (c39 + 1)) (c41 ++ ([([((wr .i64 (c8 + c39)).tmod (wr .i64 ((wr .i64 (x0 + (x0.tmod 2))) - 1))), ((wr .i64 ((wr .i64 ((wr .i64 (c8 - c39)) + (wr .i64 (x0 + (x0.tmod 2))))) - 1)).tmod (wr .i64 ((wr .i64 (x0 + (x0.tmod 2))) - 1)))] : List Int)] : List (List Int)))
  else none
  else
  some c41
def evening_Pairs_d_1 (x0 : Int) : Nat → Int → (List (List (List Int))) → Option (((List (List (List Int)))))
 | 0, _, _ => none
 | f + 1, c8, c10 =>
  if (decide (c8 < (wr .i64 ((wr .i64 (x0 + (x0.tmod 2))) - 1)))) = true then
  (evening_Pairs_d_j2 x0 c8).bind fun r35 =>
  (evening_Pairs_d_3 x0 c8 100000 1 r35).bind fun r63 =>
  if (capOk 24 (c10.length + ([r63] : List (List (List Int))).length)) = true then
  evening_Pairs_d_1 x0 f (wr .i64 (c8 + 1)) (c10 ++ ([r63] : List (List (List Int))))
  else none
  else
  some c10
def evening_Pairs_d (x0 : Int) : Option (Int × (List (List (List Int)))) :=
 (if (decide (x0 < 2)) = true then some true else some (decide (x0 > 64))).bind fun j1 =>
 if j1 = true then
 some (90, ([] : (List (List (List Int)))))
 else
 (evening_Pairs_d_1 x0 100000 0 ([] : (List (List (List Int))))).bind fun r81 =>
 some (0, r81)
set_option maxHeartbeats 4000000 in
set_option maxRecDepth 100000 in
theorem evening_Pairs_d_j2_ok {L : List Asn} {hp : Hp} (x0 : Int) (c8 : Int) (e9 : AV) (c10 : (List (List (List Int)))) (e19 : AV) (r : ((List (List Int)))) (h : evening_Pairs_d_j2 x0 c8 = some r) (hT : T hp ((own_ (ocL 1 31 (ocL 1 3 (ocV cdI))) e19 ([([(wr .i64 ((wr .i64 (x0 + (x0.tmod 2))) - 1)), c8] : List Int)] : List (List Int))) :: (own_ (ocL 1 50 (ocL 1 31 (ocL 1 3 (ocV cdI)))) e9 c10) :: L)) : SemY e_evening_Pairs_d ⟨none, false⟩ (pc cb_evening_Pairs_d [1, 1, 1, 1, 0, 1, 0, 0, 1, 1, 0, 0, 1, 1, 0, 1]) ⟨Fr 66 [(0, .v (.int .i64 x0)), (4, .v (.int .i64 (wr .i64 (x0 + (x0.tmod 2))))), (5, e9), (6, .v (.int .i64 c8)), (7, e19), (20, .v (.int .i64 (wr .i64 ((wr .i64 (x0 + (x0.tmod 2))) - 1)))), (21, .v (.int .i64 c8)), (31, .v (.bool ((x0.tmod 2) == 1)))], hp⟩ (fun e s => e = .normal ∧ ∃ s2, (∃ (e31 : AV) (h' : Hp), T h' ((own_ (ocL 1 50 (ocL 1 31 (ocL 1 3 (ocV cdI)))) e9 c10) :: (own_ (ocL 1 31 (ocL 1 3 (ocV cdI))) e31 r) :: L) ∧ s2 = ⟨Fr 66 [(0, .v (.int .i64 x0)), (4, .v (.int .i64 (wr .i64 (x0 + (x0.tmod 2))))), (5, e9), (6, .v (.int .i64 c8)), (7, e31), (20, .v (.int .i64 (wr .i64 ((wr .i64 (x0 + (x0.tmod 2))) - 1)))), (21, .v (.int .i64 c8))], h'⟩) ∧ WkY e_evening_Pairs_d s s2) := by
 have he := e_evening_Pairs_d_ok
 unfold evening_Pairs_d_j2 at h
 refine SemY.cond (b := ((x0.tmod 2) == 1)) kr (fun hb21 => ?_) (fun hb21 => ?_)
 ·rw [if_pos hb21] at h
  refine SemY.regionL ?_
  refine RunL.sg he 1 ?_
  obtain ⟨e25, hp22, hb23, hT24⟩ := lit_ownB (P := Tryd.prog) (bytes := 8) (k := 1) (t := 3) (ty := 31) (xs := ([c8] : List Int)) (n := 1) (fit_V (k := 1) (fun _ => ⟨rfl, rfl, rfl⟩)) (els_leaf (c := cdI) (xs := ([c8] : List Int)) hT) rfl kr kr kr
  refine RunL.one he 0 rfl (op_n (wantedA_none rfl) rfl kr (n_lit (xs := enumA 0 [.v (.int .i64 c8)]) kr hb23)) ?_
  have hl30 : evLen Tryd.prog 31 e25 = some (eI ([c8] : List Int).length) := len_B hT24 kr
  obtain ⟨e29, hp26, hb27, hT28⟩ := lit_ownB (P := Tryd.prog) (bytes := 24) (k := 1) (t := 31) (ty := 50) (xs := ([([c8] : List Int)] : List (List Int))) (n := 1) fit_L (els_cons ((els_nil (o := (ocL 1 3 (ocV cdI))) hT24).front 1 rfl)) rfl kr kr kr
  refine RunL.one he 0 rfl (op_n (wantedA_none rfl) rfl kr (n_lit (xs := enumA 0 [e25]) kr hb27)) ?_
  refine RunL.sg he 1 ?_
  refine RunL.done rfl ?_
  have hq := Option.some.inj h; subst hq
  have hT33 := ((hT28.front 1 rfl).drop.front 1 rfl)
  exact ⟨rfl, _, ⟨e29, hp26, hT33, rfl⟩, (WkY.fr kr)⟩
 ·rw [if_f hb21] at h
  refine SemY.skip ?_
  have hq := Option.some.inj h; subst hq
  have hT34 := (hT.front 1 rfl)
  exact ⟨rfl, _, ⟨e19, hp, hT34, rfl⟩, (WkY.fr kr)⟩
set_option maxHeartbeats 4000000 in
set_option maxRecDepth 100000 in
theorem evening_Pairs_d_3_ok {L : List Asn} (x0 : Int) (c8 : Int) (e9 : AV) (c10 : (List (List (List Int)))) : ∀ (f : Nat) (c39 : Int) (c41 : (List (List Int))) (r : ((List (List Int)))), evening_Pairs_d_3 x0 c8 f c39 c41 = some r → ∀ (e40 : AV) (hp : Hp), T hp ((own_ (ocL 1 50 (ocL 1 31 (ocL 1 3 (ocV cdI)))) e9 c10) :: (own_ (ocL 1 31 (ocL 1 3 (ocV cdI))) e40 c41) :: L) → SemYN e_evening_Pairs_d ⟨none, false⟩ (pc cb_evening_Pairs_d [1, 1, 1, 1, 0, 1, 0, 0, 1, 1, 0, 0, 1, 1, 1, 0, 1, 0, 0]) f ⟨Fr 66 [(0, .v (.int .i64 x0)), (4, .v (.int .i64 (wr .i64 (x0 + (x0.tmod 2))))), (5, e9), (6, .v (.int .i64 c8)), (7, e40), (8, .v (.int .i64 c39)), (20, .v (.int .i64 (wr .i64 ((wr .i64 (x0 + (x0.tmod 2))) - 1)))), (21, .v (.int .i64 c8))], hp⟩ (fun e s => e = (.exit 2) ∧ ∃ s2, (∃ (e61 : AV) (h' : Hp), T h' ((own_ (ocL 1 50 (ocL 1 31 (ocL 1 3 (ocV cdI)))) e9 c10) :: (own_ (ocL 1 31 (ocL 1 3 (ocV cdI))) e61 r) :: L) ∧ s2 = ⟨Fr 66 [(0, .v (.int .i64 x0)), (4, .v (.int .i64 (wr .i64 (x0 + (x0.tmod 2))))), (5, e9), (7, e61), (20, .v (.int .i64 (wr .i64 ((wr .i64 (x0 + (x0.tmod 2))) - 1)))), (21, .v (.int .i64 c8))], h'⟩) ∧ WkY e_evening_Pairs_d s s2) := by
 have he := e_evening_Pairs_d_ok
 intro f
 induction f with
 | zero => intro c39 c41 r h; cases h
 | succ f ih0 =>
  intro c39 c41 r h e40 hp hT
  unfold evening_Pairs_d_3 at h
  refine SemYN.succ ?_
  refine SemY.seq ?_
  let p1 : Nat × AV := (20, .v (.int .i64 (wr .i64 ((wr .i64 (x0 + (x0.tmod 2))) - 1))))
  let p2 : Nat × AV := (4, .v (.int .i64 (wr .i64 (x0 + (x0.tmod 2)))))
  refine SemY.sq he [(0, .v (.int .i64 x0)), p2, (5, e9), (6, .v (.int .i64 c8)), (7, e40), (8, .v (.int .i64 c39)), p1, (21, .v (.int .i64 c8)), (38, .v (.bool (decide (c39 < (wr .i64 ((wr .i64 (x0 + (x0.tmod 2))).tdiv 2))))))] ?_
  refine SemY.cond (b := (decide (c39 < (wr .i64 ((wr .i64 (x0 + (x0.tmod 2))).tdiv 2))))) kr (fun hb42 => ?_) (fun hb42 => ?_)
  ·rw [if_pos hb42] at h
   refine SemY.skip ?_
   refine SemY.seq ?_
   refine SemY.block ?_
   refine SemY.runDT 18 he.mixed kr kr ?_
   refine RunDT.q (x := e40) rfl kr rfl (wantedA_none rfl) rfl kr kr ?_
   refine RunDT.q (x := .v (.int .i64 c8)) rfl kr rfl (wantedA_none rfl) rfl kr kr ?_
   refine RunDT.q (x := .v (.int .i64 c39)) rfl kr rfl (wantedA_none rfl) rfl kr kr ?_
   refine RunDT.q (x := .v (.int .i64 (wr .i64 (c8 + c39)))) rfl kr rfl (wantedA_none rfl) rfl kr kr ?_
   refine RunDT.q (x := .v (.int .i64 (wr .i64 (x0 + (x0.tmod 2))))) rfl kr rfl (wantedA_none rfl) rfl kr kr ?_
   refine RunDT.q (x := .v (.int .i64 (wr .i64 ((wr .i64 (x0 + (x0.tmod 2))) - 1)))) rfl kr rfl (wantedA_none rfl) rfl kr kr ?_
   by_cases hz43 : (wr .i64 ((wr .i64 (x0 + (x0.tmod 2))) - 1)) = (0 : Int)
   ·rw [if_pos hz43] at h; cases h
   rw [if_neg hz43] at h
   refine RunDT.q (x := .v (.int .i64 ((wr .i64 (c8 + c39)).tmod (wr .i64 ((wr .i64 (x0 + (x0.tmod 2))) - 1))))) rfl kr rfl (wantedA_none rfl) rfl (q_bin (a := .v (.int .i64 (wr .i64 (c8 + c39)))) (b := .v (.int .i64 (wr .i64 ((wr .i64 (x0 + (x0.tmod 2))) - 1)))) kr kr (bin_rem hz43)) kr ?_
   refine RunDT.q (x := .v (.int .i64 c8)) rfl kr rfl (wantedA_none rfl) rfl kr kr ?_
   refine RunDT.q (x := .v (.int .i64 c39)) rfl kr rfl (wantedA_none rfl) rfl kr kr ?_
   refine RunDT.q (x := .v (.int .i64 (wr .i64 (c8 - c39)))) rfl kr rfl (wantedA_none rfl) rfl kr kr ?_
   refine RunDT.q (x := .v (.int .i64 (wr .i64 (x0 + (x0.tmod 2))))) rfl kr rfl (wantedA_none rfl) rfl kr kr ?_
   refine RunDT.q (x := .v (.int .i64 (wr .i64 ((wr .i64 (c8 - c39)) + (wr .i64 (x0 + (x0.tmod 2))))))) rfl kr rfl (wantedA_none rfl) rfl kr kr ?_
   refine RunDT.q (x := .v (.int .i64 (wr .i64 ((wr .i64 ((wr .i64 (c8 - c39)) + (wr .i64 (x0 + (x0.tmod 2))))) - 1)))) rfl kr rfl (wantedA_none rfl) rfl kr kr ?_
   refine RunDT.q (x := .v (.int .i64 (wr .i64 (x0 + (x0.tmod 2))))) rfl kr rfl (wantedA_none rfl) rfl kr kr ?_
   refine RunDT.q (x := .v (.int .i64 (wr .i64 ((wr .i64 (x0 + (x0.tmod 2))) - 1)))) rfl kr rfl (wantedA_none rfl) rfl kr kr ?_
   by_cases hz44 : (wr .i64 ((wr .i64 (x0 + (x0.tmod 2))) - 1)) = (0 : Int)
   ·rw [if_pos hz44] at h; cases h
   rw [if_neg hz44] at h
   refine RunDT.q (x := .v (.int .i64 ((wr .i64 ((wr .i64 ((wr .i64 (c8 - c39)) + (wr .i64 (x0 + (x0.tmod 2))))) - 1)).tmod (wr .i64 ((wr .i64 (x0 + (x0.tmod 2))) - 1))))) rfl kr rfl (wantedA_none rfl) rfl (q_bin (a := .v (.int .i64 (wr .i64 ((wr .i64 ((wr .i64 (c8 - c39)) + (wr .i64 (x0 + (x0.tmod 2))))) - 1)))) (b := .v (.int .i64 (wr .i64 ((wr .i64 (x0 + (x0.tmod 2))) - 1)))) kr kr (bin_rem hz44)) kr ?_
   obtain ⟨e48, hp45, hb46, hT47⟩ := lit_ownB (P := Tryd.prog) (bytes := 8) (k := 1) (t := 3) (ty := 31) (xs := ([((wr .i64 (c8 + c39)).tmod (wr .i64 ((wr .i64 (x0 + (x0.tmod 2))) - 1))), ((wr .i64 ((wr .i64 ((wr .i64 (c8 - c39)) + (wr .i64 (x0 + (x0.tmod 2))))) - 1)).tmod (wr .i64 ((wr .i64 (x0 + (x0.tmod 2))) - 1)))] : List Int)) (n := 2) (fit_V (k := 1) (fun _ => ⟨rfl, rfl, rfl⟩)) (els_leaf (c := cdI) (xs := ([((wr .i64 (c8 + c39)).tmod (wr .i64 ((wr .i64 (x0 + (x0.tmod 2))) - 1))), ((wr .i64 ((wr .i64 ((wr .i64 (c8 - c39)) + (wr .i64 (x0 + (x0.tmod 2))))) - 1)).tmod (wr .i64 ((wr .i64 (x0 + (x0.tmod 2))) - 1)))] : List Int)) hT) rfl kr kr kr
   refine RunDT.new rfl (wantedA_none rfl) rfl (n_lit (xs := enumA 0 [.v (.int .i64 ((wr .i64 (c8 + c39)).tmod (wr .i64 ((wr .i64 (x0 + (x0.tmod 2))) - 1)))), .v (.int .i64 ((wr .i64 ((wr .i64 ((wr .i64 (c8 - c39)) + (wr .i64 (x0 + (x0.tmod 2))))) - 1)).tmod (wr .i64 ((wr .i64 (x0 + (x0.tmod 2))) - 1))))]) kr hb46) ?_
   have hl53 : evLen Tryd.prog 31 e48 = some (eI ([((wr .i64 (c8 + c39)).tmod (wr .i64 ((wr .i64 (x0 + (x0.tmod 2))) - 1))), ((wr .i64 ((wr .i64 ((wr .i64 (c8 - c39)) + (wr .i64 (x0 + (x0.tmod 2))))) - 1)).tmod (wr .i64 ((wr .i64 (x0 + (x0.tmod 2))) - 1)))] : List Int).length) := len_B hT47 kr
   obtain ⟨e52, hp49, hb50, hT51⟩ := lit_ownB (P := Tryd.prog) (bytes := 24) (k := 1) (t := 31) (ty := 50) (xs := ([([((wr .i64 (c8 + c39)).tmod (wr .i64 ((wr .i64 (x0 + (x0.tmod 2))) - 1))), ((wr .i64 ((wr .i64 ((wr .i64 (c8 - c39)) + (wr .i64 (x0 + (x0.tmod 2))))) - 1)).tmod (wr .i64 ((wr .i64 (x0 + (x0.tmod 2))) - 1)))] : List Int)] : List (List Int))) (n := 1) fit_L (els_cons ((els_nil (o := (ocL 1 3 (ocV cdI))) hT47).front 1 rfl)) rfl kr kr kr
   refine RunDT.new rfl (wantedA_none rfl) rfl (n_lit (xs := enumA 0 [e48]) kr hb50) ?_
   refine RunDT.tail rfl ?_
   by_cases hk58 : (capOk 24 (c41.length + ([([((wr .i64 (c8 + c39)).tmod (wr .i64 ((wr .i64 (x0 + (x0.tmod 2))) - 1))), ((wr .i64 ((wr .i64 ((wr .i64 (c8 - c39)) + (wr .i64 (x0 + (x0.tmod 2))))) - 1)).tmod (wr .i64 ((wr .i64 (x0 + (x0.tmod 2))) - 1)))] : List Int)] : List (List Int)).length)) = true
   case neg => rw [if_neg hk58] at h; cases h
   rw [if_pos hk58] at h
   have hT59 := ((hT51.front 0 rfl).front 2 rfl)
   obtain ⟨e57, hp54, hb55, hT56⟩ := app_ownB (P := Tryd.prog) (ty := 50) (ty2 := 50) (bytes := 24) hT59 kr kr hk58
   refine RunL.one he 0 rfl (op_w (wantedA_none rfl) rfl kr kr (w_append (a := e40) (b := e52) kr kr hb55)) ?_
   refine RunL.fin he [(0, .v (.int .i64 x0)), p2, (5, e9), (6, .v (.int .i64 c8)), (7, e57), (8, .v (.int .i64 c39)), p1, (21, .v (.int .i64 c8))] ?_
   refine SemY.regionL ?_
   refine RunL.sg he 3 ?_
   refine RunL.done rfl ?_
   have hT60 := (hT56.front 1 rfl)
   exact SemYN.wk (WkY.fr kr) (ih0 (wr .i64 (c39 + 1)) (c41 ++ ([([((wr .i64 (c8 + c39)).tmod (wr .i64 ((wr .i64 (x0 + (x0.tmod 2))) - 1))), ((wr .i64 ((wr .i64 ((wr .i64 (c8 - c39)) + (wr .i64 (x0 + (x0.tmod 2))))) - 1)).tmod (wr .i64 ((wr .i64 (x0 + (x0.tmod 2))) - 1)))] : List Int)] : List (List Int))) _ h e57 hp54 hT60)
  ·rw [if_f hb42] at h
   refine SemY.exit ?_
   have hq := Option.some.inj h; subst hq
   exact ⟨rfl, _, ⟨e40, hp, hT, rfl⟩, (WkY.fr kr)⟩
set_option maxHeartbeats 4000000 in
set_option maxRecDepth 100000 in
theorem evening_Pairs_d_1_ok {L : List Asn} (x0 : Int) : ∀ (f : Nat) (c8 : Int) (c10 : (List (List (List Int)))) (r : ((List (List (List Int))))), evening_Pairs_d_1 x0 f c8 c10 = some r → ∀ (e9 : AV) (hp : Hp), T hp ((own_ (ocL 1 50 (ocL 1 31 (ocL 1 3 (ocV cdI)))) e9 c10) :: L) → SemYN e_evening_Pairs_d ⟨none, false⟩ (pc cb_evening_Pairs_d [1, 1, 1, 1, 0, 1, 0, 0]) f ⟨Fr 66 [(0, .v (.int .i64 x0)), (4, .v (.int .i64 (wr .i64 (x0 + (x0.tmod 2))))), (5, e9), (20, .v (.int .i64 (wr .i64 ((wr .i64 (x0 + (x0.tmod 2))) - 1)))), (21, .v (.int .i64 c8))], hp⟩ (fun e s => e = (.exit 0) ∧ ∃ s2, (∃ (e79 : AV) (h' : Hp), T h' ((own_ (ocL 1 50 (ocL 1 31 (ocL 1 3 (ocV cdI)))) e79 r) :: L) ∧ s2 = ⟨Fr 66 [(5, e79)], h'⟩) ∧ WkY e_evening_Pairs_d s s2) := by
 have he := e_evening_Pairs_d_ok
 intro f
 induction f with
 | zero => intro c8 c10 r h; cases h
 | succ f ih0 =>
  intro c8 c10 r h e9 hp hT
  unfold evening_Pairs_d_1 at h
  refine SemYN.succ ?_
  let p1 : Nat × AV := (21, .v (.int .i64 c8))
  let p2 : Nat × AV := (20, .v (.int .i64 (wr .i64 ((wr .i64 (x0 + (x0.tmod 2))) - 1))))
  let p3 : Nat × AV := (4, .v (.int .i64 (wr .i64 (x0 + (x0.tmod 2)))))
  let p4 : Nat × AV := (0, .v (.int .i64 x0))
  refine SemY.sq he [p4, p3, (5, e9), p2, p1, (22, .v (.bool (decide (c8 < (wr .i64 ((wr .i64 (x0 + (x0.tmod 2))) - 1))))))] ?_
  refine SemY.seq ?_
  refine SemY.cond (b := (decide (c8 < (wr .i64 ((wr .i64 (x0 + (x0.tmod 2))) - 1))))) kr (fun hb11 => ?_) (fun hb11 => ?_)
  ·rw [if_pos hb11] at h
   refine SemY.skip ?_
   refine SemY.seq ?_
   refine SemY.block ?_
   let p5 : Nat × AV := (6, .v (.int .i64 c8))
   refine SemY.sq he [p4, p3, (5, e9), p5, p2, p1] ?_
   refine SemY.seq ?_
   refine SemY.regionL ?_
   refine RunL.sg he 3 ?_
   obtain ⟨e15, hp12, hb13, hT14⟩ := lit_ownB (P := Tryd.prog) (bytes := 8) (k := 1) (t := 3) (ty := 31) (xs := ([(wr .i64 ((wr .i64 (x0 + (x0.tmod 2))) - 1)), c8] : List Int)) (n := 2) (fit_V (k := 1) (fun _ => ⟨rfl, rfl, rfl⟩)) (els_leaf (c := cdI) (xs := ([(wr .i64 ((wr .i64 (x0 + (x0.tmod 2))) - 1)), c8] : List Int)) hT) rfl kr kr kr
   refine RunL.one he 0 rfl (op_n (wantedA_none rfl) rfl kr (n_lit (xs := enumA 0 [.v (.int .i64 (wr .i64 ((wr .i64 (x0 + (x0.tmod 2))) - 1))), .v (.int .i64 c8)]) kr hb13)) ?_
   have hl20 : evLen Tryd.prog 31 e15 = some (eI ([(wr .i64 ((wr .i64 (x0 + (x0.tmod 2))) - 1)), c8] : List Int).length) := len_B hT14 kr
   obtain ⟨e19, hp16, hb17, hT18⟩ := lit_ownB (P := Tryd.prog) (bytes := 24) (k := 1) (t := 31) (ty := 50) (xs := ([([(wr .i64 ((wr .i64 (x0 + (x0.tmod 2))) - 1)), c8] : List Int)] : List (List Int))) (n := 1) fit_L (els_cons ((els_nil (o := (ocL 1 3 (ocV cdI))) hT14).front 1 rfl)) rfl kr kr kr
   refine RunL.one he 0 rfl (op_n (wantedA_none rfl) rfl kr (n_lit (xs := enumA 0 [e15]) kr hb17)) ?_
   refine RunL.fin he [p4, p3, (5, e9), p5, (7, e19), p2, p1] ?_
   refine SemY.seq ?_
   refine SemY.sq he [p4, p3, (5, e9), p5, (7, e19), p2, p1, (31, .v (.bool ((x0.tmod 2) == 1)))] ?_
   obtain ⟨r35, hr35, h⟩ := Option.bind_eq_some_iff.1 h
   refine SemY.cutT (evening_Pairs_d_j2_ok x0 c8 e9 c10 e19 _ hr35 hT18) ?_
   rintro _ ⟨e36, hp37, hT38, rfl⟩
   refine SemY.seq ?_
   refine SemY.sq he [p4, p3, (5, e9), p5, (7, e36), (8, .v (.int .i64 1)), p2, p1] ?_
   refine SemY.block ?_
   refine SemY.loop (n := 100000) ?_
   obtain ⟨r63, hr63, h⟩ := Option.bind_eq_some_iff.1 h
   refine SemYN.cutT (SemYN.wk (WkY.fr kr) (evening_Pairs_d_3_ok x0 c8 e9 c10 _ 1 r35 _ hr63 e36 hp37 hT38)) ?_
   rintro _ ⟨e64, hp65, hT66, rfl⟩
   refine SemY.regionL ?_
   refine RunL.sg he 2 ?_
   have hT71 := (hT66.front 1 rfl)
   have hl72 : evLen Tryd.prog 50 e64 = some (eI r63.length) := len_B hT71 kr
   obtain ⟨e70, hp67, hb68, hT69⟩ := lit_ownB (P := Tryd.prog) (bytes := 24) (k := 1) (t := 50) (ty := 22) (xs := ([r63] : List (List (List Int)))) (n := 1) fit_L (els_cons ((els_nil (o := (ocL 1 31 (ocL 1 3 (ocV cdI)))) hT71).front 1 rfl)) rfl kr kr kr
   refine RunL.one he 0 rfl (op_n (wantedA_none rfl) rfl kr (n_lit (xs := enumA 0 [e64]) kr hb68)) ?_
   by_cases hk77 : (capOk 24 (c10.length + ([r63] : List (List (List Int))).length)) = true
   case neg => rw [if_neg hk77] at h; cases h
   rw [if_pos hk77] at h
   have hT78 := ((hT69.front 0 rfl).front 1 rfl)
   obtain ⟨e76, hp73, hb74, hT75⟩ := app_ownB (P := Tryd.prog) (ty := 22) (ty2 := 22) (bytes := 24) hT78 kr kr hk77
   refine RunL.one he 0 rfl (op_w (wantedA_none rfl) rfl kr kr (w_append (a := e9) (b := e70) kr kr hb74)) ?_
   refine RunL.fin he [p4, p3, (5, e76), p2, p1] ?_
   refine SemY.regionL ?_
   refine RunL.sg he 2 ?_
   refine RunL.done rfl ?_
   exact SemYN.wk (WkY.fr kr) (ih0 (wr .i64 (c8 + 1)) (c10 ++ ([r63] : List (List (List Int)))) _ h e76 hp73 hT75)
  ·rw [if_f hb11] at h
   refine SemY.exit ?_
   have hq := Option.some.inj h; subst hq
   exact ⟨rfl, _, ⟨e9, hp, hT, rfl⟩, (WkY.fr kr)⟩
set_option maxHeartbeats 4000000 in
set_option maxRecDepth 100000 in
theorem evening_Pairs_d_sem {L : List Asn} {hp : Hp} (x0 : Int) (r : Int × (List (List (List Int)))) (h : evening_Pairs_d x0 = some r) (hT : T hp (L)) : SemY e_evening_Pairs_d ⟨none, false⟩ cb_evening_Pairs_d ⟨Fr 66 (pairs0 0 [.v (.int .i64 x0)]), hp⟩ fun x s' => (x = .normal ∨ x = .ret) ∧ ∃ ys, resA e_evening_Pairs_d.P s'.fr s'.hp Tryd.f44.results.toList = some ys ∧ (fun v h' => ∃ (z0 : AV), v = .tp [z0, .v (.int .i64 r.1)] ∧ T h' ((own_ (ocL 1 50 (ocL 1 31 (ocL 1 3 (ocV cdI)))) z0 r.2) :: L)) (retA ys) s'.hp := by
 have he := e_evening_Pairs_d_ok
 unfold evening_Pairs_d at h
 let p1 : Nat × AV := (0, .v (.int .i64 x0))
 refine SemY.wkQ (SemY.wk (s1 := ⟨Fr 66 [p1], hp⟩) (WkY.fr kr) ?_)
 refine SemY.sq he [p1] ?_
 refine SemY.seq ?_
 refine SemY.seq ?_
 obtain ⟨j1, hj1, h⟩ := Option.bind_eq_some_iff.1 h
 refine SemY.regT (A := fun s1 => ∃ (h' : Hp), T h' (L) ∧ s1 = ⟨Fr 66 [p1, (14, .v (.bool j1))], h'⟩) ?_ ?_
 ·refine RunL.segF (n := 66) he 3 [p1, (11, .v (.bool (decide (x0 < 2))))] hp kr ?_
  rcases Bool.eq_false_or_eq_true (decide (x0 < 2)) with hc85 | hc85
  ·rw [if_pos hc85] at hj1
   rw [hc85]
   refine RunL.sg he 3 ?_
   have hq := Option.some.inj hj1; subst hq
   exact RunL.done rfl ⟨_, ⟨hp, hT, rfl⟩, (WkY.fr kr)⟩
  ·rw [if_f hc85] at hj1
   rw [hc85]
   refine RunL.sg he 3 ?_
   have hq := Option.some.inj hj1; subst hq
   exact RunL.done rfl ⟨_, ⟨hp, hT, rfl⟩, (WkY.fr kr)⟩
 rintro _ ⟨hp3, hT4, rfl⟩
 refine SemY.cond (b := j1) kr (fun hb5 => ?_) (fun hb5 => ?_)
 ·rw [if_pos hb5] at h
  refine SemY.sq he [(2, .e0), (3, .v (.int .i64 90))] ?_
  refine SemY.ret ?_
  have hq := Option.some.inj h; subst hq
  have hT6 := (T.e0 (k := 1) (ty := 50) (o := (ocL 1 31 (ocL 1 3 (ocV cdI)))) hT4)
  exact ⟨⟨Fr 66 [(2, .e0), (3, .v (.int .i64 90))], hp3⟩, (WkY.fr kr), .inr rfl, [.e0, .v (.int .i64 90)], kr, ⟨.e0, rfl, hT6⟩⟩
 ·rw [if_f hb5] at h
  refine SemY.skip ?_
  let p2 : Nat × AV := (4, .v (.int .i64 (wr .i64 (x0 + (x0.tmod 2)))))
  refine SemY.sq he [p1, p2] ?_
  refine SemY.sq he [p1, p2, (5, .e0)] ?_
  refine SemY.seq ?_
  refine SemY.sq he [p1, p2, (5, .e0), (20, .v (.int .i64 (wr .i64 ((wr .i64 (x0 + (x0.tmod 2))) - 1)))), (21, .v (.int .i64 0))] ?_
  refine SemY.block ?_
  have hT7 := (T.e0 (k := 1) (ty := 50) (o := (ocL 1 31 (ocL 1 3 (ocV cdI)))) hT4)
  refine SemY.loop (n := 100000) ?_
  obtain ⟨r81, hr81, h⟩ := Option.bind_eq_some_iff.1 h
  refine SemYN.cutT (SemYN.wk (WkY.fr kr) (evening_Pairs_d_1_ok x0 _ 0 ([] : (List (List (List Int)))) _ hr81 .e0 hp3 hT7)) ?_
  rintro _ ⟨e82, hp83, hT84, rfl⟩
  refine SemY.sq he [(2, e82), (3, .v (.int .i64 0))] ?_
  refine SemY.ret ?_
  have hq := Option.some.inj h; subst hq
  exact ⟨⟨Fr 66 [(2, e82), (3, .v (.int .i64 0))], hp83⟩, (WkY.fr kr), .inr rfl, [e82, .v (.int .i64 0)], kr, ⟨e82, rfl, hT84⟩⟩
def evening_Pairs_j2 (x0 : Int) (c4 : (List (List (List Int)))) (c5 : Int) : Option (((List (List Int)))) :=
 if ((x0.tmod 2) == 1) = true then
 some [[c5]]
 else
 some [[(wr .i64 ((wr .i64 (x0 + (x0.tmod 2))) - 1)), c5]]
def evening_Pairs_3 (x0 : Int) (c4 : (List (List (List Int)))) (c5 : Int) : Nat → (List (List Int)) → Int → Option (((List (List Int))))
 | 0, _, _ => none
 | f + 1, c10, c11 =>
  if (decide (c11 < (wr .i64 ((wr .i64 (x0 + (x0.tmod 2))).tdiv 2)))) = true then
  if (wr .i64 ((wr .i64 (x0 + (x0.tmod 2))) - 1)) = (0 : Int) then none else
  if (wr .i64 ((wr .i64 (x0 + (x0.tmod 2))) - 1)) = (0 : Int) then none else
  if (capOk 24 (c10.length + 1)) = true then
  evening_Pairs_3 x0 c4 c5 f (c10 ++ [[((wr .i64 (c5 + c11)).tmod (wr .i64 ((wr .i64 (x0 + (x0.tmod 2))) - 1))), ((wr .i64 ((wr .i64 ((wr .i64 (c5 - c11)) + (wr .i64 (x0 + (x0.tmod 2))))) - 1)).tmod (wr .i64 ((wr .i64 (x0 + (x0.tmod 2))) - 1)))]]) (wr .i64 (c11 + 1))
  else none
  else
  some c10
def evening_Pairs_1 (x0 : Int) : Nat → (List (List (List Int))) → Int → Option (((List (List (List Int)))))
 | 0, _, _ => none
 | f + 1, c4, c5 =>
  if (decide (c5 < (wr .i64 ((wr .i64 (x0 + (x0.tmod 2))) - 1)))) = true then
  (evening_Pairs_j2 x0 c4 c5).bind fun r9 =>
  (evening_Pairs_3 x0 c4 c5 100000 r9 1).bind fun r17 =>
  if (capOk 24 (c4.length + 1)) = true then
  evening_Pairs_1 x0 f (c4 ++ [r17]) (wr .i64 (c5 + 1))
  else none
  else
  some c4
def evening_Pairs (x0 : Int) : Option ((List (List (List Int))) × Int) :=
 (if (decide (x0 < 2)) = true then some true else some (decide (x0 > 64))).bind fun j2 =>
 if j2 = true then
 some ([], 90)
 else
 (evening_Pairs_1 x0 100000 [] 0).bind fun r20 =>
 some (r20, 0)
def cs_evening_Pairs : Cs (Int × Unit) := (csC cdI csN)
def er_evening_Pairs (r : (List (List (List Int))) × Int) : AV := .tp [(cdL 1 (cdL 1 (cdL 1 cdI))).enc r.1, cdI.enc r.2]
theorem dp_3 (n : Int) (a : List (List (List Int))) (c : Int) : ∀ (f : Nat) (i : Int) (l : List (List Int)), evening_Pairs_3 n a c f l i = evening_Pairs_d_3 n c f i l
 | 0, _, _ => rfl
 | f + 1, i, l => by
  unfold evening_Pairs_3 evening_Pairs_d_3
  simp only [List.length_singleton, dp_3 n a c f]
theorem dp_2 (n : Int) (a : List (List (List Int))) (c : Int) : evening_Pairs_j2 n a c = evening_Pairs_d_j2 n c := rfl
theorem dp_1 (n : Int) : ∀ (f : Nat) (i : Int) (l : List (List (List Int))), evening_Pairs_1 n f l i = evening_Pairs_d_1 n f i l
 | 0, _, _ => rfl
 | f + 1, i, l => by
  unfold evening_Pairs_1 evening_Pairs_d_1
  simp only [List.length_singleton, dp_1 n f, dp_2, dp_3]
theorem dpairs (n : Int) : evening_Pairs n = sw (evening_Pairs_d n) := by
 unfold evening_Pairs evening_Pairs_d
 simp only [dp_1]
 exact sw_if _ _ _
def t_evening_Pairs : List AV → Option AV := told cs_evening_Pairs (fun a => evening_Pairs a.1) er_evening_Pairs
theorem x_evening_Pairs : XOk 44 t_evening_Pairs := by
 refine EnvOk.x (E := e_evening_Pairs_d) (contract_ok e_evening_Pairs_d_ok (fn := Tryd.f44) (c := cb_evening_Pairs_d) ?h1 ?h2 ⟨Tryd.call44⟩ cs_evening_Pairs (fun a => evening_Pairs a.1) er_evening_Pairs (fun a => (by show 1 ≤ 66; decide)) ?h3 ?h4) rfl rfl
 case h1 => kernel_rfl
 case h2 => kernel_rfl
 case h3 => intro b; kernel_rfl
 case h4 =>
  intro a b h
  have hd : evening_Pairs_d a.1 = some (b.2, b.1) := sw_some (by rw [← dpairs]; exact h)
  exact sem_frz2 (r0 := 2) (r1 := 3) (by decide) (SemY.mono (evening_Pairs_d_sem (L := []) (hp := []) a.1 _ hd T.nil) fun e s' hs => hs)
/- trestle/evening.Kirkman -/
noncomputable def e_evening_Kirkman : Env := E0
theorem e_evening_Kirkman_ok : EnvOk e_evening_Kirkman := E0_ok
noncomputable def cb_evening_Kirkman : Code := codeOf Tryd.f106
noncomputable def e_evening_Kirkman_k1 : Env := E0
theorem e_evening_Kirkman_k1_ok : EnvOk e_evening_Kirkman_k1 := E0_ok
noncomputable def cb_evening_Kirkman_k1 : Code := codeOf Tryd.f125
def evening_Kirkman_k1 (y0 : (List (List (List Int)))) (y1 : Int) : Option (Int) :=
 some (y1.tmod 7)
set_option maxHeartbeats 4000000 in
set_option maxRecDepth 100000 in
theorem evening_Kirkman_k1_sem (y0 : (List (List (List Int)))) (y1 : Int) (r : Int) (h : evening_Kirkman_k1 y0 y1 = some r) : SemY e_evening_Kirkman_k1 ⟨none, false⟩ cb_evening_Kirkman_k1 ⟨Fr 5 (pairs0 0 [.v (.int .i64 y1)]), [mk 1 50 (y0.map (cdL 1 (cdL 1 cdI)).enc)]⟩ fun x s' => (x = .normal ∨ x = .ret) ∧ ∃ ys, resA e_evening_Kirkman_k1.P s'.fr s'.hp Tryd.f125.results.toList = some ys ∧ (retA ys = .v (.int .i64 r) ∧ s'.hp = [mk 1 50 (y0.map (cdL 1 (cdL 1 cdI)).enc)]) := by
 have he := e_evening_Kirkman_k1_ok
 unfold evening_Kirkman_k1 at h
 refine SemY.seq ?_
 refine SemY.region ?_
 let p1 : Option Blk := mk 1 50 (y0.map (cdL 1 (cdL 1 cdI)).enc)
 refine RunY.fin he [(0, .v (.int .i64 y1))] [p1] ?_
 refine SemY.seq ?_
 refine SemY.region ?_
 refine RunY.fin he [(2, .v (.int .i64 (y1.tmod 7)))] [p1] ?_
 refine SemY.ret ?_
 have hq := Option.some.inj h; subst hq
 exact ⟨.inr rfl, [.v (.int .i64 (y1.tmod 7))], kr, kr, kr⟩
noncomputable def e_evening_Kirkman_k2 : Env := E0
theorem e_evening_Kirkman_k2_ok : EnvOk e_evening_Kirkman_k2 := E0_ok
noncomputable def cb_evening_Kirkman_k2 : Code := codeOf Tryd.f126
def evening_Kirkman_k2 (y0 : (List (List (List Int)))) (y1 : Int) : Option (Int) :=
 some (wr .i64 (7 + (y1.tmod 7)))
set_option maxHeartbeats 4000000 in
set_option maxRecDepth 100000 in
theorem evening_Kirkman_k2_sem (y0 : (List (List (List Int)))) (y1 : Int) (r : Int) (h : evening_Kirkman_k2 y0 y1 = some r) : SemY e_evening_Kirkman_k2 ⟨none, false⟩ cb_evening_Kirkman_k2 ⟨Fr 6 (pairs0 0 [.v (.int .i64 y1)]), [mk 1 50 (y0.map (cdL 1 (cdL 1 cdI)).enc)]⟩ fun x s' => (x = .normal ∨ x = .ret) ∧ ∃ ys, resA e_evening_Kirkman_k2.P s'.fr s'.hp Tryd.f126.results.toList = some ys ∧ (retA ys = .v (.int .i64 r) ∧ s'.hp = [mk 1 50 (y0.map (cdL 1 (cdL 1 cdI)).enc)]) := by
 have he := e_evening_Kirkman_k2_ok
 unfold evening_Kirkman_k2 at h
 refine SemY.seq ?_
 refine SemY.region ?_
 let p1 : Option Blk := mk 1 50 (y0.map (cdL 1 (cdL 1 cdI)).enc)
 refine RunY.fin he [(0, .v (.int .i64 y1))] [p1] ?_
 refine SemY.seq ?_
 refine SemY.region ?_
 refine RunY.fin he [(2, .v (.int .i64 (wr .i64 (7 + (y1.tmod 7)))))] [p1] ?_
 refine SemY.ret ?_
 have hq := Option.some.inj h; subst hq
 exact ⟨.inr rfl, [.v (.int .i64 (wr .i64 (7 + (y1.tmod 7))))], kr, kr, kr⟩
noncomputable def e_evening_Kirkman_k3 : Env := E0
theorem e_evening_Kirkman_k3_ok : EnvOk e_evening_Kirkman_k3 := E0_ok
noncomputable def cb_evening_Kirkman_k3 : Code := codeOf Tryd.f125
def evening_Kirkman_k3 (y0 : (List (List (List Int)))) (y1 : (List Int)) (y2 : Int) : Option (Int) :=
 some (y2.tmod 7)
set_option maxHeartbeats 4000000 in
set_option maxRecDepth 100000 in
theorem evening_Kirkman_k3_sem (y0 : (List (List (List Int)))) (y1 : (List Int)) (y2 : Int) (r : Int) (h : evening_Kirkman_k3 y0 y1 y2 = some r) : SemY e_evening_Kirkman_k3 ⟨none, false⟩ cb_evening_Kirkman_k3 ⟨Fr 5 (pairs0 0 [.v (.int .i64 y2)]), [mk 1 50 (y0.map (cdL 1 (cdL 1 cdI)).enc), mk 1 3 (y1.map cdI.enc)]⟩ fun x s' => (x = .normal ∨ x = .ret) ∧ ∃ ys, resA e_evening_Kirkman_k3.P s'.fr s'.hp Tryd.f125.results.toList = some ys ∧ (retA ys = .v (.int .i64 r) ∧ s'.hp = [mk 1 50 (y0.map (cdL 1 (cdL 1 cdI)).enc), mk 1 3 (y1.map cdI.enc)]) := by
 have he := e_evening_Kirkman_k3_ok
 unfold evening_Kirkman_k3 at h
 refine SemY.seq ?_
 refine SemY.region ?_
 let p1 : Option Blk := mk 1 50 (y0.map (cdL 1 (cdL 1 cdI)).enc)
 refine RunY.fin he [(0, .v (.int .i64 y2))] [p1, mk 1 3 (y1.map cdI.enc)] ?_
 refine SemY.seq ?_
 refine SemY.region ?_
 refine RunY.fin he [(2, .v (.int .i64 (y2.tmod 7)))] [p1, mk 1 3 (y1.map cdI.enc)] ?_
 refine SemY.ret ?_
 have hq := Option.some.inj h; subst hq
 exact ⟨.inr rfl, [.v (.int .i64 (y2.tmod 7))], kr, kr, kr⟩
noncomputable def e_evening_Kirkman_k4 : Env := E0
theorem e_evening_Kirkman_k4_ok : EnvOk e_evening_Kirkman_k4 := E0_ok
noncomputable def cb_evening_Kirkman_k4 : Code := codeOf Tryd.f126
def evening_Kirkman_k4 (y0 : (List (List (List Int)))) (y1 : (List Int)) (y2 : Int) : Option (Int) :=
 some (wr .i64 (7 + (y2.tmod 7)))
set_option maxHeartbeats 4000000 in
set_option maxRecDepth 100000 in
theorem evening_Kirkman_k4_sem (y0 : (List (List (List Int)))) (y1 : (List Int)) (y2 : Int) (r : Int) (h : evening_Kirkman_k4 y0 y1 y2 = some r) : SemY e_evening_Kirkman_k4 ⟨none, false⟩ cb_evening_Kirkman_k4 ⟨Fr 6 (pairs0 0 [.v (.int .i64 y2)]), [mk 1 50 (y0.map (cdL 1 (cdL 1 cdI)).enc), mk 1 3 (y1.map cdI.enc)]⟩ fun x s' => (x = .normal ∨ x = .ret) ∧ ∃ ys, resA e_evening_Kirkman_k4.P s'.fr s'.hp Tryd.f126.results.toList = some ys ∧ (retA ys = .v (.int .i64 r) ∧ s'.hp = [mk 1 50 (y0.map (cdL 1 (cdL 1 cdI)).enc), mk 1 3 (y1.map cdI.enc)]) := by
 have he := e_evening_Kirkman_k4_ok
 unfold evening_Kirkman_k4 at h
 refine SemY.seq ?_
 refine SemY.region ?_
 let p1 : Option Blk := mk 1 50 (y0.map (cdL 1 (cdL 1 cdI)).enc)
 refine RunY.fin he [(0, .v (.int .i64 y2))] [p1, mk 1 3 (y1.map cdI.enc)] ?_
 refine SemY.seq ?_
 refine SemY.region ?_
 refine RunY.fin he [(2, .v (.int .i64 (wr .i64 (7 + (y2.tmod 7)))))] [p1, mk 1 3 (y1.map cdI.enc)] ?_
 refine SemY.ret ?_
 have hq := Option.some.inj h; subst hq
 exact ⟨.inr rfl, [.v (.int .i64 (wr .i64 (7 + (y2.tmod 7))))], kr, kr, kr⟩
noncomputable def e_evening_Kirkman_k5 : Env := E0
theorem e_evening_Kirkman_k5_ok : EnvOk e_evening_Kirkman_k5 := E0_ok
noncomputable def cb_evening_Kirkman_k5 : Code := codeOf Tryd.f125
def evening_Kirkman_k5 (y0 : (List (List (List Int)))) (y1 : (List Int)) (y2 : (List Int)) (y3 : Int) : Option (Int) :=
 some (y3.tmod 7)
set_option maxHeartbeats 4000000 in
set_option maxRecDepth 100000 in
theorem evening_Kirkman_k5_sem (y0 : (List (List (List Int)))) (y1 : (List Int)) (y2 : (List Int)) (y3 : Int) (r : Int) (h : evening_Kirkman_k5 y0 y1 y2 y3 = some r) : SemY e_evening_Kirkman_k5 ⟨none, false⟩ cb_evening_Kirkman_k5 ⟨Fr 5 (pairs0 0 [.v (.int .i64 y3)]), [mk 1 50 (y0.map (cdL 1 (cdL 1 cdI)).enc), mk 1 3 (y1.map cdI.enc), mk 1 3 (y2.map cdI.enc)]⟩ fun x s' => (x = .normal ∨ x = .ret) ∧ ∃ ys, resA e_evening_Kirkman_k5.P s'.fr s'.hp Tryd.f125.results.toList = some ys ∧ (retA ys = .v (.int .i64 r) ∧ s'.hp = [mk 1 50 (y0.map (cdL 1 (cdL 1 cdI)).enc), mk 1 3 (y1.map cdI.enc), mk 1 3 (y2.map cdI.enc)]) := by
 have he := e_evening_Kirkman_k5_ok
 unfold evening_Kirkman_k5 at h
 refine SemY.seq ?_
 refine SemY.region ?_
 let p1 : Option Blk := mk 1 50 (y0.map (cdL 1 (cdL 1 cdI)).enc)
 refine RunY.fin he [(0, .v (.int .i64 y3))] [p1, mk 1 3 (y1.map cdI.enc), mk 1 3 (y2.map cdI.enc)] ?_
 refine SemY.seq ?_
 refine SemY.region ?_
 refine RunY.fin he [(2, .v (.int .i64 (y3.tmod 7)))] [p1, mk 1 3 (y1.map cdI.enc), mk 1 3 (y2.map cdI.enc)] ?_
 refine SemY.ret ?_
 have hq := Option.some.inj h; subst hq
 exact ⟨.inr rfl, [.v (.int .i64 (y3.tmod 7))], kr, kr, kr⟩
noncomputable def e_evening_Kirkman_k6 : Env := E0
theorem e_evening_Kirkman_k6_ok : EnvOk e_evening_Kirkman_k6 := E0_ok
noncomputable def cb_evening_Kirkman_k6 : Code := codeOf Tryd.f126
def evening_Kirkman_k6 (y0 : (List (List (List Int)))) (y1 : (List Int)) (y2 : (List Int)) (y3 : Int) : Option (Int) :=
 some (wr .i64 (7 + (y3.tmod 7)))
set_option maxHeartbeats 4000000 in
set_option maxRecDepth 100000 in
theorem evening_Kirkman_k6_sem (y0 : (List (List (List Int)))) (y1 : (List Int)) (y2 : (List Int)) (y3 : Int) (r : Int) (h : evening_Kirkman_k6 y0 y1 y2 y3 = some r) : SemY e_evening_Kirkman_k6 ⟨none, false⟩ cb_evening_Kirkman_k6 ⟨Fr 6 (pairs0 0 [.v (.int .i64 y3)]), [mk 1 50 (y0.map (cdL 1 (cdL 1 cdI)).enc), mk 1 3 (y1.map cdI.enc), mk 1 3 (y2.map cdI.enc)]⟩ fun x s' => (x = .normal ∨ x = .ret) ∧ ∃ ys, resA e_evening_Kirkman_k6.P s'.fr s'.hp Tryd.f126.results.toList = some ys ∧ (retA ys = .v (.int .i64 r) ∧ s'.hp = [mk 1 50 (y0.map (cdL 1 (cdL 1 cdI)).enc), mk 1 3 (y1.map cdI.enc), mk 1 3 (y2.map cdI.enc)]) := by
 have he := e_evening_Kirkman_k6_ok
 unfold evening_Kirkman_k6 at h
 refine SemY.seq ?_
 refine SemY.region ?_
 let p1 : Option Blk := mk 1 50 (y0.map (cdL 1 (cdL 1 cdI)).enc)
 refine RunY.fin he [(0, .v (.int .i64 y3))] [p1, mk 1 3 (y1.map cdI.enc), mk 1 3 (y2.map cdI.enc)] ?_
 refine SemY.seq ?_
 refine SemY.region ?_
 refine RunY.fin he [(2, .v (.int .i64 (wr .i64 (7 + (y3.tmod 7)))))] [p1, mk 1 3 (y1.map cdI.enc), mk 1 3 (y2.map cdI.enc)] ?_
 refine SemY.ret ?_
 have hq := Option.some.inj h; subst hq
 exact ⟨.inr rfl, [.v (.int .i64 (wr .i64 (7 + (y3.tmod 7))))], kr, kr, kr⟩
noncomputable def e_evening_Kirkman_k7 : Env := E0
theorem e_evening_Kirkman_k7_ok : EnvOk e_evening_Kirkman_k7 := E0_ok
noncomputable def cb_evening_Kirkman_k7 : Code := codeOf Tryd.f125
def evening_Kirkman_k7 (y0 : (List (List (List Int)))) (y1 : (List Int)) (y2 : (List Int)) (y3 : (List Int)) (y4 : Int) : Option (Int) :=
 some (y4.tmod 7)
set_option maxHeartbeats 4000000 in
set_option maxRecDepth 100000 in
theorem evening_Kirkman_k7_sem (y0 : (List (List (List Int)))) (y1 : (List Int)) (y2 : (List Int)) (y3 : (List Int)) (y4 : Int) (r : Int) (h : evening_Kirkman_k7 y0 y1 y2 y3 y4 = some r) : SemY e_evening_Kirkman_k7 ⟨none, false⟩ cb_evening_Kirkman_k7 ⟨Fr 5 (pairs0 0 [.v (.int .i64 y4)]), [mk 1 50 (y0.map (cdL 1 (cdL 1 cdI)).enc), mk 1 3 (y1.map cdI.enc), mk 1 3 (y2.map cdI.enc), mk 1 3 (y3.map cdI.enc)]⟩ fun x s' => (x = .normal ∨ x = .ret) ∧ ∃ ys, resA e_evening_Kirkman_k7.P s'.fr s'.hp Tryd.f125.results.toList = some ys ∧ (retA ys = .v (.int .i64 r) ∧ s'.hp = [mk 1 50 (y0.map (cdL 1 (cdL 1 cdI)).enc), mk 1 3 (y1.map cdI.enc), mk 1 3 (y2.map cdI.enc), mk 1 3 (y3.map cdI.enc)]) := by
 have he := e_evening_Kirkman_k7_ok
 unfold evening_Kirkman_k7 at h
 refine SemY.seq ?_
 refine SemY.region ?_
 let p1 : Option Blk := mk 1 50 (y0.map (cdL 1 (cdL 1 cdI)).enc)
 refine RunY.fin he [(0, .v (.int .i64 y4))] [p1, mk 1 3 (y1.map cdI.enc), mk 1 3 (y2.map cdI.enc), mk 1 3 (y3.map cdI.enc)] ?_
 refine SemY.seq ?_
 refine SemY.region ?_
 refine RunY.fin he [(2, .v (.int .i64 (y4.tmod 7)))] [p1, mk 1 3 (y1.map cdI.enc), mk 1 3 (y2.map cdI.enc), mk 1 3 (y3.map cdI.enc)] ?_
 refine SemY.ret ?_
 have hq := Option.some.inj h; subst hq
 exact ⟨.inr rfl, [.v (.int .i64 (y4.tmod 7))], kr, kr, kr⟩
noncomputable def e_evening_Kirkman_k8 : Env := E0
theorem e_evening_Kirkman_k8_ok : EnvOk e_evening_Kirkman_k8 := E0_ok
noncomputable def cb_evening_Kirkman_k8 : Code := codeOf Tryd.f126
def evening_Kirkman_k8 (y0 : (List (List (List Int)))) (y1 : (List Int)) (y2 : (List Int)) (y3 : (List Int)) (y4 : Int) : Option (Int) :=
 some (wr .i64 (7 + (y4.tmod 7)))
set_option maxHeartbeats 4000000 in
set_option maxRecDepth 100000 in
theorem evening_Kirkman_k8_sem (y0 : (List (List (List Int)))) (y1 : (List Int)) (y2 : (List Int)) (y3 : (List Int)) (y4 : Int) (r : Int) (h : evening_Kirkman_k8 y0 y1 y2 y3 y4 = some r) : SemY e_evening_Kirkman_k8 ⟨none, false⟩ cb_evening_Kirkman_k8 ⟨Fr 6 (pairs0 0 [.v (.int .i64 y4)]), [mk 1 50 (y0.map (cdL 1 (cdL 1 cdI)).enc), mk 1 3 (y1.map cdI.enc), mk 1 3 (y2.map cdI.enc), mk 1 3 (y3.map cdI.enc)]⟩ fun x s' => (x = .normal ∨ x = .ret) ∧ ∃ ys, resA e_evening_Kirkman_k8.P s'.fr s'.hp Tryd.f126.results.toList = some ys ∧ (retA ys = .v (.int .i64 r) ∧ s'.hp = [mk 1 50 (y0.map (cdL 1 (cdL 1 cdI)).enc), mk 1 3 (y1.map cdI.enc), mk 1 3 (y2.map cdI.enc), mk 1 3 (y3.map cdI.enc)]) := by
 have he := e_evening_Kirkman_k8_ok
 unfold evening_Kirkman_k8 at h
 refine SemY.seq ?_
 refine SemY.region ?_
 let p1 : Option Blk := mk 1 50 (y0.map (cdL 1 (cdL 1 cdI)).enc)
 refine RunY.fin he [(0, .v (.int .i64 y4))] [p1, mk 1 3 (y1.map cdI.enc), mk 1 3 (y2.map cdI.enc), mk 1 3 (y3.map cdI.enc)] ?_
 refine SemY.seq ?_
 refine SemY.region ?_
 refine RunY.fin he [(2, .v (.int .i64 (wr .i64 (7 + (y4.tmod 7)))))] [p1, mk 1 3 (y1.map cdI.enc), mk 1 3 (y2.map cdI.enc), mk 1 3 (y3.map cdI.enc)] ?_
 refine SemY.ret ?_
 have hq := Option.some.inj h; subst hq
 exact ⟨.inr rfl, [.v (.int .i64 (wr .i64 (7 + (y4.tmod 7))))], kr, kr, kr⟩
noncomputable def e_evening_Kirkman_k9 : Env := E0
theorem e_evening_Kirkman_k9_ok : EnvOk e_evening_Kirkman_k9 := E0_ok
noncomputable def cb_evening_Kirkman_k9 : Code := codeOf Tryd.f126
def evening_Kirkman_k9 (y0 : (List (List (List Int)))) (y1 : (List Int)) (y2 : (List Int)) (y3 : (List Int)) (y4 : (List Int)) (y5 : Int) : Option (Int) :=
 some (wr .i64 (7 + (y5.tmod 7)))
set_option maxHeartbeats 4000000 in
set_option maxRecDepth 100000 in
theorem evening_Kirkman_k9_sem (y0 : (List (List (List Int)))) (y1 : (List Int)) (y2 : (List Int)) (y3 : (List Int)) (y4 : (List Int)) (y5 : Int) (r : Int) (h : evening_Kirkman_k9 y0 y1 y2 y3 y4 y5 = some r) : SemY e_evening_Kirkman_k9 ⟨none, false⟩ cb_evening_Kirkman_k9 ⟨Fr 6 (pairs0 0 [.v (.int .i64 y5)]), [mk 1 50 (y0.map (cdL 1 (cdL 1 cdI)).enc), mk 1 3 (y1.map cdI.enc), mk 1 3 (y2.map cdI.enc), mk 1 3 (y3.map cdI.enc), mk 1 3 (y4.map cdI.enc)]⟩ fun x s' => (x = .normal ∨ x = .ret) ∧ ∃ ys, resA e_evening_Kirkman_k9.P s'.fr s'.hp Tryd.f126.results.toList = some ys ∧ (retA ys = .v (.int .i64 r) ∧ s'.hp = [mk 1 50 (y0.map (cdL 1 (cdL 1 cdI)).enc), mk 1 3 (y1.map cdI.enc), mk 1 3 (y2.map cdI.enc), mk 1 3 (y3.map cdI.enc), mk 1 3 (y4.map cdI.enc)]) := by
 have he := e_evening_Kirkman_k9_ok
 unfold evening_Kirkman_k9 at h
 refine SemY.seq ?_
 refine SemY.region ?_
 let p1 : Option Blk := mk 1 50 (y0.map (cdL 1 (cdL 1 cdI)).enc)
 refine RunY.fin he [(0, .v (.int .i64 y5))] [p1, mk 1 3 (y1.map cdI.enc), mk 1 3 (y2.map cdI.enc), mk 1 3 (y3.map cdI.enc), mk 1 3 (y4.map cdI.enc)] ?_
 refine SemY.seq ?_
 refine SemY.region ?_
 refine RunY.fin he [(2, .v (.int .i64 (wr .i64 (7 + (y5.tmod 7)))))] [p1, mk 1 3 (y1.map cdI.enc), mk 1 3 (y2.map cdI.enc), mk 1 3 (y3.map cdI.enc), mk 1 3 (y4.map cdI.enc)] ?_
 refine SemY.ret ?_
 have hq := Option.some.inj h; subst hq
 exact ⟨.inr rfl, [.v (.int .i64 (wr .i64 (7 + (y5.tmod 7))))], kr, kr, kr⟩
def evening_Kirkman_1  : Nat → (List (List (List Int))) → Int → Option (((List (List (List Int)))))
 | 0, _, _ => none
 | f + 1, c1, c2 =>
  if (decide (c2 < 7)) = true then
  (evening_Kirkman_k1 c1 c2).bind fun v4 =>
  (evening_Kirkman_k2 c1 c2).bind fun v5 =>
  (evening_Kirkman_k3 c1 [14, v4, v5] (wr .i64 (1 + c2))).bind fun v6 =>
  (evening_Kirkman_k3 c1 [14, v4, v5] (wr .i64 (6 + c2))).bind fun v7 =>
  (evening_Kirkman_k4 c1 [14, v4, v5] (wr .i64 (5 + c2))).bind fun v8 =>
  (evening_Kirkman_k5 c1 [14, v4, v5] [v6, v7, v8] (wr .i64 (2 + c2))).bind fun v9 =>
  (evening_Kirkman_k5 c1 [14, v4, v5] [v6, v7, v8] (wr .i64 (5 + c2))).bind fun v10 =>
  (evening_Kirkman_k6 c1 [14, v4, v5] [v6, v7, v8] (wr .i64 (3 + c2))).bind fun v11 =>
  (evening_Kirkman_k7 c1 [14, v4, v5] [v6, v7, v8] [v9, v10, v11] (wr .i64 (3 + c2))).bind fun v12 =>
  (evening_Kirkman_k7 c1 [14, v4, v5] [v6, v7, v8] [v9, v10, v11] (wr .i64 (4 + c2))).bind fun v13 =>
  (evening_Kirkman_k8 c1 [14, v4, v5] [v6, v7, v8] [v9, v10, v11] (wr .i64 (6 + c2))).bind fun v14 =>
  (evening_Kirkman_k9 c1 [14, v4, v5] [v6, v7, v8] [v9, v10, v11] [v12, v13, v14] (wr .i64 (1 + c2))).bind fun v15 =>
  (evening_Kirkman_k9 c1 [14, v4, v5] [v6, v7, v8] [v9, v10, v11] [v12, v13, v14] (wr .i64 (2 + c2))).bind fun v16 =>
  (evening_Kirkman_k9 c1 [14, v4, v5] [v6, v7, v8] [v9, v10, v11] [v12, v13, v14] (wr .i64 (4 + c2))).bind fun v17 =>
  if (capOk 24 (c1.length + 1)) = true then
  evening_Kirkman_1 f (c1 ++ [[[14, v4, v5], [v6, v7, v8], [v9, v10, v11], [v12, v13, v14], [v15, v16, v17]]]) (wr .i64 (c2 + 1))
  else none
  else
  some c1
def evening_Kirkman  : Option ((List (List (List Int)))) :=
 (evening_Kirkman_1  100000 [] 0).bind fun r20 =>
 some r20
def cs_evening_Kirkman : Cs (Unit) := csN
def er_evening_Kirkman (r : (List (List (List Int)))) : AV := (cdL 1 (cdL 1 (cdL 1 cdI))).enc r
set_option maxHeartbeats 4000000 in
set_option maxRecDepth 100000 in
theorem evening_Kirkman_1_ok  : ∀ (f : Nat) (c1 : (List (List (List Int)))) (c2 : Int) (r : ((List (List (List Int))))), evening_Kirkman_1  f c1 c2 = some r → SemN e_evening_Kirkman ⟨none, false⟩ (pc cb_evening_Kirkman [1, 1, 1, 1, 0, 1, 0, 0]) f ⟨Fr 73 [(1, .fn 125 [] []), (2, .fn 126 [] []), (3, hd 0 (c1.map (cdL 1 (cdL 1 cdI)).enc)), (5, .v (.int .i64 c2))], [mk 1 50 (c1.map (cdL 1 (cdL 1 cdI)).enc)]⟩ (fun e s => e = (.exit 0) ∧ Wk e_evening_Kirkman s ⟨Fr 73 [(3, hd 0 (r.map (cdL 1 (cdL 1 cdI)).enc))], [mk 1 50 (r.map (cdL 1 (cdL 1 cdI)).enc)]⟩) := by
 have he := e_evening_Kirkman_ok
 intro f
 induction f with
 | zero => intro c1 c2 r h; cases h
 | succ f ih0 =>
  intro c1 c2 r h
  have ih := fun (c1 : (List (List (List Int)))) (c2 : Int) => ih0 c1 c2 r
  unfold evening_Kirkman_1 at h
  refine SemN.succ ?_
  let p1 : Option Blk := mk 1 50 (c1.map (cdL 1 (cdL 1 cdI)).enc)
  let p2 : Nat × AV := (5, .v (.int .i64 c2))
  let p3 : Nat × AV := (3, hd 0 (c1.map (cdL 1 (cdL 1 cdI)).enc))
  let p4 : Nat × AV := (2, .fn 126 [] [])
  let p5 : Nat × AV := (1, .fn 125 [] [])
  refine Sem.sq he [p5, p4, p3, p2, (6, .v (.bool (decide (c2 < 7))))] [p1] ?_
  refine Sem.seq ?_
  refine Sem.cond (b := (decide (c2 < 7))) kr (fun hb3 => ?_) (fun hb3 => ?_)
  ·rw [if_pos hb3] at h
   refine Sem.skip ?_
   refine Sem.seq ?_
   refine Sem.block ?_
   let p6 : Nat × AV := (4, .v (.int .i64 c2))
   refine Sem.sq he [p5, p4, p3, p6, p2] [p1] ?_
   obtain ⟨v4, hv4, h⟩ := Option.bind_eq_some_iff.1 h
   obtain ⟨v5, hv5, h⟩ := Option.bind_eq_some_iff.1 h
   obtain ⟨v6, hv6, h⟩ := Option.bind_eq_some_iff.1 h
   obtain ⟨v7, hv7, h⟩ := Option.bind_eq_some_iff.1 h
   obtain ⟨v8, hv8, h⟩ := Option.bind_eq_some_iff.1 h
   obtain ⟨v9, hv9, h⟩ := Option.bind_eq_some_iff.1 h
   obtain ⟨v10, hv10, h⟩ := Option.bind_eq_some_iff.1 h
   obtain ⟨v11, hv11, h⟩ := Option.bind_eq_some_iff.1 h
   obtain ⟨v12, hv12, h⟩ := Option.bind_eq_some_iff.1 h
   obtain ⟨v13, hv13, h⟩ := Option.bind_eq_some_iff.1 h
   obtain ⟨v14, hv14, h⟩ := Option.bind_eq_some_iff.1 h
   obtain ⟨v15, hv15, h⟩ := Option.bind_eq_some_iff.1 h
   obtain ⟨v16, hv16, h⟩ := Option.bind_eq_some_iff.1 h
   obtain ⟨v17, hv17, h⟩ := Option.bind_eq_some_iff.1 h
   by_cases hk18 : (capOk 24 (c1.length + 1)) = true
   case neg => rw [if_neg hk18] at h; cases h
   rw [if_pos hk18] at h
   let p7 : Option Blk := mk 1 50 ((c1 ++ [[[14, v4, v5], [v6, v7, v8], [v9, v10, v11], [v12, v13, v14], [v15, v16, v17]]]).map (cdL 1 (cdL 1 cdI)).enc)
   let p8 : Nat × AV := (3, hd 0 ((c1 ++ [[[14, v4, v5], [v6, v7, v8], [v9, v10, v11], [v12, v13, v14], [v15, v16, v17]]]).map (cdL 1 (cdL 1 cdI)).enc))
   refine Sem.runS (s1 := ⟨Fr 73 [p5, p4, p8, p2], [p7]⟩) ?_ ?_
   ·let p9 : Nat × AV := (8, hd 0 (c1.map (cdL 1 (cdL 1 cdI)).enc))
    refine RunS.segF (n := 73) he 3 [p5, p4, p6, p2, p9, (9, .fn 125 [] []), (10, .v (.int .i64 c2))] [p1] kr ?_
    refine RunS.inlY (fid := 125) (caps := []) (xs := [.v (.int .i64 c2)]) (fn := Tryd.f125) (Out := fun x h' => x = .v (.int .i64 v4) ∧ h' = [p1]) rfl rfl e_evening_Kirkman_k1_ok rfl rfl rfl (wantedA_none rfl) kr kr kr kr (by show 1 ≤ 5; decide) (evening_Kirkman_k1_sem c1 c2 _ hv4) ?_
    rintro x h' ⟨rfl, rfl⟩
    refine RunS.segF (n := 73) he 2 [p5, p4, p6, p2, p9, (11, .v (.int .i64 v4)), (12, .fn 126 [] []), (13, .v (.int .i64 c2))] [p1] kr ?_
    refine RunS.inlY (fid := 126) (caps := []) (xs := [.v (.int .i64 c2)]) (fn := Tryd.f126) (Out := fun x h' => x = .v (.int .i64 v5) ∧ h' = [p1]) rfl rfl e_evening_Kirkman_k2_ok rfl rfl rfl (wantedA_none rfl) kr kr kr kr (by show 1 ≤ 6; decide) (evening_Kirkman_k2_sem c1 c2 _ hv5) ?_
    rintro x h' ⟨rfl, rfl⟩
    let p10 : Option Blk := mk 1 3 ([14, v4, v5].map cdI.enc)
    let p11 : Nat × AV := (15, hd 1 ([14, v4, v5].map cdI.enc))
    refine RunS.segF (n := 73) he 4 [p5, p4, p6, p2, p9, p11, (16, .fn 125 [] []), (18, .v (.int .i64 (wr .i64 (1 + c2))))] [p1, p10] kr ?_
    refine RunS.inlY (fid := 125) (caps := []) (xs := [.v (.int .i64 (wr .i64 (1 + c2)))]) (fn := Tryd.f125) (Out := fun x h' => x = .v (.int .i64 v6) ∧ h' = [p1, p10]) rfl rfl e_evening_Kirkman_k3_ok rfl rfl rfl (wantedA_none rfl) kr kr kr kr (by show 1 ≤ 5; decide) (evening_Kirkman_k3_sem c1 [14, v4, v5] (wr .i64 (1 + c2)) _ hv6) ?_
    rintro x h' ⟨rfl, rfl⟩
    refine RunS.segF (n := 73) he 3 [p5, p4, p6, p2, p9, p11, (19, .v (.int .i64 v6)), (20, .fn 125 [] []), (22, .v (.int .i64 (wr .i64 (6 + c2))))] [p1, p10] kr ?_
    refine RunS.inlY (fid := 125) (caps := []) (xs := [.v (.int .i64 (wr .i64 (6 + c2)))]) (fn := Tryd.f125) (Out := fun x h' => x = .v (.int .i64 v7) ∧ h' = [p1, p10]) rfl rfl e_evening_Kirkman_k3_ok rfl rfl rfl (wantedA_none rfl) kr kr kr kr (by show 1 ≤ 5; decide) (evening_Kirkman_k3_sem c1 [14, v4, v5] (wr .i64 (6 + c2)) _ hv7) ?_
    rintro x h' ⟨rfl, rfl⟩
    refine RunS.segF (n := 73) he 3 [p5, p4, p6, p2, p9, p11, (19, .v (.int .i64 v6)), (23, .v (.int .i64 v7)), (24, .fn 126 [] []), (26, .v (.int .i64 (wr .i64 (5 + c2))))] [p1, p10] kr ?_
    refine RunS.inlY (fid := 126) (caps := []) (xs := [.v (.int .i64 (wr .i64 (5 + c2)))]) (fn := Tryd.f126) (Out := fun x h' => x = .v (.int .i64 v8) ∧ h' = [p1, p10]) rfl rfl e_evening_Kirkman_k4_ok rfl rfl rfl (wantedA_none rfl) kr kr kr kr (by show 1 ≤ 6; decide) (evening_Kirkman_k4_sem c1 [14, v4, v5] (wr .i64 (5 + c2)) _ hv8) ?_
    rintro x h' ⟨rfl, rfl⟩
    let p12 : Option Blk := mk 1 3 ([v6, v7, v8].map cdI.enc)
    let p13 : Nat × AV := (28, hd 2 ([v6, v7, v8].map cdI.enc))
    refine RunS.segF (n := 73) he 4 [p5, p4, p6, p2, p9, p11, p13, (29, .fn 125 [] []), (31, .v (.int .i64 (wr .i64 (2 + c2))))] [p1, p10, p12] kr ?_
    refine RunS.inlY (fid := 125) (caps := []) (xs := [.v (.int .i64 (wr .i64 (2 + c2)))]) (fn := Tryd.f125) (Out := fun x h' => x = .v (.int .i64 v9) ∧ h' = [p1, p10, p12]) rfl rfl e_evening_Kirkman_k5_ok rfl rfl rfl (wantedA_none rfl) kr kr kr kr (by show 1 ≤ 5; decide) (evening_Kirkman_k5_sem c1 [14, v4, v5] [v6, v7, v8] (wr .i64 (2 + c2)) _ hv9) ?_
    rintro x h' ⟨rfl, rfl⟩
    refine RunS.segF (n := 73) he 3 [p5, p4, p6, p2, p9, p11, p13, (32, .v (.int .i64 v9)), (33, .fn 125 [] []), (35, .v (.int .i64 (wr .i64 (5 + c2))))] [p1, p10, p12] kr ?_
    refine RunS.inlY (fid := 125) (caps := []) (xs := [.v (.int .i64 (wr .i64 (5 + c2)))]) (fn := Tryd.f125) (Out := fun x h' => x = .v (.int .i64 v10) ∧ h' = [p1, p10, p12]) rfl rfl e_evening_Kirkman_k5_ok rfl rfl rfl (wantedA_none rfl) kr kr kr kr (by show 1 ≤ 5; decide) (evening_Kirkman_k5_sem c1 [14, v4, v5] [v6, v7, v8] (wr .i64 (5 + c2)) _ hv10) ?_
    rintro x h' ⟨rfl, rfl⟩
    refine RunS.segF (n := 73) he 3 [p5, p4, p6, p2, p9, p11, p13, (32, .v (.int .i64 v9)), (36, .v (.int .i64 v10)), (37, .fn 126 [] []), (39, .v (.int .i64 (wr .i64 (3 + c2))))] [p1, p10, p12] kr ?_
    refine RunS.inlY (fid := 126) (caps := []) (xs := [.v (.int .i64 (wr .i64 (3 + c2)))]) (fn := Tryd.f126) (Out := fun x h' => x = .v (.int .i64 v11) ∧ h' = [p1, p10, p12]) rfl rfl e_evening_Kirkman_k6_ok rfl rfl rfl (wantedA_none rfl) kr kr kr kr (by show 1 ≤ 6; decide) (evening_Kirkman_k6_sem c1 [14, v4, v5] [v6, v7, v8] (wr .i64 (3 + c2)) _ hv11) ?_
    rintro x h' ⟨rfl, rfl⟩
    let p14 : Option Blk := mk 1 3 ([v9, v10, v11].map cdI.enc)
    let p15 : Nat × AV := (41, hd 3 ([v9, v10, v11].map cdI.enc))
    refine RunS.segF (n := 73) he 4 [p5, p4, p6, p2, p9, p11, p13, p15, (42, .fn 125 [] []), (44, .v (.int .i64 (wr .i64 (3 + c2))))] [p1, p10, p12, p14] kr ?_
    refine RunS.inlY (fid := 125) (caps := []) (xs := [.v (.int .i64 (wr .i64 (3 + c2)))]) (fn := Tryd.f125) (Out := fun x h' => x = .v (.int .i64 v12) ∧ h' = [p1, p10, p12, p14]) rfl rfl e_evening_Kirkman_k7_ok rfl rfl rfl (wantedA_none rfl) kr kr kr kr (by show 1 ≤ 5; decide) (evening_Kirkman_k7_sem c1 [14, v4, v5] [v6, v7, v8] [v9, v10, v11] (wr .i64 (3 + c2)) _ hv12) ?_
    rintro x h' ⟨rfl, rfl⟩
    refine RunS.segF (n := 73) he 3 [p5, p4, p6, p2, p9, p11, p13, p15, (45, .v (.int .i64 v12)), (46, .fn 125 [] []), (48, .v (.int .i64 (wr .i64 (4 + c2))))] [p1, p10, p12, p14] kr ?_
    refine RunS.inlY (fid := 125) (caps := []) (xs := [.v (.int .i64 (wr .i64 (4 + c2)))]) (fn := Tryd.f125) (Out := fun x h' => x = .v (.int .i64 v13) ∧ h' = [p1, p10, p12, p14]) rfl rfl e_evening_Kirkman_k7_ok rfl rfl rfl (wantedA_none rfl) kr kr kr kr (by show 1 ≤ 5; decide) (evening_Kirkman_k7_sem c1 [14, v4, v5] [v6, v7, v8] [v9, v10, v11] (wr .i64 (4 + c2)) _ hv13) ?_
    rintro x h' ⟨rfl, rfl⟩
    refine RunS.segF (n := 73) he 3 [p5, p4, p6, p2, p9, p11, p13, p15, (45, .v (.int .i64 v12)), (49, .v (.int .i64 v13)), (50, .fn 126 [] []), (52, .v (.int .i64 (wr .i64 (6 + c2))))] [p1, p10, p12, p14] kr ?_
    refine RunS.inlY (fid := 126) (caps := []) (xs := [.v (.int .i64 (wr .i64 (6 + c2)))]) (fn := Tryd.f126) (Out := fun x h' => x = .v (.int .i64 v14) ∧ h' = [p1, p10, p12, p14]) rfl rfl e_evening_Kirkman_k8_ok rfl rfl rfl (wantedA_none rfl) kr kr kr kr (by show 1 ≤ 6; decide) (evening_Kirkman_k8_sem c1 [14, v4, v5] [v6, v7, v8] [v9, v10, v11] (wr .i64 (6 + c2)) _ hv14) ?_
    rintro x h' ⟨rfl, rfl⟩
    let p16 : Option Blk := mk 1 3 ([v12, v13, v14].map cdI.enc)
    let p17 : Nat × AV := (54, hd 4 ([v12, v13, v14].map cdI.enc))
    refine RunS.segF (n := 73) he 4 [p5, p4, p6, p2, p9, p11, p13, p15, p17, (55, .fn 126 [] []), (57, .v (.int .i64 (wr .i64 (1 + c2))))] [p1, p10, p12, p14, p16] kr ?_
    refine RunS.inlY (fid := 126) (caps := []) (xs := [.v (.int .i64 (wr .i64 (1 + c2)))]) (fn := Tryd.f126) (Out := fun x h' => x = .v (.int .i64 v15) ∧ h' = [p1, p10, p12, p14, p16]) rfl rfl e_evening_Kirkman_k9_ok rfl rfl rfl (wantedA_none rfl) kr kr kr kr (by show 1 ≤ 6; decide) (evening_Kirkman_k9_sem c1 [14, v4, v5] [v6, v7, v8] [v9, v10, v11] [v12, v13, v14] (wr .i64 (1 + c2)) _ hv15) ?_
    rintro x h' ⟨rfl, rfl⟩
    refine RunS.segF (n := 73) he 3 [p5, p4, p6, p2, p9, p11, p13, p15, p17, (58, .v (.int .i64 v15)), (59, .fn 126 [] []), (61, .v (.int .i64 (wr .i64 (2 + c2))))] [p1, p10, p12, p14, p16] kr ?_
    refine RunS.inlY (fid := 126) (caps := []) (xs := [.v (.int .i64 (wr .i64 (2 + c2)))]) (fn := Tryd.f126) (Out := fun x h' => x = .v (.int .i64 v16) ∧ h' = [p1, p10, p12, p14, p16]) rfl rfl e_evening_Kirkman_k9_ok rfl rfl rfl (wantedA_none rfl) kr kr kr kr (by show 1 ≤ 6; decide) (evening_Kirkman_k9_sem c1 [14, v4, v5] [v6, v7, v8] [v9, v10, v11] [v12, v13, v14] (wr .i64 (2 + c2)) _ hv16) ?_
    rintro x h' ⟨rfl, rfl⟩
    refine RunS.segF (n := 73) he 3 [p5, p4, p2, p9, p11, p13, p15, p17, (58, .v (.int .i64 v15)), (62, .v (.int .i64 v16)), (63, .fn 126 [] []), (65, .v (.int .i64 (wr .i64 (4 + c2))))] [p1, p10, p12, p14, p16] kr ?_
    refine RunS.inlY (fid := 126) (caps := []) (xs := [.v (.int .i64 (wr .i64 (4 + c2)))]) (fn := Tryd.f126) (Out := fun x h' => x = .v (.int .i64 v17) ∧ h' = [p1, p10, p12, p14, p16]) rfl rfl e_evening_Kirkman_k9_ok rfl rfl rfl (wantedA_none rfl) kr kr kr kr (by show 1 ≤ 6; decide) (evening_Kirkman_k9_sem c1 [14, v4, v5] [v6, v7, v8] [v9, v10, v11] [v12, v13, v14] (wr .i64 (4 + c2)) _ hv17) ?_
    rintro x h' ⟨rfl, rfl⟩
    let p18 : Option Blk := some ⟨1, 50, [.rf 6 0 5 5], false⟩
    let p19 : Option Blk := mk 1 3 ([v15, v16, v17].map cdI.enc)
    let p20 : Nat × AV := (69, .rf 7 0 1 1)
    refine RunS.segF (n := 73) he 3 [p5, p4, p2, p9, p20] [p1, p10, p12, p14, p16, p19, some ⟨1, 31, [hd 1 ([14, v4, v5].map cdI.enc), hd 2 ([v6, v7, v8].map cdI.enc), hd 3 ([v9, v10, v11].map cdI.enc), hd 4 ([v12, v13, v14].map cdI.enc), hd 5 ([v15, v16, v17].map cdI.enc)], false⟩, p18] kr ?_
    refine RunS.wk (s1 := ⟨Fr 73 [p5, p4, p2, p9, p20], [p1, none, p12, p14, p16, p19, some ⟨1, 31, [.sl 1 ([14, v4, v5].map cdI.enc), hd 2 ([v6, v7, v8].map cdI.enc), hd 3 ([v9, v10, v11].map cdI.enc), hd 4 ([v12, v13, v14].map cdI.enc), hd 5 ([v15, v16, v17].map cdI.enc)], false⟩, p18]⟩) (Wk.frzG 1 (.inl kr) ⟨.inr (.inl rfl), .inl rfl, .inr (.inl rfl), .inr (.inl rfl), .inr (.inl rfl), .inr (.inl rfl), .inr (.inr ⟨_, _, _, _, rfl, rfl, ⟨fz_hd (t := 3) kr enc_ok, .inl rfl, .inl rfl, .inl rfl, .inl rfl, trivial⟩⟩), .inr (.inl rfl), trivial⟩ ⟨⟨.fn 125 [] [], kr, .inl rfl⟩, ⟨.fn 126 [] [], kr, .inl rfl⟩, ⟨.v (.int .i64 c2), kr, .inl rfl⟩, ⟨hd 0 (c1.map (cdL 1 (cdL 1 cdI)).enc), kr, .inl rfl⟩, ⟨.rf 7 0 1 1, kr, .inl rfl⟩, trivial⟩) ?_
    refine RunS.wk (s1 := ⟨Fr 73 [p5, p4, p2, p9, p20], [p1, none, none, p14, p16, p19, some ⟨1, 31, [.sl 1 ([14, v4, v5].map cdI.enc), .sl 1 ([v6, v7, v8].map cdI.enc), hd 3 ([v9, v10, v11].map cdI.enc), hd 4 ([v12, v13, v14].map cdI.enc), hd 5 ([v15, v16, v17].map cdI.enc)], false⟩, p18]⟩) (Wk.frzG 2 (.inl kr) ⟨.inr (.inl rfl), .inl rfl, .inl rfl, .inr (.inl rfl), .inr (.inl rfl), .inr (.inl rfl), .inr (.inr ⟨_, _, _, _, rfl, rfl, ⟨.inl rfl, fz_hd (t := 3) kr enc_ok, .inl rfl, .inl rfl, .inl rfl, trivial⟩⟩), .inr (.inl rfl), trivial⟩ ⟨⟨.fn 125 [] [], kr, .inl rfl⟩, ⟨.fn 126 [] [], kr, .inl rfl⟩, ⟨.v (.int .i64 c2), kr, .inl rfl⟩, ⟨hd 0 (c1.map (cdL 1 (cdL 1 cdI)).enc), kr, .inl rfl⟩, ⟨.rf 7 0 1 1, kr, .inl rfl⟩, trivial⟩) ?_
    refine RunS.wk (s1 := ⟨Fr 73 [p5, p4, p2, p9, p20], [p1, none, none, none, p16, p19, some ⟨1, 31, [.sl 1 ([14, v4, v5].map cdI.enc), .sl 1 ([v6, v7, v8].map cdI.enc), .sl 1 ([v9, v10, v11].map cdI.enc), hd 4 ([v12, v13, v14].map cdI.enc), hd 5 ([v15, v16, v17].map cdI.enc)], false⟩, p18]⟩) (Wk.frzG 3 (.inl kr) ⟨.inr (.inl rfl), .inl rfl, .inl rfl, .inl rfl, .inr (.inl rfl), .inr (.inl rfl), .inr (.inr ⟨_, _, _, _, rfl, rfl, ⟨.inl rfl, .inl rfl, fz_hd (t := 3) kr enc_ok, .inl rfl, .inl rfl, trivial⟩⟩), .inr (.inl rfl), trivial⟩ ⟨⟨.fn 125 [] [], kr, .inl rfl⟩, ⟨.fn 126 [] [], kr, .inl rfl⟩, ⟨.v (.int .i64 c2), kr, .inl rfl⟩, ⟨hd 0 (c1.map (cdL 1 (cdL 1 cdI)).enc), kr, .inl rfl⟩, ⟨.rf 7 0 1 1, kr, .inl rfl⟩, trivial⟩) ?_
    refine RunS.wk (s1 := ⟨Fr 73 [p5, p4, p2, p9, p20], [p1, none, none, none, none, p19, some ⟨1, 31, [.sl 1 ([14, v4, v5].map cdI.enc), .sl 1 ([v6, v7, v8].map cdI.enc), .sl 1 ([v9, v10, v11].map cdI.enc), .sl 1 ([v12, v13, v14].map cdI.enc), hd 5 ([v15, v16, v17].map cdI.enc)], false⟩, p18]⟩) (Wk.frzG 4 (.inl kr) ⟨.inr (.inl rfl), .inl rfl, .inl rfl, .inl rfl, .inl rfl, .inr (.inl rfl), .inr (.inr ⟨_, _, _, _, rfl, rfl, ⟨.inl rfl, .inl rfl, .inl rfl, fz_hd (t := 3) kr enc_ok, .inl rfl, trivial⟩⟩), .inr (.inl rfl), trivial⟩ ⟨⟨.fn 125 [] [], kr, .inl rfl⟩, ⟨.fn 126 [] [], kr, .inl rfl⟩, ⟨.v (.int .i64 c2), kr, .inl rfl⟩, ⟨hd 0 (c1.map (cdL 1 (cdL 1 cdI)).enc), kr, .inl rfl⟩, ⟨.rf 7 0 1 1, kr, .inl rfl⟩, trivial⟩) ?_
    refine RunS.wk (s1 := ⟨Fr 73 [p5, p4, p2, p9, p20], [p1, none, none, none, none, none, mk 1 31 ([[14, v4, v5], [v6, v7, v8], [v9, v10, v11], [v12, v13, v14], [v15, v16, v17]].map (cdL 1 cdI).enc), some ⟨1, 50, [hd 6 ([[14, v4, v5], [v6, v7, v8], [v9, v10, v11], [v12, v13, v14], [v15, v16, v17]].map (cdL 1 cdI).enc)], false⟩]⟩) (Wk.frzG 5 (.inl kr) ⟨.inr (.inl rfl), .inl rfl, .inl rfl, .inl rfl, .inl rfl, .inl rfl, .inr (.inr ⟨_, _, _, _, rfl, rfl, ⟨.inl rfl, .inl rfl, .inl rfl, .inl rfl, fz_hd (t := 3) kr enc_ok, trivial⟩⟩), .inr (.inr ⟨_, _, _, _, rfl, rfl, ⟨.inl rfl, trivial⟩⟩), trivial⟩ ⟨⟨.fn 125 [] [], kr, .inl rfl⟩, ⟨.fn 126 [] [], kr, .inl rfl⟩, ⟨.v (.int .i64 c2), kr, .inl rfl⟩, ⟨hd 0 (c1.map (cdL 1 (cdL 1 cdI)).enc), kr, .inl rfl⟩, ⟨.rf 7 0 1 1, kr, .inl rfl⟩, trivial⟩) ?_
    let p21 : Option Blk := mk 1 50 ([[[14, v4, v5], [v6, v7, v8], [v9, v10, v11], [v12, v13, v14], [v15, v16, v17]]].map (cdL 1 (cdL 1 cdI)).enc)
    refine RunS.wk (s1 := ⟨Fr 73 [p5, p4, p2, p9, (69, hd 7 ([[[14, v4, v5], [v6, v7, v8], [v9, v10, v11], [v12, v13, v14], [v15, v16, v17]]].map (cdL 1 (cdL 1 cdI)).enc))], [p1, none, none, none, none, none, none, p21]⟩) (Wk.frzG 6 (.inl kr) ⟨.inr (.inl rfl), .inl rfl, .inl rfl, .inl rfl, .inl rfl, .inl rfl, .inl rfl, .inr (.inr ⟨_, _, _, _, rfl, rfl, ⟨fz_hd (t := 31) kr enc_ok, trivial⟩⟩), trivial⟩ ⟨⟨.fn 125 [] [], kr, .inl rfl⟩, ⟨.fn 126 [] [], kr, .inl rfl⟩, ⟨.v (.int .i64 c2), kr, .inl rfl⟩, ⟨hd 0 (c1.map (cdL 1 (cdL 1 cdI)).enc), kr, .inl rfl⟩, ⟨.rf 7 0 1 1, kr, .inl rfl⟩, trivial⟩) ?_
    refine RunS.one he 0 rfl (op_w (wantedA_none rfl) rfl kr kr (w_append (a := hd 0 (c1.map (cdL 1 (cdL 1 cdI)).enc)) (b := hd 7 ([[[14, v4, v5], [v6, v7, v8], [v9, v10, v11], [v12, v13, v14], [v15, v16, v17]]].map (cdL 1 (cdL 1 cdI)).enc)) kr kr (append_B (c := (cdL 1 (cdL 1 cdI))) (xs := c1) (vs := [[[14, v4, v5], [v6, v7, v8], [v9, v10, v11], [v12, v13, v14], [v15, v16, v17]]]) (k := 1) (bytes := 24) (el := 50) kr kr (elems_hd (t := 50) kr) (List.cons_ne_nil _ _) kr hk18))) ?_
    refine RunS.segF (n := 73) he 1 [p5, p4, (3, hd 8 ((c1 ++ [[[14, v4, v5], [v6, v7, v8], [v9, v10, v11], [v12, v13, v14], [v15, v16, v17]]]).map (cdL 1 (cdL 1 cdI)).enc)), p2] [none, none, none, none, none, none, none, p21, p7] kr ?_
    exact RunS.done rfl (Wk.sel2 [8] kr kr kr ⟨⟨_, rfl, bu_mk⟩, trivial⟩ ⟨lu kr kr, lu kr kr, lu_hd (b' := 8) kr kr, lu kr kr, trivial⟩)
   let p22 : Nat × AV := (5, .v (.int .i64 (wr .i64 (c2 + 1))))
   refine Sem.rg he [p5, p4, p8, p22] [p7] ?_
   exact SemN.wk (s1 := ⟨Fr 73 [p5, p4, p8, p22], [p7]⟩) (Wk.sel2 [0] kr kr kr ⟨⟨_, rfl, bu_mk⟩, trivial⟩ ⟨lu kr kr, lu kr kr, lu_hd (b' := 0) kr kr, lu kr kr, trivial⟩) (ih (c1 ++ [[[14, v4, v5], [v6, v7, v8], [v9, v10, v11], [v12, v13, v14], [v15, v16, v17]]]) (wr .i64 (c2 + 1)) h)
  ·rw [if_f hb3] at h
   refine Sem.exit ?_
   have hq := Option.some.inj h; subst hq
   exact ⟨rfl, (Wk.sel2 [0] kr kr kr ⟨⟨_, rfl, bu_mk⟩, trivial⟩ ⟨lu_hd (b' := 0) kr kr, trivial⟩)⟩
set_option maxHeartbeats 4000000 in
set_option maxRecDepth 100000 in
theorem evening_Kirkman_sem  (r : (List (List (List Int)))) (h : evening_Kirkman  = some r) : Sem e_evening_Kirkman ⟨none, false⟩ cb_evening_Kirkman ⟨Fr 73 (pairs0 0 (cs_evening_Kirkman.enc (()))), []⟩ fun e s' => (e = .normal ∨ e = .ret) ∧ ∃ xs, resA e_evening_Kirkman.P s'.fr s'.hp Tryd.f106.results.toList = some xs ∧ retA xs = er_evening_Kirkman r := by
 have he := e_evening_Kirkman_ok
 unfold evening_Kirkman at h
 refine Sem.wkQ (Sem.wk (s1 := ⟨Fr 73 [], []⟩) (Wk.fr kr) ?_)
 refine Sem.sq he [] [] ?_
 let p1 : Nat × AV := (1, .fn 125 [] [])
 refine Sem.sq he [p1] [] ?_
 let p2 : Nat × AV := (2, .fn 126 [] [])
 refine Sem.sq he [p1, p2] [] ?_
 refine Sem.sq he [p1, p2, (3, .e0)] [] ?_
 refine Sem.seq ?_
 let p3 : Nat × AV := (5, .v (.int .i64 0))
 refine Sem.sq he [p1, p2, (3, .e0), p3] [] ?_
 refine Sem.block ?_
 obtain ⟨r20, hr20, h⟩ := Option.bind_eq_some_iff.1 h
 refine Sem.loop (n := 100000) ?_
 let p4 : Option Blk := mk 1 50 ([].map (cdL 1 (cdL 1 cdI)).enc)
 let p5 : Nat × AV := (3, hd 0 ([].map (cdL 1 (cdL 1 cdI)).enc))
 refine Sem.cutN (SemN.wk (s1 := ⟨Fr 73 [p1, p2, p5, p3], [p4]⟩) (Wk.trans (s1 := ⟨Fr 73 [p1, p2, p5, p3], [p4]⟩) Wk.none (Wk.sel2 [0] kr kr kr ⟨⟨_, rfl, bu_none⟩, trivial⟩ ⟨lu kr kr, lu kr kr, lu kr kr, lu kr kr, trivial⟩)) (evening_Kirkman_1_ok  _ [] 0 _ hr20)) ?_
 refine Sem.sq he [(0, hd 0 (r20.map (cdL 1 (cdL 1 cdI)).enc))] [mk 1 50 (r20.map (cdL 1 (cdL 1 cdI)).enc)] ?_
 refine Sem.ret ?_
 have hq := Option.some.inj h; subst hq
 let p6 : Nat × AV := (0, .sl 1 (r20.map (cdL 1 (cdL 1 cdI)).enc))
 exact ⟨⟨Fr 73 [p6], []⟩, (Wk.trans (s1 := ⟨Fr 73 [p6], [none]⟩) (Wk.frzG 0 (.inl kr) ⟨.inl rfl, trivial⟩ ⟨⟨hd 0 (r20.map (cdL 1 (cdL 1 cdI)).enc), kr, fz_hd (t := 50) kr enc_ok⟩, trivial⟩) (Wk.sel2 [] kr kr kr trivial ⟨lu kr kr, trivial⟩)), .inr rfl, [.sl 1 (r20.map (cdL 1 (cdL 1 cdI)).enc)], kr, kr⟩
def t_evening_Kirkman : List AV → Option AV := told cs_evening_Kirkman (fun a => evening_Kirkman ) er_evening_Kirkman
theorem x_evening_Kirkman : XOk 106 t_evening_Kirkman := by
 refine EnvOk.x (E := e_evening_Kirkman) (contract_ok e_evening_Kirkman_ok (fn := Tryd.f106) (c := cb_evening_Kirkman) ?h1 ?h2 ⟨Tryd.call106⟩ cs_evening_Kirkman (fun a => evening_Kirkman ) er_evening_Kirkman (fun a => (by show 0 ≤ 73; decide)) ?h3 ?h4) rfl rfl
 case h1 => kernel_rfl
 case h2 => kernel_rfl
 case h3 => intro b; kernel_rfl
 case h4 => exact fun a b h => evening_Kirkman_sem  b h
/- trestle/evening.fieldOf -/
noncomputable def e_evening_fieldOf : Env := E0
theorem e_evening_fieldOf_ok : EnvOk e_evening_fieldOf := E0_ok
noncomputable def cb_evening_fieldOf : Code := codeOf Tryd.f96
def evening_fieldOf_j5 (x0 : Int) : Option ((Bool)) :=
 if (x0 == 11) = true then
 some (x0 == 11)
 else
 some (x0 == 13)
def evening_fieldOf_j4 (x0 : Int) : Option ((Bool)) :=
 if (x0 == 7) = true then
 some (x0 == 7)
 else
 (evening_fieldOf_j5 x0).bind fun r11 =>
 some r11
def evening_fieldOf_j3 (x0 : Int) : Option ((Bool)) :=
 if (x0 == 5) = true then
 some (x0 == 5)
 else
 (evening_fieldOf_j4 x0).bind fun r12 =>
 some r12
def evening_fieldOf_j2 (x0 : Int) : Option ((Bool)) :=
 if (x0 == 3) = true then
 some (x0 == 3)
 else
 (evening_fieldOf_j3 x0).bind fun r13 =>
 some r13
def evening_fieldOf_j1 (x0 : Int) : Option ((Bool)) :=
 if (x0 == 2) = true then
 some (x0 == 2)
 else
 (evening_fieldOf_j2 x0).bind fun r14 =>
 some r14
def evening_fieldOf (x0 : Int) : Option ((Int × Int × (List Int)) × Bool) :=
 (evening_fieldOf_j1 x0).bind fun r15 =>
 if r15 = true then
 some ((x0, 1, [0]), true)
 else
 if (x0 == 4) = true then
 some ((2, 2, [1, 1]), true)
 else
 if (x0 == 8) = true then
 some ((2, 3, [1, 1, 0]), true)
 else
 if (x0 == 9) = true then
 some ((3, 2, [2, 0]), true)
 else
 if (x0 == 16) = true then
 some ((2, 4, [1, 1, 0, 0]), true)
 else
 some ((0, 0, []), false)
def cs_evening_fieldOf : Cs (Int × Unit) := (csC cdI csN)
def er_evening_fieldOf (r : (Int × Int × (List Int)) × Bool) : AV := .tp [(cdG3 cdI cdI (cdL 1 cdI) (fun _ => rfl) (fun _ => rfl) (fun _ => rfl)).enc r.1, cdB.enc r.2]
set_option maxHeartbeats 4000000 in
set_option maxRecDepth 100000 in
theorem evening_fieldOf_j5_ok (x0 : Int) (r : (Bool)) (h : evening_fieldOf_j5 x0 = some r) : Sem e_evening_fieldOf ⟨none, false⟩ (pc cb_evening_fieldOf [1, 0, 1, 0, 0, 1, 1, 1, 1, 1, 1, 1, 1, 1]) ⟨Fr 32 [(0, .v (.int .i64 x0)), (2, .pt 0 0 0), (4, .v (.int .i64 x0)), (5, .v (.bool (x0 == 11)))], [some ⟨3, 121, [.ag [.v (.int .i64 0), .v (.int .i64 0), .e0]], false⟩]⟩ (fun e s => e = .normal ∧ Wk e_evening_fieldOf s ⟨Fr 32 [(0, .v (.int .i64 x0)), (2, .pt 0 0 0), (4, .v (.int .i64 x0)), (5, .v (.bool r))], [some ⟨3, 121, [.ag [.v (.int .i64 0), .v (.int .i64 0), .e0]], false⟩]⟩) := by
 unfold evening_fieldOf_j5 at h
 refine Sem.cond (b := (x0 == 11)) kr (fun hb9 => ?_) (fun hb9 => ?_)
 ·rw [if_pos hb9] at h
  refine Sem.skip ?_
  have hq := Option.some.inj h; subst hq
  exact ⟨rfl, (Wk.sel2 [0] kr kr kr ⟨⟨_, rfl, bu_c kr kr⟩, trivial⟩ ⟨lu kr kr, lu kr kr, lu kr kr, lu kr kr, trivial⟩)⟩
 ·rw [if_f hb9] at h
  refine Sem.rg e_evening_fieldOf_ok [(0, .v (.int .i64 x0)), (2, .pt 0 0 0), (4, .v (.int .i64 x0)), (5, .v (.bool (x0 == 13)))] [some ⟨3, 121, [.ag [.v (.int .i64 0), .v (.int .i64 0), .e0]], false⟩] ?_
  have hq := Option.some.inj h; subst hq
  exact ⟨rfl, (Wk.sel2 [0] kr kr kr ⟨⟨_, rfl, bu_c kr kr⟩, trivial⟩ ⟨lu kr kr, lu kr kr, lu kr kr, lu kr kr, trivial⟩)⟩
set_option maxHeartbeats 4000000 in
set_option maxRecDepth 100000 in
theorem evening_fieldOf_j4_ok (x0 : Int) (r : (Bool)) (h : evening_fieldOf_j4 x0 = some r) : Sem e_evening_fieldOf ⟨none, false⟩ (pc cb_evening_fieldOf [1, 0, 1, 0, 0, 1, 1, 1, 1, 1, 1, 1]) ⟨Fr 32 [(0, .v (.int .i64 x0)), (2, .pt 0 0 0), (4, .v (.int .i64 x0)), (5, .v (.bool (x0 == 7)))], [some ⟨3, 121, [.ag [.v (.int .i64 0), .v (.int .i64 0), .e0]], false⟩]⟩ (fun e s => e = .normal ∧ Wk e_evening_fieldOf s ⟨Fr 32 [(0, .v (.int .i64 x0)), (2, .pt 0 0 0), (4, .v (.int .i64 x0)), (5, .v (.bool r))], [some ⟨3, 121, [.ag [.v (.int .i64 0), .v (.int .i64 0), .e0]], false⟩]⟩) := by
 unfold evening_fieldOf_j4 at h
 refine Sem.cond (b := (x0 == 7)) kr (fun hb7 => ?_) (fun hb7 => ?_)
 ·rw [if_pos hb7] at h
  refine Sem.skip ?_
  have hq := Option.some.inj h; subst hq
  exact ⟨rfl, (Wk.sel2 [0] kr kr kr ⟨⟨_, rfl, bu_c kr kr⟩, trivial⟩ ⟨lu kr kr, lu kr kr, lu kr kr, lu kr kr, trivial⟩)⟩
 ·rw [if_f hb7] at h
  refine Sem.sq e_evening_fieldOf_ok [(0, .v (.int .i64 x0)), (2, .pt 0 0 0), (4, .v (.int .i64 x0)), (5, .v (.bool (x0 == 11)))] [some ⟨3, 121, [.ag [.v (.int .i64 0), .v (.int .i64 0), .e0]], false⟩] ?_
  obtain ⟨r11, hr11, h⟩ := Option.bind_eq_some_iff.1 h
  refine Sem.cut (evening_fieldOf_j5_ok x0 _ hr11) ?_
  have hq := Option.some.inj h; subst hq
  exact ⟨rfl, (Wk.sel2 [0] kr kr kr ⟨⟨_, rfl, bu_c kr kr⟩, trivial⟩ ⟨lu kr kr, lu kr kr, lu kr kr, lu kr kr, trivial⟩)⟩
set_option maxHeartbeats 4000000 in
set_option maxRecDepth 100000 in
theorem evening_fieldOf_j3_ok (x0 : Int) (r : (Bool)) (h : evening_fieldOf_j3 x0 = some r) : Sem e_evening_fieldOf ⟨none, false⟩ (pc cb_evening_fieldOf [1, 0, 1, 0, 0, 1, 1, 1, 1, 1]) ⟨Fr 32 [(0, .v (.int .i64 x0)), (2, .pt 0 0 0), (4, .v (.int .i64 x0)), (5, .v (.bool (x0 == 5)))], [some ⟨3, 121, [.ag [.v (.int .i64 0), .v (.int .i64 0), .e0]], false⟩]⟩ (fun e s => e = .normal ∧ Wk e_evening_fieldOf s ⟨Fr 32 [(0, .v (.int .i64 x0)), (2, .pt 0 0 0), (4, .v (.int .i64 x0)), (5, .v (.bool r))], [some ⟨3, 121, [.ag [.v (.int .i64 0), .v (.int .i64 0), .e0]], false⟩]⟩) := by
 unfold evening_fieldOf_j3 at h
 refine Sem.cond (b := (x0 == 5)) kr (fun hb5 => ?_) (fun hb5 => ?_)
 ·rw [if_pos hb5] at h
  refine Sem.skip ?_
  have hq := Option.some.inj h; subst hq
  exact ⟨rfl, (Wk.sel2 [0] kr kr kr ⟨⟨_, rfl, bu_c kr kr⟩, trivial⟩ ⟨lu kr kr, lu kr kr, lu kr kr, lu kr kr, trivial⟩)⟩
 ·rw [if_f hb5] at h
  refine Sem.sq e_evening_fieldOf_ok [(0, .v (.int .i64 x0)), (2, .pt 0 0 0), (4, .v (.int .i64 x0)), (5, .v (.bool (x0 == 7)))] [some ⟨3, 121, [.ag [.v (.int .i64 0), .v (.int .i64 0), .e0]], false⟩] ?_
  obtain ⟨r12, hr12, h⟩ := Option.bind_eq_some_iff.1 h
  refine Sem.cut (evening_fieldOf_j4_ok x0 _ hr12) ?_
  have hq := Option.some.inj h; subst hq
  exact ⟨rfl, (Wk.sel2 [0] kr kr kr ⟨⟨_, rfl, bu_c kr kr⟩, trivial⟩ ⟨lu kr kr, lu kr kr, lu kr kr, lu kr kr, trivial⟩)⟩
set_option maxHeartbeats 4000000 in
set_option maxRecDepth 100000 in
theorem evening_fieldOf_j2_ok (x0 : Int) (r : (Bool)) (h : evening_fieldOf_j2 x0 = some r) : Sem e_evening_fieldOf ⟨none, false⟩ (pc cb_evening_fieldOf [1, 0, 1, 0, 0, 1, 1, 1]) ⟨Fr 32 [(0, .v (.int .i64 x0)), (2, .pt 0 0 0), (4, .v (.int .i64 x0)), (5, .v (.bool (x0 == 3)))], [some ⟨3, 121, [.ag [.v (.int .i64 0), .v (.int .i64 0), .e0]], false⟩]⟩ (fun e s => e = .normal ∧ Wk e_evening_fieldOf s ⟨Fr 32 [(0, .v (.int .i64 x0)), (2, .pt 0 0 0), (4, .v (.int .i64 x0)), (5, .v (.bool r))], [some ⟨3, 121, [.ag [.v (.int .i64 0), .v (.int .i64 0), .e0]], false⟩]⟩) := by
 unfold evening_fieldOf_j2 at h
 refine Sem.cond (b := (x0 == 3)) kr (fun hb3 => ?_) (fun hb3 => ?_)
 ·rw [if_pos hb3] at h
  refine Sem.skip ?_
  have hq := Option.some.inj h; subst hq
  exact ⟨rfl, (Wk.sel2 [0] kr kr kr ⟨⟨_, rfl, bu_c kr kr⟩, trivial⟩ ⟨lu kr kr, lu kr kr, lu kr kr, lu kr kr, trivial⟩)⟩
 ·rw [if_f hb3] at h
  refine Sem.sq e_evening_fieldOf_ok [(0, .v (.int .i64 x0)), (2, .pt 0 0 0), (4, .v (.int .i64 x0)), (5, .v (.bool (x0 == 5)))] [some ⟨3, 121, [.ag [.v (.int .i64 0), .v (.int .i64 0), .e0]], false⟩] ?_
  obtain ⟨r13, hr13, h⟩ := Option.bind_eq_some_iff.1 h
  refine Sem.cut (evening_fieldOf_j3_ok x0 _ hr13) ?_
  have hq := Option.some.inj h; subst hq
  exact ⟨rfl, (Wk.sel2 [0] kr kr kr ⟨⟨_, rfl, bu_c kr kr⟩, trivial⟩ ⟨lu kr kr, lu kr kr, lu kr kr, lu kr kr, trivial⟩)⟩
set_option maxHeartbeats 4000000 in
set_option maxRecDepth 100000 in
theorem evening_fieldOf_j1_ok (x0 : Int) (r : (Bool)) (h : evening_fieldOf_j1 x0 = some r) : Sem e_evening_fieldOf ⟨none, false⟩ (pc cb_evening_fieldOf [1, 0, 1, 0, 0, 1]) ⟨Fr 32 [(0, .v (.int .i64 x0)), (2, .pt 0 0 0), (4, .v (.int .i64 x0)), (5, .v (.bool (x0 == 2)))], [some ⟨3, 121, [.ag [.v (.int .i64 0), .v (.int .i64 0), .e0]], false⟩]⟩ (fun e s => e = .normal ∧ Wk e_evening_fieldOf s ⟨Fr 32 [(0, .v (.int .i64 x0)), (2, .pt 0 0 0), (4, .v (.int .i64 x0)), (5, .v (.bool r))], [some ⟨3, 121, [.ag [.v (.int .i64 0), .v (.int .i64 0), .e0]], false⟩]⟩) := by
 unfold evening_fieldOf_j1 at h
 refine Sem.cond (b := (x0 == 2)) kr (fun hb1 => ?_) (fun hb1 => ?_)
 ·rw [if_pos hb1] at h
  refine Sem.skip ?_
  have hq := Option.some.inj h; subst hq
  exact ⟨rfl, (Wk.sel2 [0] kr kr kr ⟨⟨_, rfl, bu_c kr kr⟩, trivial⟩ ⟨lu kr kr, lu kr kr, lu kr kr, lu kr kr, trivial⟩)⟩
 ·rw [if_f hb1] at h
  refine Sem.sq e_evening_fieldOf_ok [(0, .v (.int .i64 x0)), (2, .pt 0 0 0), (4, .v (.int .i64 x0)), (5, .v (.bool (x0 == 3)))] [some ⟨3, 121, [.ag [.v (.int .i64 0), .v (.int .i64 0), .e0]], false⟩] ?_
  obtain ⟨r14, hr14, h⟩ := Option.bind_eq_some_iff.1 h
  refine Sem.cut (evening_fieldOf_j2_ok x0 _ hr14) ?_
  have hq := Option.some.inj h; subst hq
  exact ⟨rfl, (Wk.sel2 [0] kr kr kr ⟨⟨_, rfl, bu_c kr kr⟩, trivial⟩ ⟨lu kr kr, lu kr kr, lu kr kr, lu kr kr, trivial⟩)⟩
set_option maxHeartbeats 4000000 in
set_option maxRecDepth 100000 in
theorem evening_fieldOf_sem (x0 : Int) (r : (Int × Int × (List Int)) × Bool) (h : evening_fieldOf x0 = some r) : Sem e_evening_fieldOf ⟨none, false⟩ cb_evening_fieldOf ⟨Fr 32 (pairs0 0 (cs_evening_fieldOf.enc (x0, ()))), []⟩ fun e s' => (e = .normal ∨ e = .ret) ∧ ∃ xs, resA e_evening_fieldOf.P s'.fr s'.hp Tryd.f96.results.toList = some xs ∧ retA xs = er_evening_fieldOf r := by
 have he := e_evening_fieldOf_ok
 unfold evening_fieldOf at h
 let p1 : Nat × AV := (0, .v (.int .i64 x0))
 refine Sem.wkQ (Sem.wk (s1 := ⟨Fr 32 [p1], []⟩) (Wk.fr kr) ?_)
 let p2 : Option Blk := some ⟨3, 121, [.ag [.v (.int .i64 0), .v (.int .i64 0), .e0]], false⟩
 let p3 : Nat × AV := (2, .pt 0 0 0)
 refine Sem.sq he [p1, p3] [p2] ?_
 refine Sem.seq ?_
 let p4 : Nat × AV := (4, .v (.int .i64 x0))
 refine Sem.sq he [p1, p3, p4] [p2] ?_
 refine Sem.block ?_
 refine Sem.seq ?_
 refine Sem.sq he [p1, p3, p4, (5, .v (.bool (x0 == 2)))] [p2] ?_
 obtain ⟨r15, hr15, h⟩ := Option.bind_eq_some_iff.1 h
 refine Sem.cut (evening_fieldOf_j1_ok x0 _ hr15) ?_
 refine Sem.cond (b := r15) kr (fun hb16 => ?_) (fun hb16 => ?_)
 ·rw [if_pos hb16] at h
  let p5 : Nat × AV := (3, .v (.bool true))
  refine Sem.sq he [p3, p5] [some ⟨3, 121, [.ag [.v (.int .i64 x0), .v (.int .i64 1), hd 1 ([0].map cdI.enc)]], false⟩, mk 1 3 ([0].map cdI.enc)] ?_
  refine Sem.ret ?_
  have hq := Option.some.inj h; subst hq
  let p6 : Option Blk := some ⟨3, 121, [.ag [.v (.int .i64 x0), .v (.int .i64 1), .sl 1 ([0].map cdI.enc)]], false⟩
  exact ⟨⟨Fr 32 [p3, p5], [p6]⟩, (Wk.trans (s1 := ⟨Fr 32 [p3, p5], [p6, none]⟩) (Wk.frzG2 1 (.inl kr) ⟨.inr (.inr ⟨_, _, _, _, rfl, rfl, ⟨(.inr ⟨_, _, rfl, rfl, ⟨.inl rfl, .inl rfl, fz_hd (t := 3) kr enc_ok, trivial⟩⟩), trivial⟩⟩), .inl rfl, trivial⟩ ⟨⟨.pt 0 0 0, kr, (.inl (.inl rfl))⟩, ⟨.v (.bool true), kr, (.inl (.inl rfl))⟩, trivial⟩) (Wk.sel2 [0] kr kr kr ⟨⟨_, rfl, bu_c kr kr⟩, trivial⟩ ⟨lu kr kr, lu kr kr, trivial⟩)), .inr rfl, [.ag [.v (.int .i64 x0), .v (.int .i64 1), .sl 1 ([0].map cdI.enc)], .v (.bool true)], kr, kr⟩
 ·rw [if_f hb16] at h
  refine Sem.sq he [p3, p4, (15, .v (.bool (x0 == 4)))] [p2] ?_
  refine Sem.cond (b := (x0 == 4)) kr (fun hb17 => ?_) (fun hb17 => ?_)
  ·rw [if_pos hb17] at h
   let p7 : Nat × AV := (3, .v (.bool true))
   refine Sem.sq he [p3, p7] [some ⟨3, 121, [.ag [.v (.int .i64 2), .v (.int .i64 2), hd 1 ([1, 1].map cdI.enc)]], false⟩, mk 1 3 ([1, 1].map cdI.enc)] ?_
   refine Sem.ret ?_
   have hq := Option.some.inj h; subst hq
   let p8 : Option Blk := some ⟨3, 121, [.ag [.v (.int .i64 2), .v (.int .i64 2), .sl 1 ([1, 1].map cdI.enc)]], false⟩
   exact ⟨⟨Fr 32 [p3, p7], [p8]⟩, (Wk.trans (s1 := ⟨Fr 32 [p3, p7], [p8, none]⟩) (Wk.frzG2 1 (.inl kr) ⟨.inr (.inr ⟨_, _, _, _, rfl, rfl, ⟨(.inr ⟨_, _, rfl, rfl, ⟨.inl rfl, .inl rfl, fz_hd (t := 3) kr enc_ok, trivial⟩⟩), trivial⟩⟩), .inl rfl, trivial⟩ ⟨⟨.pt 0 0 0, kr, (.inl (.inl rfl))⟩, ⟨.v (.bool true), kr, (.inl (.inl rfl))⟩, trivial⟩) (Wk.sel2 [0] kr kr kr ⟨⟨_, rfl, bu_c kr kr⟩, trivial⟩ ⟨lu kr kr, lu kr kr, trivial⟩)), .inr rfl, [.ag [.v (.int .i64 2), .v (.int .i64 2), .sl 1 ([1, 1].map cdI.enc)], .v (.bool true)], kr, kr⟩
  ·rw [if_f hb17] at h
   refine Sem.sq he [p3, p4, (19, .v (.bool (x0 == 8)))] [p2] ?_
   refine Sem.cond (b := (x0 == 8)) kr (fun hb18 => ?_) (fun hb18 => ?_)
   ·rw [if_pos hb18] at h
    refine Sem.sq he [p3, (3, .v (.bool true))] [some ⟨3, 121, [.ag [.v (.int .i64 2), .v (.int .i64 3), hd 1 ([1, 1, 0].map cdI.enc)]], false⟩, mk 1 3 ([1, 1, 0].map cdI.enc)] ?_
    refine Sem.ret ?_
    have hq := Option.some.inj h; subst hq
    let p9 : Option Blk := some ⟨3, 121, [.ag [.v (.int .i64 2), .v (.int .i64 3), .sl 1 ([1, 1, 0].map cdI.enc)]], false⟩
    exact ⟨⟨Fr 32 [p3, (3, .v (.bool true))], [p9]⟩, (Wk.trans (s1 := ⟨Fr 32 [p3, (3, .v (.bool true))], [p9, none]⟩) (Wk.frzG2 1 (.inl kr) ⟨.inr (.inr ⟨_, _, _, _, rfl, rfl, ⟨(.inr ⟨_, _, rfl, rfl, ⟨.inl rfl, .inl rfl, fz_hd (t := 3) kr enc_ok, trivial⟩⟩), trivial⟩⟩), .inl rfl, trivial⟩ ⟨⟨.pt 0 0 0, kr, (.inl (.inl rfl))⟩, ⟨.v (.bool true), kr, (.inl (.inl rfl))⟩, trivial⟩) (Wk.sel2 [0] kr kr kr ⟨⟨_, rfl, bu_c kr kr⟩, trivial⟩ ⟨lu kr kr, lu kr kr, trivial⟩)), .inr rfl, [.ag [.v (.int .i64 2), .v (.int .i64 3), .sl 1 ([1, 1, 0].map cdI.enc)], .v (.bool true)], kr, kr⟩
   ·rw [if_f hb18] at h
    refine Sem.sq he [p3, p4, (23, .v (.bool (x0 == 9)))] [p2] ?_
    refine Sem.cond (b := (x0 == 9)) kr (fun hb19 => ?_) (fun hb19 => ?_)
    ·rw [if_pos hb19] at h
     refine Sem.sq he [p3, (3, .v (.bool true))] [some ⟨3, 121, [.ag [.v (.int .i64 3), .v (.int .i64 2), hd 1 ([2, 0].map cdI.enc)]], false⟩, mk 1 3 ([2, 0].map cdI.enc)] ?_
     refine Sem.ret ?_
     have hq := Option.some.inj h; subst hq
     let p10 : Option Blk := some ⟨3, 121, [.ag [.v (.int .i64 3), .v (.int .i64 2), .sl 1 ([2, 0].map cdI.enc)]], false⟩
     exact ⟨⟨Fr 32 [p3, (3, .v (.bool true))], [p10]⟩, (Wk.trans (s1 := ⟨Fr 32 [p3, (3, .v (.bool true))], [p10, none]⟩) (Wk.frzG2 1 (.inl kr) ⟨.inr (.inr ⟨_, _, _, _, rfl, rfl, ⟨(.inr ⟨_, _, rfl, rfl, ⟨.inl rfl, .inl rfl, fz_hd (t := 3) kr enc_ok, trivial⟩⟩), trivial⟩⟩), .inl rfl, trivial⟩ ⟨⟨.pt 0 0 0, kr, (.inl (.inl rfl))⟩, ⟨.v (.bool true), kr, (.inl (.inl rfl))⟩, trivial⟩) (Wk.sel2 [0] kr kr kr ⟨⟨_, rfl, bu_c kr kr⟩, trivial⟩ ⟨lu kr kr, lu kr kr, trivial⟩)), .inr rfl, [.ag [.v (.int .i64 3), .v (.int .i64 2), .sl 1 ([2, 0].map cdI.enc)], .v (.bool true)], kr, kr⟩
    ·rw [if_f hb19] at h
     refine Sem.sq he [p3, (27, .v (.bool (x0 == 16)))] [p2] ?_
     refine Sem.cond (b := (x0 == 16)) kr (fun hb20 => ?_) (fun hb20 => ?_)
     ·rw [if_pos hb20] at h
      refine Sem.sq he [p3, (3, .v (.bool true))] [some ⟨3, 121, [.ag [.v (.int .i64 2), .v (.int .i64 4), hd 1 ([1, 1, 0, 0].map cdI.enc)]], false⟩, mk 1 3 ([1, 1, 0, 0].map cdI.enc)] ?_
      refine Sem.ret ?_
      have hq := Option.some.inj h; subst hq
      let p11 : Option Blk := some ⟨3, 121, [.ag [.v (.int .i64 2), .v (.int .i64 4), .sl 1 ([1, 1, 0, 0].map cdI.enc)]], false⟩
      exact ⟨⟨Fr 32 [p3, (3, .v (.bool true))], [p11]⟩, (Wk.trans (s1 := ⟨Fr 32 [p3, (3, .v (.bool true))], [p11, none]⟩) (Wk.frzG2 1 (.inl kr) ⟨.inr (.inr ⟨_, _, _, _, rfl, rfl, ⟨(.inr ⟨_, _, rfl, rfl, ⟨.inl rfl, .inl rfl, fz_hd (t := 3) kr enc_ok, trivial⟩⟩), trivial⟩⟩), .inl rfl, trivial⟩ ⟨⟨.pt 0 0 0, kr, (.inl (.inl rfl))⟩, ⟨.v (.bool true), kr, (.inl (.inl rfl))⟩, trivial⟩) (Wk.sel2 [0] kr kr kr ⟨⟨_, rfl, bu_c kr kr⟩, trivial⟩ ⟨lu kr kr, lu kr kr, trivial⟩)), .inr rfl, [.ag [.v (.int .i64 2), .v (.int .i64 4), .sl 1 ([1, 1, 0, 0].map cdI.enc)], .v (.bool true)], kr, kr⟩
     ·rw [if_f hb20] at h
      refine Sem.skip ?_
      let p12 : Nat × AV := (3, .v (.bool false))
      refine Sem.sq he [p3, p12] [p2] ?_
      refine Sem.ret ?_
      have hq := Option.some.inj h; subst hq
      let p13 : Option Blk := some ⟨3, 121, [.ag [.v (.int .i64 0), .v (.int .i64 0), .sl 1 ([].map cdI.enc)]], false⟩
      exact ⟨⟨Fr 32 [p3, p12], [p13]⟩, (Wk.trans (s1 := ⟨Fr 32 [p3, p12], [p2]⟩) (Wk.fr kr) (Wk.trans (s1 := ⟨Fr 32 [p3, p12], [p2, none]⟩) Wk.none (Wk.trans (s1 := ⟨Fr 32 [p3, p12], [p13, none]⟩) (Wk.frzG2 1 (.inr kr) ⟨.inr (.inr ⟨_, _, _, _, rfl, rfl, ⟨(.inr ⟨_, _, rfl, rfl, ⟨.inl rfl, .inl rfl, fz_e0, trivial⟩⟩), trivial⟩⟩), .inl rfl, trivial⟩ ⟨⟨.pt 0 0 0, kr, (.inl (.inl rfl))⟩, ⟨.v (.bool false), kr, (.inl (.inl rfl))⟩, trivial⟩) (Wk.sel2 [0] kr kr kr ⟨⟨_, rfl, bu_c kr kr⟩, trivial⟩ ⟨lu kr kr, lu kr kr, trivial⟩)))), .inr rfl, [.ag [.v (.int .i64 0), .v (.int .i64 0), .sl 1 ([].map cdI.enc)], .v (.bool false)], kr, kr⟩
def t_evening_fieldOf : List AV → Option AV := told cs_evening_fieldOf (fun a => evening_fieldOf a.1) er_evening_fieldOf
theorem x_evening_fieldOf : XOk 96 t_evening_fieldOf := by
 refine EnvOk.x (E := e_evening_fieldOf) (contract_ok e_evening_fieldOf_ok (fn := Tryd.f96) (c := cb_evening_fieldOf) ?h1 ?h2 ⟨Tryd.call96⟩ cs_evening_fieldOf (fun a => evening_fieldOf a.1) er_evening_fieldOf (fun a => (by show 1 ≤ 32; decide)) ?h3 ?h4) rfl rfl
 case h1 => kernel_rfl
 case h2 => kernel_rfl
 case h3 => intro b; kernel_rfl
 case h4 => exact fun a b h => evening_fieldOf_sem a.1 b h
/- trestle/evening.Net -/
noncomputable def e_evening_Net_d : Env := (((E0.withX 96 t_evening_fieldOf).withX 97 t_evening_field_mul).withX 101 t_evening_field_add)
theorem e_evening_Net_d_ok : EnvOk e_evening_Net_d := (EnvOk.withX (EnvOk.withX (EnvOk.withX E0_ok x_evening_fieldOf.1 x_evening_fieldOf.2) x_evening_field_mul.1 x_evening_field_mul.2) x_evening_field_add.1 x_evening_field_add.2)
noncomputable def cb_evening_Net_d : Code := codeOf Tryd.f60
def evening_Net_d_3 (x0 : Int) (x1 : Int) (v1 : (Int × Int × (List Int)) × Bool) (c21 : Int) (c26 : Int) : Nat → Int → (List Int) → Option (((List Int)))
 | 0, _, _ => none
 | f + 1, c31, c33 =>
  if (decide (c31 < x0)) = true then
  (evening_field_mul (v1.1.1, v1.1.2.1, v1.1.2.2) c21 c31).bind fun v35 =>
  (evening_field_add (v1.1.1, v1.1.2.1, v1.1.2.2) v35 c26).bind fun v36 =>
  if (capOk 8 (c33.length + ([(wr .i64 ((wr .i64 (c31 * x1)) + v36))] : List Int).length)) = true then
  evening_Net_d_3 x0 x1 v1 c21 c26 f (wr .i64 (c31 + 1)) (c33 ++ ([(wr .i64 ((wr .i64 (c31 * x1)) + v36))] : List Int))
  else none
  else
  some c33
def evening_Net_d_2 (x0 : Int) (x1 : Int) (v1 : (Int × Int × (List Int)) × Bool) (c21 : Int) : Nat → Int → (List (List Int)) → Option (((List (List Int))))
 | 0, _, _ => none
 | f + 1, c26, c28 =>
  if (decide (c26 < x1)) = true then
  (evening_Net_d_3 x0 x1 v1 c21 c26 100000 0 ([] : (List Int))).bind fun r51 =>
  if (capOk 24 (c28.length + ([r51] : List (List Int)).length)) = true then
  evening_Net_d_2 x0 x1 v1 c21 f (wr .i64 (c26 + 1)) (c28 ++ ([r51] : List (List Int)))
  else none
  else
  some c28
def evening_Net_d_1 (x0 : Int) (x1 : Int) (v1 : (Int × Int × (List Int)) × Bool) : Nat → Int → (List (List (List Int))) → Option (((List (List (List Int)))))
 | 0, _, _ => none
 | f + 1, c21, c23 =>
  if (decide (c21 < x1)) = true then
  (evening_Net_d_2 x0 x1 v1 c21 100000 0 ([] : (List (List Int)))).bind fun r71 =>
  if (capOk 24 (c23.length + ([r71] : List (List (List Int))).length)) = true then
  evening_Net_d_1 x0 x1 v1 f (wr .i64 (c21 + 1)) (c23 ++ ([r71] : List (List (List Int))))
  else none
  else
  some c23
def evening_Net_d (x0 : Int) (x1 : Int) : Option (Int × (List (List (List Int)))) :=
 (evening_fieldOf x1).bind fun v1 =>
 (if (!v1.2) = true then some true else if (decide (x0 < 1)) = true then some true else if (decide (x0 > x1)) = true then some true else some (decide ((wr .i64 (x0 * x1)) > 64))).bind fun j9 =>
 if j9 = true then
 some (90, ([] : (List (List (List Int)))))
 else
 (evening_Net_d_1 x0 x1 v1 100000 0 ([] : (List (List (List Int))))).bind fun r92 =>
 some (0, r92)
set_option maxHeartbeats 4000000 in
set_option maxRecDepth 100000 in
theorem evening_Net_d_3_ok {L : List Asn} (x0 : Int) (x1 : Int) (v1 : (Int × Int × (List Int)) × Bool) (c21 : Int) (c26 : Int) (e2 : AV) (e22 : AV) (c23 : (List (List (List Int)))) (e27 : AV) (c28 : (List (List Int))) : ∀ (f : Nat) (c31 : Int) (c33 : (List Int)) (r : ((List Int))), evening_Net_d_3 x0 x1 v1 c21 c26 f c31 c33 = some r → ∀ (e32 : AV) (hp : Hp), T hp ((cel e2 3 121 (.ag [.v (.int .i64 v1.1.1), .v (.int .i64 v1.1.2.1), .sl 1 (v1.1.2.2.map cdI.enc)])) :: (own_ (ocL 1 50 (ocL 1 31 (ocL 1 3 (ocV cdI)))) e22 c23) :: (own_ (ocL 1 31 (ocL 1 3 (ocV cdI))) e27 c28) :: (own_ (ocL 1 3 (ocV cdI)) e32 c33) :: L) → SemYN e_evening_Net_d ⟨none, false⟩ (pc cb_evening_Net_d [1, 1, 1, 1, 0, 1, 0, 0, 1, 1, 0, 0, 1, 1, 0, 1, 0, 0, 1, 1, 0, 0, 1, 1, 0, 1, 0, 0]) f ⟨Fr 74 [(0, .v (.int .i64 x0)), (1, .v (.int .i64 x1)), (6, e2), (8, e22), (9, .v (.int .i64 c21)), (10, e27), (11, .v (.int .i64 c26)), (12, e32), (36, .v (.int .i64 x1)), (37, .v (.int .i64 c21)), (40, .v (.int .i64 x1)), (41, .v (.int .i64 c26)), (44, .v (.int .i64 x0)), (45, .v (.int .i64 c31))], hp⟩ (fun e s => e = (.exit 4) ∧ ∃ s2, (∃ (e48 : AV) (h' : Hp), T h' ((cel e2 3 121 (.ag [.v (.int .i64 v1.1.1), .v (.int .i64 v1.1.2.1), .sl 1 (v1.1.2.2.map cdI.enc)])) :: (own_ (ocL 1 50 (ocL 1 31 (ocL 1 3 (ocV cdI)))) e22 c23) :: (own_ (ocL 1 31 (ocL 1 3 (ocV cdI))) e27 c28) :: (own_ (ocL 1 3 (ocV cdI)) e48 r) :: L) ∧ s2 = ⟨Fr 74 [(0, .v (.int .i64 x0)), (1, .v (.int .i64 x1)), (6, e2), (8, e22), (9, .v (.int .i64 c21)), (10, e27), (12, e48), (36, .v (.int .i64 x1)), (37, .v (.int .i64 c21)), (40, .v (.int .i64 x1)), (41, .v (.int .i64 c26))], h'⟩) ∧ WkY e_evening_Net_d s s2) := by
 have he := e_evening_Net_d_ok
 intro f
 induction f with
 | zero => intro c31 c33 r h; cases h
 | succ f ih0 =>
  intro c31 c33 r h e32 hp hT
  unfold evening_Net_d_3 at h
  refine SemYN.succ ?_
  let p1 : Nat × AV := (45, .v (.int .i64 c31))
  let p2 : Nat × AV := (44, .v (.int .i64 x0))
  let p3 : Nat × AV := (41, .v (.int .i64 c26))
  let p4 : Nat × AV := (40, .v (.int .i64 x1))
  let p5 : Nat × AV := (37, .v (.int .i64 c21))
  let p6 : Nat × AV := (36, .v (.int .i64 x1))
  let p7 : Nat × AV := (11, .v (.int .i64 c26))
  let p8 : Nat × AV := (9, .v (.int .i64 c21))
  let p9 : Nat × AV := (1, .v (.int .i64 x1))
  let p10 : Nat × AV := (0, .v (.int .i64 x0))
  refine SemY.sq he [p10, p9, (6, e2), (8, e22), p8, (10, e27), p7, (12, e32), p6, p5, p4, p3, p2, p1, (46, .v (.bool (decide (c31 < x0))))] ?_
  refine SemY.seq ?_
  refine SemY.cond (b := (decide (c31 < x0))) kr (fun hb34 => ?_) (fun hb34 => ?_)
  ·rw [if_pos hb34] at h
   refine SemY.skip ?_
   refine SemY.seq ?_
   refine SemY.block ?_
   refine SemY.sq he [p10, p9, (6, e2), (8, e22), p8, (10, e27), p7, (12, e32), (13, .v (.int .i64 c31)), p6, p5, p4, p3, p2, p1] ?_
   refine SemY.runDT 13 he.mixed kr kr ?_
   refine RunDT.q (x := e32) rfl kr rfl (wantedA_none rfl) rfl kr kr ?_
   refine RunDT.q (x := .v (.int .i64 c31)) rfl kr rfl (wantedA_none rfl) rfl kr kr ?_
   refine RunDT.q (x := .v (.int .i64 x1)) rfl kr rfl (wantedA_none rfl) rfl kr kr ?_
   refine RunDT.q (x := .v (.int .i64 (wr .i64 (c31 * x1)))) rfl kr rfl (wantedA_none rfl) rfl kr kr ?_
   refine RunDT.q (x := .ag [.v (.int .i64 v1.1.1), .v (.int .i64 v1.1.2.1), .sl 1 (v1.1.2.2.map cdI.enc)]) rfl kr rfl (wantedA_none rfl) rfl (q_load (p := e2) kr (ld_cel0 (y := .ag [.v (.int .i64 v1.1.1), .v (.int .i64 v1.1.2.1), .sl 1 (v1.1.2.2.map cdI.enc)]) (m := 3) (g := true) hT kr kr kr)) (ldOk_cel0 hT kr) ?_
   refine RunDT.q (x := .ag [.v (.int .i64 v1.1.1), .v (.int .i64 v1.1.2.1), .sl 1 (v1.1.2.2.map cdI.enc)]) rfl kr rfl (wantedA_none rfl) rfl (q_load (p := e2) kr (ld_cel0 (y := .ag [.v (.int .i64 v1.1.1), .v (.int .i64 v1.1.2.1), .sl 1 (v1.1.2.2.map cdI.enc)]) (m := 3) (g := true) hT kr kr kr)) (ldOk_cel0 hT kr) ?_
   refine RunDT.q (x := .v (.int .i64 c21)) rfl kr rfl (wantedA_none rfl) rfl kr kr ?_
   refine RunDT.q (x := .v (.int .i64 c31)) rfl kr rfl (wantedA_none rfl) rfl kr kr ?_
   obtain ⟨v35, hv35, h⟩ := Option.bind_eq_some_iff.1 h
   refine RunDT.callD he (fid := 97) (b := v35) (s := cs_evening_field_mul) (F := fun a => evening_field_mul a.1 a.2.1 a.2.2.1) (er := er_evening_field_mul) (xs := [.ag [.v (.int .i64 v1.1.1), .v (.int .i64 v1.1.2.1), .sl 1 (v1.1.2.2.map cdI.enc)], .v (.int .i64 c21), .v (.int .i64 c31)]) (a := ((v1.1.1, v1.1.2.1, v1.1.2.2), c21, c31, ())) rfl (wantedA_none rfl) kr kr kr (SeesD.cons (SeeD.enc (c := (cdG3 cdI cdI (cdL 1 cdI) (fun _ => rfl) (fun _ => rfl) (fun _ => rfl))) (v := (v1.1.1, v1.1.2.1, v1.1.2.2))) (SeesD.cons (SeeD.enc (c := cdI) (v := c21)) (SeesD.cons (SeeD.enc (c := cdI) (v := c31)) SeesD.nil))) kr hv35 ?_
   refine RunDT.q (x := .v (.int .i64 c26)) rfl kr rfl (wantedA_none rfl) rfl kr kr ?_
   obtain ⟨v36, hv36, h⟩ := Option.bind_eq_some_iff.1 h
   refine RunDT.callD he (fid := 101) (b := v36) (s := cs_evening_field_add) (F := fun a => evening_field_add a.1 a.2.1 a.2.2.1) (er := er_evening_field_add) (xs := [.ag [.v (.int .i64 v1.1.1), .v (.int .i64 v1.1.2.1), .sl 1 (v1.1.2.2.map cdI.enc)], .v (.int .i64 v35), .v (.int .i64 c26)]) (a := ((v1.1.1, v1.1.2.1, v1.1.2.2), v35, c26, ())) rfl (wantedA_none rfl) kr kr kr (SeesD.cons (SeeD.enc (c := (cdG3 cdI cdI (cdL 1 cdI) (fun _ => rfl) (fun _ => rfl) (fun _ => rfl))) (v := (v1.1.1, v1.1.2.1, v1.1.2.2))) (SeesD.cons (SeeD.enc (c := cdI) (v := v35)) (SeesD.cons (SeeD.enc (c := cdI) (v := c26)) SeesD.nil))) kr hv36 ?_
   refine RunDT.q (x := .v (.int .i64 (wr .i64 ((wr .i64 (c31 * x1)) + v36)))) rfl kr rfl (wantedA_none rfl) rfl kr kr ?_
   obtain ⟨e40, hp37, hb38, hT39⟩ := lit_ownB (P := Tryd.prog) (bytes := 8) (k := 1) (t := 3) (ty := 31) (xs := ([(wr .i64 ((wr .i64 (c31 * x1)) + v36))] : List Int)) (n := 1) (fit_V (k := 1) (fun _ => ⟨rfl, rfl, rfl⟩)) (els_leaf (c := cdI) (xs := ([(wr .i64 ((wr .i64 (c31 * x1)) + v36))] : List Int)) hT) rfl kr kr kr
   refine RunDT.new rfl (wantedA_none rfl) rfl (n_lit (xs := enumA 0 [.v (.int .i64 (wr .i64 ((wr .i64 (c31 * x1)) + v36)))]) kr hb38) ?_
   refine RunDT.tail rfl ?_
   by_cases hk45 : (capOk 8 (c33.length + ([(wr .i64 ((wr .i64 (c31 * x1)) + v36))] : List Int).length)) = true
   case neg => rw [if_neg hk45] at h; cases h
   rw [if_pos hk45] at h
   have hT46 := ((hT39.front 0 rfl).front 4 rfl)
   obtain ⟨e44, hp41, hb42, hT43⟩ := app_ownB (P := Tryd.prog) (ty := 31) (ty2 := 31) (bytes := 8) hT46 kr kr hk45
   refine RunL.one he 0 rfl (op_w (wantedA_none rfl) rfl kr kr (w_append (a := e32) (b := e40) kr kr hb42)) ?_
   refine RunL.fin he [p10, p9, (6, e2), (8, e22), p8, (10, e27), p7, (12, e44), p6, p5, p4, p3, p2, p1] ?_
   refine SemY.regionL ?_
   refine RunL.sg he 2 ?_
   refine RunL.done rfl ?_
   have hT47 := (((hT43.front 3 rfl).front 3 rfl).front 3 rfl)
   exact SemYN.wk (WkY.fr kr) (ih0 (wr .i64 (c31 + 1)) (c33 ++ ([(wr .i64 ((wr .i64 (c31 * x1)) + v36))] : List Int)) _ h e44 hp41 hT47)
  ·rw [if_f hb34] at h
   refine SemY.exit ?_
   have hq := Option.some.inj h; subst hq
   exact ⟨rfl, _, ⟨e32, hp, hT, rfl⟩, (WkY.fr kr)⟩
set_option maxHeartbeats 4000000 in
set_option maxRecDepth 100000 in
theorem evening_Net_d_2_ok {L : List Asn} (x0 : Int) (x1 : Int) (v1 : (Int × Int × (List Int)) × Bool) (c21 : Int) (e2 : AV) (e22 : AV) (c23 : (List (List (List Int)))) : ∀ (f : Nat) (c26 : Int) (c28 : (List (List Int))) (r : ((List (List Int)))), evening_Net_d_2 x0 x1 v1 c21 f c26 c28 = some r → ∀ (e27 : AV) (hp : Hp), T hp ((cel e2 3 121 (.ag [.v (.int .i64 v1.1.1), .v (.int .i64 v1.1.2.1), .sl 1 (v1.1.2.2.map cdI.enc)])) :: (own_ (ocL 1 50 (ocL 1 31 (ocL 1 3 (ocV cdI)))) e22 c23) :: (own_ (ocL 1 31 (ocL 1 3 (ocV cdI))) e27 c28) :: L) → SemYN e_evening_Net_d ⟨none, false⟩ (pc cb_evening_Net_d [1, 1, 1, 1, 0, 1, 0, 0, 1, 1, 0, 0, 1, 1, 0, 1, 0, 0]) f ⟨Fr 74 [(0, .v (.int .i64 x0)), (1, .v (.int .i64 x1)), (6, e2), (8, e22), (9, .v (.int .i64 c21)), (10, e27), (36, .v (.int .i64 x1)), (37, .v (.int .i64 c21)), (40, .v (.int .i64 x1)), (41, .v (.int .i64 c26))], hp⟩ (fun e s => e = (.exit 2) ∧ ∃ s2, (∃ (e68 : AV) (h' : Hp), T h' ((cel e2 3 121 (.ag [.v (.int .i64 v1.1.1), .v (.int .i64 v1.1.2.1), .sl 1 (v1.1.2.2.map cdI.enc)])) :: (own_ (ocL 1 50 (ocL 1 31 (ocL 1 3 (ocV cdI)))) e22 c23) :: (own_ (ocL 1 31 (ocL 1 3 (ocV cdI))) e68 r) :: L) ∧ s2 = ⟨Fr 74 [(0, .v (.int .i64 x0)), (1, .v (.int .i64 x1)), (6, e2), (8, e22), (10, e68), (36, .v (.int .i64 x1)), (37, .v (.int .i64 c21))], h'⟩) ∧ WkY e_evening_Net_d s s2) := by
 have he := e_evening_Net_d_ok
 intro f
 induction f with
 | zero => intro c26 c28 r h; cases h
 | succ f ih0 =>
  intro c26 c28 r h e27 hp hT
  unfold evening_Net_d_2 at h
  refine SemYN.succ ?_
  let p1 : Nat × AV := (41, .v (.int .i64 c26))
  let p2 : Nat × AV := (40, .v (.int .i64 x1))
  let p3 : Nat × AV := (37, .v (.int .i64 c21))
  let p4 : Nat × AV := (36, .v (.int .i64 x1))
  let p5 : Nat × AV := (9, .v (.int .i64 c21))
  let p6 : Nat × AV := (1, .v (.int .i64 x1))
  let p7 : Nat × AV := (0, .v (.int .i64 x0))
  refine SemY.sq he [p7, p6, (6, e2), (8, e22), p5, (10, e27), p4, p3, p2, p1, (42, .v (.bool (decide (c26 < x1))))] ?_
  refine SemY.seq ?_
  refine SemY.cond (b := (decide (c26 < x1))) kr (fun hb29 => ?_) (fun hb29 => ?_)
  ·rw [if_pos hb29] at h
   refine SemY.skip ?_
   refine SemY.seq ?_
   refine SemY.block ?_
   let p8 : Nat × AV := (11, .v (.int .i64 c26))
   refine SemY.sq he [p7, p6, (6, e2), (8, e22), p5, (10, e27), p8, p4, p3, p2, p1] ?_
   refine SemY.sq he [p7, p6, (6, e2), (8, e22), p5, (10, e27), p8, (12, .e0), p4, p3, p2, p1] ?_
   refine SemY.seq ?_
   refine SemY.sq he [p7, p6, (6, e2), (8, e22), p5, (10, e27), p8, (12, .e0), p4, p3, p2, p1, (44, .v (.int .i64 x0)), (45, .v (.int .i64 0))] ?_
   refine SemY.block ?_
   have hT30 := (T.e0 (k := 1) (ty := 3) (o := (ocV cdI)) hT)
   have hT50 := (((hT30.front 3 rfl).front 3 rfl).front 3 rfl)
   refine SemY.loop (n := 100000) ?_
   obtain ⟨r51, hr51, h⟩ := Option.bind_eq_some_iff.1 h
   refine SemYN.cutT (SemYN.wk (WkY.fr kr) (evening_Net_d_3_ok x0 x1 v1 c21 c26 e2 e22 c23 e27 c28 _ 0 ([] : (List Int)) _ hr51 .e0 hp hT50)) ?_
   rintro _ ⟨e52, hp53, hT54, rfl⟩
   refine SemY.regionL ?_
   refine RunL.sg he 2 ?_
   have hT59 := (hT54.front 3 rfl)
   have hl60 : evLen Tryd.prog 31 e52 = some (eI r51.length) := len_B hT59 kr
   obtain ⟨e58, hp55, hb56, hT57⟩ := lit_ownB (P := Tryd.prog) (bytes := 24) (k := 1) (t := 31) (ty := 50) (xs := ([r51] : List (List Int))) (n := 1) fit_L (els_cons ((els_nil (o := (ocL 1 3 (ocV cdI))) hT59).front 1 rfl)) rfl kr kr kr
   refine RunL.one he 0 rfl (op_n (wantedA_none rfl) rfl kr (n_lit (xs := enumA 0 [e52]) kr hb56)) ?_
   by_cases hk65 : (capOk 24 (c28.length + ([r51] : List (List Int)).length)) = true
   case neg => rw [if_neg hk65] at h; cases h
   rw [if_pos hk65] at h
   have hT66 := ((hT57.front 0 rfl).front 3 rfl)
   obtain ⟨e64, hp61, hb62, hT63⟩ := app_ownB (P := Tryd.prog) (ty := 50) (ty2 := 50) (bytes := 24) hT66 kr kr hk65
   refine RunL.one he 0 rfl (op_w (wantedA_none rfl) rfl kr kr (w_append (a := e27) (b := e58) kr kr hb62)) ?_
   refine RunL.fin he [p7, p6, (6, e2), (8, e22), p5, (10, e64), p4, p3, p2, p1] ?_
   refine SemY.regionL ?_
   refine RunL.sg he 2 ?_
   refine RunL.done rfl ?_
   have hT67 := ((hT63.front 2 rfl).front 2 rfl)
   exact SemYN.wk (WkY.fr kr) (ih0 (wr .i64 (c26 + 1)) (c28 ++ ([r51] : List (List Int))) _ h e64 hp61 hT67)
  ·rw [if_f hb29] at h
   refine SemY.exit ?_
   have hq := Option.some.inj h; subst hq
   exact ⟨rfl, _, ⟨e27, hp, hT, rfl⟩, (WkY.fr kr)⟩
set_option maxHeartbeats 4000000 in
set_option maxRecDepth 100000 in
theorem evening_Net_d_1_ok {L : List Asn} (x0 : Int) (x1 : Int) (v1 : (Int × Int × (List Int)) × Bool) (e2 : AV) : ∀ (f : Nat) (c21 : Int) (c23 : (List (List (List Int)))) (r : ((List (List (List Int))))), evening_Net_d_1 x0 x1 v1 f c21 c23 = some r → ∀ (e22 : AV) (hp : Hp), T hp ((cel e2 3 121 (.ag [.v (.int .i64 v1.1.1), .v (.int .i64 v1.1.2.1), .sl 1 (v1.1.2.2.map cdI.enc)])) :: (own_ (ocL 1 50 (ocL 1 31 (ocL 1 3 (ocV cdI)))) e22 c23) :: L) → SemYN e_evening_Net_d ⟨none, false⟩ (pc cb_evening_Net_d [1, 1, 1, 1, 0, 1, 0, 0]) f ⟨Fr 74 [(0, .v (.int .i64 x0)), (1, .v (.int .i64 x1)), (6, e2), (8, e22), (36, .v (.int .i64 x1)), (37, .v (.int .i64 c21))], hp⟩ (fun e s => e = (.exit 0) ∧ ∃ s2, (∃ (e88 : AV) (h' : Hp), T h' ((own_ (ocL 1 50 (ocL 1 31 (ocL 1 3 (ocV cdI)))) e88 r) :: L) ∧ s2 = ⟨Fr 74 [(8, e88)], h'⟩) ∧ WkY e_evening_Net_d s s2) := by
 have he := e_evening_Net_d_ok
 intro f
 induction f with
 | zero => intro c21 c23 r h; cases h
 | succ f ih0 =>
  intro c21 c23 r h e22 hp hT
  unfold evening_Net_d_1 at h
  refine SemYN.succ ?_
  let p1 : Nat × AV := (37, .v (.int .i64 c21))
  let p2 : Nat × AV := (36, .v (.int .i64 x1))
  let p3 : Nat × AV := (1, .v (.int .i64 x1))
  let p4 : Nat × AV := (0, .v (.int .i64 x0))
  refine SemY.sq he [p4, p3, (6, e2), (8, e22), p2, p1, (38, .v (.bool (decide (c21 < x1))))] ?_
  refine SemY.seq ?_
  refine SemY.cond (b := (decide (c21 < x1))) kr (fun hb24 => ?_) (fun hb24 => ?_)
  ·rw [if_pos hb24] at h
   refine SemY.skip ?_
   refine SemY.seq ?_
   refine SemY.block ?_
   let p5 : Nat × AV := (9, .v (.int .i64 c21))
   refine SemY.sq he [p4, p3, (6, e2), (8, e22), p5, p2, p1] ?_
   refine SemY.sq he [p4, p3, (6, e2), (8, e22), p5, (10, .e0), p2, p1] ?_
   refine SemY.seq ?_
   refine SemY.sq he [p4, p3, (6, e2), (8, e22), p5, (10, .e0), p2, p1, (40, .v (.int .i64 x1)), (41, .v (.int .i64 0))] ?_
   refine SemY.block ?_
   have hT25 := (T.e0 (k := 1) (ty := 31) (o := (ocL 1 3 (ocV cdI))) hT)
   have hT70 := ((hT25.front 2 rfl).front 2 rfl)
   refine SemY.loop (n := 100000) ?_
   obtain ⟨r71, hr71, h⟩ := Option.bind_eq_some_iff.1 h
   refine SemYN.cutT (SemYN.wk (WkY.fr kr) (evening_Net_d_2_ok x0 x1 v1 c21 e2 e22 c23 _ 0 ([] : (List (List Int))) _ hr71 .e0 hp hT70)) ?_
   rintro _ ⟨e72, hp73, hT74, rfl⟩
   refine SemY.regionL ?_
   refine RunL.sg he 2 ?_
   have hT79 := (hT74.front 2 rfl)
   have hl80 : evLen Tryd.prog 50 e72 = some (eI r71.length) := len_B hT79 kr
   obtain ⟨e78, hp75, hb76, hT77⟩ := lit_ownB (P := Tryd.prog) (bytes := 24) (k := 1) (t := 50) (ty := 22) (xs := ([r71] : List (List (List Int)))) (n := 1) fit_L (els_cons ((els_nil (o := (ocL 1 31 (ocL 1 3 (ocV cdI)))) hT79).front 1 rfl)) rfl kr kr kr
   refine RunL.one he 0 rfl (op_n (wantedA_none rfl) rfl kr (n_lit (xs := enumA 0 [e72]) kr hb76)) ?_
   by_cases hk85 : (capOk 24 (c23.length + ([r71] : List (List (List Int))).length)) = true
   case neg => rw [if_neg hk85] at h; cases h
   rw [if_pos hk85] at h
   have hT86 := ((hT77.front 0 rfl).front 2 rfl)
   obtain ⟨e84, hp81, hb82, hT83⟩ := app_ownB (P := Tryd.prog) (ty := 22) (ty2 := 22) (bytes := 24) hT86 kr kr hk85
   refine RunL.one he 0 rfl (op_w (wantedA_none rfl) rfl kr kr (w_append (a := e22) (b := e78) kr kr hb82)) ?_
   refine RunL.fin he [p4, p3, (6, e2), (8, e84), p2, p1] ?_
   refine SemY.regionL ?_
   refine RunL.sg he 2 ?_
   refine RunL.done rfl ?_
   have hT87 := (hT83.front 1 rfl)
   exact SemYN.wk (WkY.fr kr) (ih0 (wr .i64 (c21 + 1)) (c23 ++ ([r71] : List (List (List Int)))) _ h e84 hp81 hT87)
  ·rw [if_f hb24] at h
   refine SemY.exit ?_
   have hq := Option.some.inj h; subst hq
   have hT90 := hT.drop
   exact ⟨rfl, _, ⟨e22, hp, hT90, rfl⟩, (WkY.fr kr)⟩
set_option maxHeartbeats 4000000 in
set_option maxRecDepth 100000 in
theorem evening_Net_d_sem {L : List Asn} {hp : Hp} (x0 : Int) (x1 : Int) (r : Int × (List (List (List Int)))) (h : evening_Net_d x0 x1 = some r) (hT : T hp (L)) : SemY e_evening_Net_d ⟨none, false⟩ cb_evening_Net_d ⟨Fr 74 (pairs0 0 [.v (.int .i64 x0), .v (.int .i64 x1)]), hp⟩ fun x s' => (x = .normal ∨ x = .ret) ∧ ∃ ys, resA e_evening_Net_d.P s'.fr s'.hp Tryd.f60.results.toList = some ys ∧ (fun v h' => ∃ (z0 : AV), v = .tp [z0, .v (.int .i64 r.1)] ∧ T h' ((own_ (ocL 1 50 (ocL 1 31 (ocL 1 3 (ocV cdI)))) z0 r.2) :: L)) (retA ys) s'.hp := by
 have he := e_evening_Net_d_ok
 unfold evening_Net_d at h
 let p1 : Nat × AV := (1, .v (.int .i64 x1))
 let p2 : Nat × AV := (0, .v (.int .i64 x0))
 refine SemY.wkQ (SemY.wk (s1 := ⟨Fr 74 [p2, p1], hp⟩) (WkY.fr kr) ?_)
 refine SemY.sq he [p2, p1] ?_
 refine SemY.seq ?_
 refine SemY.regionL ?_
 refine RunL.sg he 1 ?_
 obtain ⟨v1, hv1, h⟩ := Option.bind_eq_some_iff.1 h
 refine RunL.call he (fid := 96) (b := v1) (s := cs_evening_fieldOf) (F := fun a => evening_fieldOf a.1) (er := er_evening_fieldOf) (xs := [.v (.int .i64 x1)]) (a := (x1, ())) rfl (wantedA_none rfl) kr kr kr kr (Sns.cons (Sn.enc (c := cdI) (v := x1)) Sns.nil) (.inl kr) hv1 ?_
 refine RunL.sg he 3 ?_
 obtain ⟨e2, hp3, hb4, hT5⟩ := box_cel (t := 121) (a := .ag [.v (.int .i64 0), .v (.int .i64 0), .e0]) hT kr
 refine RunL.one he 0 rfl (op_n (wantedA_none rfl) rfl kr (n_alloc (z := .ag [.v (.int .i64 0), .v (.int .i64 0), .e0]) kr hb4)) ?_
 obtain ⟨hp6, hs7, hT8⟩ := st_cel0 (P := Tryd.prog) (ty := 121) (y := .ag [.v (.int .i64 v1.1.1), .v (.int .i64 v1.1.2.1), .sl 1 (v1.1.2.2.map cdI.enc)]) (a' := .ag [.v (.int .i64 v1.1.1), .v (.int .i64 v1.1.2.1), .sl 1 (v1.1.2.2.map cdI.enc)]) hT5 kr kr kr
 refine RunL.store he (y := e2) (z := .ag [.v (.int .i64 v1.1.1), .v (.int .i64 v1.1.2.1), .sl 1 (v1.1.2.2.map cdI.enc)]) rfl (wantedA_none rfl) kr kr hs7 ?_
 refine RunL.fin he [p2, p1, (6, e2), (7, .v (.bool v1.2))] ?_
 refine SemY.seq ?_
 refine SemY.seq ?_
 obtain ⟨j9, hj9, h⟩ := Option.bind_eq_some_iff.1 h
 refine SemY.regT (A := fun s1 => ∃ (h' : Hp), T h' ((cel e2 3 121 (.ag [.v (.int .i64 v1.1.1), .v (.int .i64 v1.1.2.1), .sl 1 (v1.1.2.2.map cdI.enc)])) :: L) ∧ s1 = ⟨Fr 74 [p2, p1, (6, e2), (35, .v (.bool j9))], h'⟩) ?_ ?_
 ·refine RunL.segF (n := 74) he 3 [p2, p1, (6, e2), (21, .v (.bool (!v1.2)))] hp6 kr ?_
  rcases Bool.eq_false_or_eq_true (!v1.2) with hc96 | hc96
  ·rw [if_pos hc96] at hj9
   rw [hc96]
   refine RunL.sg he 14 ?_
   have hq := Option.some.inj hj9; subst hq
   exact RunL.done rfl ⟨_, ⟨hp6, hT8, rfl⟩, (WkY.fr kr)⟩
  ·rw [if_f hc96] at hj9
   rw [hc96]
   refine RunL.segF (n := 74) he 4 [p2, p1, (6, e2), (25, .v (.bool (decide (x0 < 1))))] hp6 kr ?_
   rcases Bool.eq_false_or_eq_true (decide (x0 < 1)) with hc97 | hc97
   ·rw [if_pos hc97] at hj9
    rw [hc97]
    refine RunL.sg he 10 ?_
    have hq := Option.some.inj hj9; subst hq
    exact RunL.done rfl ⟨_, ⟨hp6, hT8, rfl⟩, (WkY.fr kr)⟩
   ·rw [if_f hc97] at hj9
    rw [hc97]
    refine RunL.segF (n := 74) he 5 [p2, p1, (6, e2), (30, .v (.bool (decide (x0 > x1))))] hp6 kr ?_
    rcases Bool.eq_false_or_eq_true (decide (x0 > x1)) with hc98 | hc98
    ·rw [if_pos hc98] at hj9
     rw [hc98]
     refine RunL.sg he 5 ?_
     have hq := Option.some.inj hj9; subst hq
     exact RunL.done rfl ⟨_, ⟨hp6, hT8, rfl⟩, (WkY.fr kr)⟩
    ·rw [if_f hc98] at hj9
     rw [hc98]
     refine RunL.sg he 5 ?_
     have hq := Option.some.inj hj9; subst hq
     exact RunL.done rfl ⟨_, ⟨hp6, hT8, rfl⟩, (WkY.fr kr)⟩
 rintro _ ⟨hp16, hT17, rfl⟩
 refine SemY.cond (b := j9) kr (fun hb18 => ?_) (fun hb18 => ?_)
 ·rw [if_pos hb18] at h
  refine SemY.sq he [(4, .e0), (5, .v (.int .i64 90))] ?_
  refine SemY.ret ?_
  have hq := Option.some.inj h; subst hq
  have hT19 := (T.e0 (k := 1) (ty := 50) (o := (ocL 1 31 (ocL 1 3 (ocV cdI)))) hT17)
  exact ⟨⟨Fr 74 [(4, .e0), (5, .v (.int .i64 90))], hp16⟩, (WkY.fr kr), .inr rfl, [.e0, .v (.int .i64 90)], kr, ⟨.e0, rfl, (hT19.front 1 rfl).drop⟩⟩
 ·rw [if_f hb18] at h
  refine SemY.skip ?_
  refine SemY.sq he [p2, p1, (6, e2), (8, .e0)] ?_
  refine SemY.seq ?_
  refine SemY.sq he [p2, p1, (6, e2), (8, .e0), (36, .v (.int .i64 x1)), (37, .v (.int .i64 0))] ?_
  refine SemY.block ?_
  have hT20 := (T.e0 (k := 1) (ty := 50) (o := (ocL 1 31 (ocL 1 3 (ocV cdI)))) hT17)
  have hT91 := (hT20.front 1 rfl)
  refine SemY.loop (n := 100000) ?_
  obtain ⟨r92, hr92, h⟩ := Option.bind_eq_some_iff.1 h
  refine SemYN.cutT (SemYN.wk (WkY.fr kr) (evening_Net_d_1_ok x0 x1 v1 e2 _ 0 ([] : (List (List (List Int)))) _ hr92 .e0 hp16 hT91)) ?_
  rintro _ ⟨e93, hp94, hT95, rfl⟩
  refine SemY.sq he [(4, e93), (5, .v (.int .i64 0))] ?_
  refine SemY.ret ?_
  have hq := Option.some.inj h; subst hq
  exact ⟨⟨Fr 74 [(4, e93), (5, .v (.int .i64 0))], hp94⟩, (WkY.fr kr), .inr rfl, [e93, .v (.int .i64 0)], kr, ⟨e93, rfl, hT95⟩⟩
/- trestle/evening.span -/
noncomputable def e_evening_span_d : Env := E0
theorem e_evening_span_d_ok : EnvOk e_evening_span_d := E0_ok
noncomputable def cb_evening_span_d : Code := codeOf Tryd.f69
def evening_span_d_1 (x0 : Int) (x1 : Int) : Nat → Int → (List Int) → Option (((List Int)))
 | 0, _, _ => none
 | f + 1, c2, c4 =>
  if (decide (c2 < x1)) = true then
  if (capOk 8 (c4.length + ([(wr .i64 (x0 + c2))] : List Int).length)) = true then
  evening_span_d_1 x0 x1 f (wr .i64 (c2 + 1)) (c4 ++ ([(wr .i64 (x0 + c2))] : List Int))
  else none
  else
  some c4
def evening_span_d (x0 : Int) (x1 : Int) : Option ((List Int)) :=
 (evening_span_d_1 x0 x1 100000 0 ([] : (List Int))).bind fun r18 =>
 some r18
set_option maxHeartbeats 4000000 in
set_option maxRecDepth 100000 in
theorem evening_span_d_1_ok {L : List Asn} (x0 : Int) (x1 : Int) : ∀ (f : Nat) (c2 : Int) (c4 : (List Int)) (r : ((List Int))), evening_span_d_1 x0 x1 f c2 c4 = some r → ∀ (e3 : AV) (hp : Hp), T hp ((own_ (ocL 1 3 (ocV cdI)) e3 c4) :: L) → SemYN e_evening_span_d ⟨none, false⟩ (pc cb_evening_span_d [1, 1, 0, 1, 0, 0]) f ⟨Fr 19 [(0, .v (.int .i64 x0)), (5, e3), (7, .v (.int .i64 x1)), (8, .v (.int .i64 c2))], hp⟩ (fun e s => e = (.exit 0) ∧ ∃ s2, (∃ (e16 : AV) (h' : Hp), T h' ((own_ (ocL 1 3 (ocV cdI)) e16 r) :: L) ∧ s2 = ⟨Fr 19 [(5, e16)], h'⟩) ∧ WkY e_evening_span_d s s2) := by
 have he := e_evening_span_d_ok
 intro f
 induction f with
 | zero => intro c2 c4 r h; cases h
 | succ f ih0 =>
  intro c2 c4 r h e3 hp hT
  unfold evening_span_d_1 at h
  refine SemYN.succ ?_
  let p1 : Nat × AV := (8, .v (.int .i64 c2))
  let p2 : Nat × AV := (7, .v (.int .i64 x1))
  let p3 : Nat × AV := (0, .v (.int .i64 x0))
  refine SemY.sq he [p3, (5, e3), p2, p1, (9, .v (.bool (decide (c2 < x1))))] ?_
  refine SemY.seq ?_
  refine SemY.cond (b := (decide (c2 < x1))) kr (fun hb5 => ?_) (fun hb5 => ?_)
  ·rw [if_pos hb5] at h
   refine SemY.skip ?_
   refine SemY.seq ?_
   refine SemY.block ?_
   refine SemY.sq he [p3, (5, e3), (6, .v (.int .i64 c2)), p2, p1] ?_
   refine SemY.regionL ?_
   refine RunL.sg he 4 ?_
   obtain ⟨e9, hp6, hb7, hT8⟩ := lit_ownB (P := Tryd.prog) (bytes := 8) (k := 1) (t := 3) (ty := 31) (xs := ([(wr .i64 (x0 + c2))] : List Int)) (n := 1) (fit_V (k := 1) (fun _ => ⟨rfl, rfl, rfl⟩)) (els_leaf (c := cdI) (xs := ([(wr .i64 (x0 + c2))] : List Int)) hT) rfl kr kr kr
   refine RunL.one he 0 rfl (op_n (wantedA_none rfl) rfl kr (n_lit (xs := enumA 0 [.v (.int .i64 (wr .i64 (x0 + c2)))]) kr hb7)) ?_
   by_cases hk14 : (capOk 8 (c4.length + ([(wr .i64 (x0 + c2))] : List Int).length)) = true
   case neg => rw [if_neg hk14] at h; cases h
   rw [if_pos hk14] at h
   have hT15 := ((hT8.front 0 rfl).front 1 rfl)
   obtain ⟨e13, hp10, hb11, hT12⟩ := app_ownB (P := Tryd.prog) (ty := 31) (ty2 := 31) (bytes := 8) hT15 kr kr hk14
   refine RunL.one he 0 rfl (op_w (wantedA_none rfl) rfl kr kr (w_append (a := e3) (b := e9) kr kr hb11)) ?_
   refine RunL.fin he [p3, (5, e13), p2, p1] ?_
   refine SemY.regionL ?_
   refine RunL.sg he 2 ?_
   refine RunL.done rfl ?_
   exact SemYN.wk (WkY.fr kr) (ih0 (wr .i64 (c2 + 1)) (c4 ++ ([(wr .i64 (x0 + c2))] : List Int)) _ h e13 hp10 hT12)
  ·rw [if_f hb5] at h
   refine SemY.exit ?_
   have hq := Option.some.inj h; subst hq
   exact ⟨rfl, _, ⟨e3, hp, hT, rfl⟩, (WkY.fr kr)⟩
set_option maxHeartbeats 4000000 in
set_option maxRecDepth 100000 in
theorem evening_span_d_sem {L : List Asn} {hp : Hp} (x0 : Int) (x1 : Int) (r : (List Int)) (h : evening_span_d x0 x1 = some r) (hT : T hp (L)) : SemY e_evening_span_d ⟨none, false⟩ cb_evening_span_d ⟨Fr 19 (pairs0 0 [.v (.int .i64 x0), .v (.int .i64 x1)]), hp⟩ fun x s' => (x = .normal ∨ x = .ret) ∧ ∃ ys, resA e_evening_span_d.P s'.fr s'.hp Tryd.f69.results.toList = some ys ∧ (fun v h' => ∃ (z0 : AV), v = z0 ∧ T h' ((own_ (ocL 1 3 (ocV cdI)) z0 r) :: L)) (retA ys) s'.hp := by
 have he := e_evening_span_d_ok
 unfold evening_span_d at h
 let p1 : Nat × AV := (1, .v (.int .i64 x1))
 let p2 : Nat × AV := (0, .v (.int .i64 x0))
 refine SemY.wkQ (SemY.wk (s1 := ⟨Fr 19 [p2, p1], hp⟩) (WkY.fr kr) ?_)
 refine SemY.sq he [p2, p1] ?_
 refine SemY.sq he [p2, p1, (5, .e0)] ?_
 refine SemY.seq ?_
 refine SemY.sq he [p2, (5, .e0), (7, .v (.int .i64 x1)), (8, .v (.int .i64 0))] ?_
 refine SemY.block ?_
 have hT1 := (T.e0 (k := 1) (ty := 3) (o := (ocV cdI)) hT)
 refine SemY.loop (n := 100000) ?_
 obtain ⟨r18, hr18, h⟩ := Option.bind_eq_some_iff.1 h
 refine SemYN.cutT (SemYN.wk (WkY.fr kr) (evening_span_d_1_ok x0 x1 _ 0 ([] : (List Int)) _ hr18 .e0 hp hT1)) ?_
 rintro _ ⟨e19, hp20, hT21, rfl⟩
 refine SemY.sq he [(4, e19)] ?_
 refine SemY.ret ?_
 have hq := Option.some.inj h; subst hq
 exact ⟨⟨Fr 19 [(4, e19)], hp20⟩, (WkY.fr kr), .inr rfl, [e19], kr, ⟨e19, rfl, hT21⟩⟩
/- trestle/evening.Plane -/
noncomputable def e_evening_Plane_d : Env := E0
theorem e_evening_Plane_d_ok : EnvOk e_evening_Plane_d := E0_ok
noncomputable def cb_evening_Plane_d : Code := codeOf Tryd.f45
def evening_Plane_d_1 (x0 : Int) : Nat → Int → (List (List Int)) → Option (((List (List Int))))
 | 0, _, _ => none
 | f + 1, c8, c10 =>
  if (decide (c8 < x0)) = true then
  (evening_span_d (wr .i64 (c8 * x0)) x0).bind fun v12 =>
  if (capOk 24 (c10.length + ([v12] : List (List Int)).length)) = true then
  evening_Plane_d_1 x0 f (wr .i64 (c8 + 1)) (c10 ++ ([v12] : List (List Int)))
  else none
  else
  some c10
def evening_Plane_d (x0 : Int) : Option (Int × (List (List (List Int)))) :=
 (evening_Net_d x0 x0).bind fun v1 =>
 if (v1.1 != 0) = true then
 some (v1.1, ([] : (List (List (List Int)))))
 else
 (evening_Plane_d_1 x0 100000 0 ([] : (List (List Int)))).bind fun r31 =>
 if (capOk 24 (v1.2.length + ([r31] : List (List (List Int))).length)) = true then
 some (0, (v1.2 ++ ([r31] : List (List (List Int)))))
 else none
set_option maxHeartbeats 4000000 in
set_option maxRecDepth 100000 in
theorem evening_Plane_d_1_ok {L : List Asn} (x0 : Int) (v1 : Int × (List (List (List Int)))) (e2 : AV) : ∀ (f : Nat) (c8 : Int) (c10 : (List (List Int))) (r : ((List (List Int)))), evening_Plane_d_1 x0 f c8 c10 = some r → ∀ (e9 : AV) (hp : Hp), T hp ((own_ (ocL 1 50 (ocL 1 31 (ocL 1 3 (ocV cdI)))) e2 v1.2) :: (own_ (ocL 1 31 (ocL 1 3 (ocV cdI))) e9 c10) :: L) → SemYN e_evening_Plane_d ⟨none, false⟩ (pc cb_evening_Plane_d [1, 1, 1, 1, 0, 1, 0, 0]) f ⟨Fr 34 [(0, .v (.int .i64 x0)), (4, e2), (6, e9), (17, .v (.int .i64 x0)), (18, .v (.int .i64 c8))], hp⟩ (fun e s => e = (.exit 0) ∧ ∃ s2, (∃ (e28 : AV) (h' : Hp), T h' ((own_ (ocL 1 50 (ocL 1 31 (ocL 1 3 (ocV cdI)))) e2 v1.2) :: (own_ (ocL 1 31 (ocL 1 3 (ocV cdI))) e28 r) :: L) ∧ s2 = ⟨Fr 34 [(4, e2), (6, e28)], h'⟩) ∧ WkY e_evening_Plane_d s s2) := by
 have he := e_evening_Plane_d_ok
 intro f
 induction f with
 | zero => intro c8 c10 r h; cases h
 | succ f ih0 =>
  intro c8 c10 r h e9 hp hT
  unfold evening_Plane_d_1 at h
  refine SemYN.succ ?_
  let p1 : Nat × AV := (18, .v (.int .i64 c8))
  let p2 : Nat × AV := (17, .v (.int .i64 x0))
  let p3 : Nat × AV := (0, .v (.int .i64 x0))
  refine SemY.sq he [p3, (4, e2), (6, e9), p2, p1, (19, .v (.bool (decide (c8 < x0))))] ?_
  refine SemY.seq ?_
  refine SemY.cond (b := (decide (c8 < x0))) kr (fun hb11 => ?_) (fun hb11 => ?_)
  ·rw [if_pos hb11] at h
   refine SemY.skip ?_
   refine SemY.seq ?_
   refine SemY.block ?_
   refine SemY.sq he [p3, (4, e2), (6, e9), (7, .v (.int .i64 c8)), p2, p1] ?_
   refine SemY.regionL ?_
   refine RunL.sg he 5 ?_
   obtain ⟨v12, hv12, h⟩ := Option.bind_eq_some_iff.1 h
   refine RunL.inlT (E := e_evening_Plane_d) (e := e_evening_span_d) rfl rfl e_evening_span_d_ok rfl rfl (fid := 69) (caps := []) (xs := [.v (.int .i64 (wr .i64 (c8 * x0))), .v (.int .i64 x0)]) (fn := Tryd.f69) (c := cb_evening_span_d) (Out := fun v h' => ∃ (z0 : AV), v = z0 ∧ T h' ((own_ (ocL 1 3 (ocV cdI)) z0 v12) :: (own_ (ocL 1 50 (ocL 1 31 (ocL 1 3 (ocV cdI)))) e2 v1.2) :: (own_ (ocL 1 31 (ocL 1 3 (ocV cdI))) e9 c10) :: L)) rfl (wantedA_none rfl) kr kr kr kr (by show 2 ≤ 19; decide) (evening_span_d_sem (wr .i64 (c8 * x0)) x0 _ hv12 hT) ?_
   rintro xx hp14 ⟨e13, hqhp14, hT15⟩; subst xx
   have hl20 : evLen Tryd.prog 31 e13 = some (eI v12.length) := len_B hT15 kr
   obtain ⟨e19, hp16, hb17, hT18⟩ := lit_ownB (P := Tryd.prog) (bytes := 24) (k := 1) (t := 31) (ty := 50) (xs := ([v12] : List (List Int))) (n := 1) fit_L (els_cons ((els_nil (o := (ocL 1 3 (ocV cdI))) hT15).front 1 rfl)) rfl kr kr kr
   refine RunL.one he 0 rfl (op_n (wantedA_none rfl) rfl kr (n_lit (xs := enumA 0 [e13]) kr hb17)) ?_
   by_cases hk25 : (capOk 24 (c10.length + ([v12] : List (List Int)).length)) = true
   case neg => rw [if_neg hk25] at h; cases h
   rw [if_pos hk25] at h
   have hT26 := ((hT18.front 0 rfl).front 2 rfl)
   obtain ⟨e24, hp21, hb22, hT23⟩ := app_ownB (P := Tryd.prog) (ty := 50) (ty2 := 50) (bytes := 24) hT26 kr kr hk25
   refine RunL.one he 0 rfl (op_w (wantedA_none rfl) rfl kr kr (w_append (a := e9) (b := e19) kr kr hb22)) ?_
   refine RunL.fin he [p3, (4, e2), (6, e24), p2, p1] ?_
   refine SemY.regionL ?_
   refine RunL.sg he 2 ?_
   refine RunL.done rfl ?_
   have hT27 := (hT23.front 1 rfl)
   exact SemYN.wk (WkY.fr kr) (ih0 (wr .i64 (c8 + 1)) (c10 ++ ([v12] : List (List Int))) _ h e24 hp21 hT27)
  ·rw [if_f hb11] at h
   refine SemY.exit ?_
   have hq := Option.some.inj h; subst hq
   exact ⟨rfl, _, ⟨e9, hp, hT, rfl⟩, (WkY.fr kr)⟩
set_option maxHeartbeats 4000000 in
set_option maxRecDepth 100000 in
theorem evening_Plane_d_sem {L : List Asn} {hp : Hp} (x0 : Int) (r : Int × (List (List (List Int)))) (h : evening_Plane_d x0 = some r) (hT : T hp (L)) : SemY e_evening_Plane_d ⟨none, false⟩ cb_evening_Plane_d ⟨Fr 34 (pairs0 0 [.v (.int .i64 x0)]), hp⟩ fun x s' => (x = .normal ∨ x = .ret) ∧ ∃ ys, resA e_evening_Plane_d.P s'.fr s'.hp Tryd.f45.results.toList = some ys ∧ (fun v h' => ∃ (z0 : AV), v = .tp [z0, .v (.int .i64 r.1)] ∧ T h' ((own_ (ocL 1 50 (ocL 1 31 (ocL 1 3 (ocV cdI)))) z0 r.2) :: L)) (retA ys) s'.hp := by
 have he := e_evening_Plane_d_ok
 unfold evening_Plane_d at h
 let p1 : Nat × AV := (0, .v (.int .i64 x0))
 refine SemY.wkQ (SemY.wk (s1 := ⟨Fr 34 [p1], hp⟩) (WkY.fr kr) ?_)
 refine SemY.sq he [p1] ?_
 refine SemY.seq ?_
 refine SemY.regionL ?_
 refine RunL.sg he 2 ?_
 obtain ⟨v1, hv1, h⟩ := Option.bind_eq_some_iff.1 h
 refine RunL.inlT (E := e_evening_Plane_d) (e := e_evening_Net_d) rfl rfl e_evening_Net_d_ok rfl rfl (fid := 60) (caps := []) (xs := [.v (.int .i64 x0), .v (.int .i64 x0)]) (fn := Tryd.f60) (c := cb_evening_Net_d) (Out := fun v h' => ∃ (z0 : AV), v = .tp [z0, .v (.int .i64 v1.1)] ∧ T h' ((own_ (ocL 1 50 (ocL 1 31 (ocL 1 3 (ocV cdI)))) z0 v1.2) :: L)) rfl (wantedA_none rfl) kr kr kr kr (by show 2 ≤ 74; decide) (evening_Net_d_sem x0 x0 _ hv1 hT) ?_
 rintro xx hp3 ⟨e2, hqhp3, hT4⟩; subst xx
 refine RunL.fin he [p1, (4, e2), (5, .v (.int .i64 v1.1))] ?_
 refine SemY.seq ?_
 refine SemY.sq he [p1, (4, e2), (5, .v (.int .i64 v1.1)), (15, .v (.bool (v1.1 != 0)))] ?_
 refine SemY.cond (b := (v1.1 != 0)) kr (fun hb5 => ?_) (fun hb5 => ?_)
 ·rw [if_pos hb5] at h
  refine SemY.sq he [(2, .e0), (3, .v (.int .i64 v1.1))] ?_
  refine SemY.ret ?_
  have hq := Option.some.inj h; subst hq
  have hT6 := (T.e0 (k := 1) (ty := 50) (o := (ocL 1 31 (ocL 1 3 (ocV cdI)))) hT4)
  exact ⟨⟨Fr 34 [(2, .e0), (3, .v (.int .i64 v1.1))], hp3⟩, (WkY.fr kr), .inr rfl, [.e0, .v (.int .i64 v1.1)], kr, ⟨.e0, rfl, (hT6.front 1 rfl).drop⟩⟩
 ·rw [if_f hb5] at h
  refine SemY.skip ?_
  refine SemY.sq he [p1, (4, e2), (6, .e0)] ?_
  refine SemY.seq ?_
  refine SemY.sq he [p1, (4, e2), (6, .e0), (17, .v (.int .i64 x0)), (18, .v (.int .i64 0))] ?_
  refine SemY.block ?_
  have hT7 := (T.e0 (k := 1) (ty := 31) (o := (ocL 1 3 (ocV cdI))) hT4)
  have hT30 := (hT7.front 1 rfl)
  refine SemY.loop (n := 100000) ?_
  obtain ⟨r31, hr31, h⟩ := Option.bind_eq_some_iff.1 h
  refine SemYN.cutT (SemYN.wk (WkY.fr kr) (evening_Plane_d_1_ok x0 v1 e2 _ 0 ([] : (List (List Int))) _ hr31 .e0 hp3 hT30)) ?_
  rintro _ ⟨e32, hp33, hT34, rfl⟩
  refine SemY.seq ?_
  refine SemY.regionL ?_
  refine RunL.sg he 2 ?_
  have hT39 := (hT34.front 1 rfl)
  have hl40 : evLen Tryd.prog 50 e32 = some (eI r31.length) := len_B hT39 kr
  obtain ⟨e38, hp35, hb36, hT37⟩ := lit_ownB (P := Tryd.prog) (bytes := 24) (k := 1) (t := 50) (ty := 22) (xs := ([r31] : List (List (List Int)))) (n := 1) fit_L (els_cons ((els_nil (o := (ocL 1 31 (ocL 1 3 (ocV cdI)))) hT39).front 1 rfl)) rfl kr kr kr
  refine RunL.one he 0 rfl (op_n (wantedA_none rfl) rfl kr (n_lit (xs := enumA 0 [e32]) kr hb36)) ?_
  by_cases hk45 : (capOk 24 (v1.2.length + ([r31] : List (List (List Int))).length)) = true
  case neg => rw [if_neg hk45] at h; cases h
  rw [if_pos hk45] at h
  have hT46 := ((hT37.front 0 rfl).front 1 rfl)
  obtain ⟨e44, hp41, hb42, hT43⟩ := app_ownB (P := Tryd.prog) (ty := 22) (ty2 := 22) (bytes := 24) hT46 kr kr hk45
  refine RunL.one he 0 rfl (op_w (wantedA_none rfl) rfl kr kr (w_append (a := e2) (b := e38) kr kr hb42)) ?_
  refine RunL.fin he [(2, e44), (3, .v (.int .i64 0))] ?_
  refine SemY.ret ?_
  have hq := Option.some.inj h; subst hq
  exact ⟨⟨Fr 34 [(2, e44), (3, .v (.int .i64 0))], hp41⟩, (WkY.fr kr), .inr rfl, [e44, .v (.int .i64 0)], kr, ⟨e44, rfl, hT43⟩⟩
end Go.Proofs.YtcmgmkepodbpkaaDoor
