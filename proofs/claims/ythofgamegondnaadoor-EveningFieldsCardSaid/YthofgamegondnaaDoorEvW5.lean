/- Walks: the reference's sums and products. -/
import Derived.Test.YthofgamegondnaaDoorEvW4
namespace Go.Proofs.YthofgamegondnaaDoor
open Go.RowKit
set_option linter.unusedSimpArgs false
set_option linter.unusedVariables false

set_option maxRecDepth 100000 in
theorem refAdd_ok (q a b : Int) (w : World) (hp0 : 0 < (refField q).1) (ha : 0 ≤ a ∧ a < q) (hb : 0 ≤ b ∧ b < q) : Ret Tryd.prog 54 #[.int .i64 q, .int .i64 a, .int .i64 b] w fun v w' => v = .int .i64 (refAdd q a b) ∧ w.grownBy w' none := by
  refine ret_in Tryd.func54 rfl rfl rfl ?_
  have pw := pu_refl w
  refine wc_seq ?_
  refine wc_region ?_
  refine wl_v (st_assign (v := .int .i64 (0)) rfl) rfl rfl rfl ?_
  refine wl_nil ?_
  refine wq_then ?_
  refine wc_seq ?_
  refine wc_region ?_
  refine wl_v (st_move (v := .int .i64 (q)) rfl) rfl rfl rfl ?_
  obtain ⟨p3, poly4, hq5⟩ : ∃ p poly, refField (q) = (p, poly) := ⟨_, _, rfl⟩
  refine wl_call (vs := [.int .i64 (q)]) C53 rfl rfl ((by have h := rfield_ok (q) w; rw [hq5] at h; exact h)) ?_
  rintro _ w6 ⟨hn7, sv1, rfl, hs2⟩
  have pw := pu_trans pw hn7
  have hzw6 := World.grownBy.size hn7
  have hs2 : rI.R w6 (Lo w6.heap.size) sv1 poly4 := hs2
  refine wl_v (st_move (v := .tuple #[.int .i64 (p3), sv1]) rfl) rfl rfl rfl ?_
  refine wl_v (st_extract (v := .int .i64 (p3)) rfl rfl) rfl rfl rfl ?_
  refine wl_v (st_extract (v := sv1) rfl rfl) rfl rfl rfl ?_
  refine wl_v (st_assign (v := .int .i64 (p3)) rfl) rfl rfl rfl ?_
  refine wl_v (st_assign (v := sv1) rfl) rfl rfl rfl ?_
  refine wl_nil ?_
  refine wq_then ?_
  refine wc_seq ?_
  refine wc_seq ?_
  have hq := hq5
  rw [hq] at hp0
  obtain ⟨hb1, hb2, hb3, hb4, hb5⟩ := refField_bd hq hp0
  have hp : 2 ≤ p3 ∧ p3 ≤ 13 := ⟨hb1, hb2⟩
  refine wc_region ?_
  refine wl_v (st_move (v := sv1) rfl) rfl rfl rfl ?_
  refine wl_v (st_lenS hs2 ty24 rfl) rfl rfl rfl ?_
  refine wl_v (st_eql rfl rfl) rfl rfl rfl ?_
  refine wl_nil ?_
  refine wq_then ?_
  refine wc_cond rfl ?_ ?_
  · intro h8
    have h8p : ((poly4).length : Int) = 0 := by first | simpa using h8 | (simp at h8; omega)
    refine wc_seq ?_
    refine wc_region ?_
    refine wl_v (st_move (v := .int .i64 (a)) rfl) rfl rfl rfl ?_
    refine wl_v (st_move (v := .int .i64 (b)) rfl) rfl rfl rfl ?_
    refine wl_v (st_add rfl rfl (by omega) (by omega)) rfl rfl rfl ?_
    refine wl_v (st_move (v := .int .i64 (p3)) rfl) rfl rfl rfl ?_
    refine wl_v (st_rem rfl rfl (by omega) (by omega)) rfl rfl rfl ?_
    refine wl_v (st_assign (v := .int .i64 ((a + b) % p3)) rfl) rfl rfl rfl ?_
    refine wl_nil ?_
    refine wq_then ?_
    refine wc_ret ?_
    refine wq_then_ret ?_
    refine wq_ret1 (v := .int .i64 ((a + b) % p3)) rfl rfl rfl ?_
    exact ⟨congrArg (Value.int .i64) (refAdd_nil hq (List.eq_nil_of_length_eq_zero (by omega))).symm, pw⟩
  · intro h8
    have h8p : ¬ (((poly4).length : Int) = 0) := by first | simpa using h8 | (simp at h8; omega)
    refine wc_skip ?_
    refine wq_then ?_
    refine wc_seq ?_
    have hne : poly4 ≠ [] := by intro h; have h9 : (poly4).length = 0 := (by rw [h]; rfl); omega
    obtain ⟨hc1, hc2, hc3, hc4⟩ := hb5.resolve_left hne
    refine wc_region ?_
    refine wl_v (st_move (v := sv1) rfl) rfl rfl rfl ?_
    refine wl_v (st_lenS hs2 ty24 rfl) rfl rfl rfl ?_
    refine wl_v (st_sub rfl rfl (by omega) (by omega)) rfl rfl rfl ?_
    obtain ⟨m, hm⟩ : ∃ m : Nat, ((poly4).length : Int) - 1 = (m : Int) := ⟨(poly4).length - 1, by omega⟩
    rw [hm]
    have hm2 : (poly4).length - 1 = m := by omega
    refine wl_v (st_assign (v := .int .i64 ((m : Int))) rfl) rfl rfl rfl ?_
    refine wl_nil ?_
    refine wq_then ?_
    refine wc_seq ?_
    refine wc_region ?_
    refine wl_v (st_move (v := .int .i64 (a)) rfl) rfl rfl rfl ?_
    refine wl_v (st_move (v := .int .i64 (p3)) rfl) rfl rfl rfl ?_
    refine wl_v (st_move (v := .int .i64 ((m : Int))) rfl) rfl rfl rfl ?_
    refine wl_call (vs := [.int .i64 (a), .int .i64 (p3), .int .i64 ((m : Int))]) C101 rfl rfl (rdigits_ok (a) (p3) (m) _ (by omega) (by omega) (by omega)) ?_
    rintro v10 w11 ⟨hn12, hd9⟩
    have pw := pu_trans pw hn12
    have hs2 := Rep.pu hs2 hn12
    have hzw11 := World.grownBy.size hn12
    refine wl_v (st_move (v := .int .i64 (b)) rfl) rfl rfl rfl ?_
    refine wl_v (st_move (v := .int .i64 (p3)) rfl) rfl rfl rfl ?_
    refine wl_v (st_move (v := .int .i64 ((m : Int))) rfl) rfl rfl rfl ?_
    refine wl_call (vs := [.int .i64 (b), .int .i64 (p3), .int .i64 ((m : Int))]) C101 rfl rfl (rdigits_ok (b) (p3) (m) _ (by omega) (by omega) (by omega)) ?_
    rintro v14 w15 ⟨hn16, hd13⟩
    have pw := pu_trans pw hn16
    have hs2 := Rep.pu hs2 hn16
    have hd9 := Bl.pu hd9 hn16
    have hzw15 := World.grownBy.size hn16
    refine wl_v (st_assign (v := v10) rfl) rfl rfl rfl ?_
    refine wl_v (st_assign (v := v14) rfl) rfl rfl rfl ?_
    refine wl_nil ?_
    refine wq_then ?_
    refine wc_seq ?_
    refine wc_seq ?_
    refine wc_region ?_
    refine wl_v (st_assign (v := .int .i64 (0)) rfl) rfl rfl rfl ?_
    refine wl_nil ?_
    refine wq_then ?_
    refine wc_block ?_
    have hl := digitsL_len p3 m a
    have hl2 := digitsL_len p3 m b
    refine wc_loop (fun fl mm w' => ∃ k : Nat, fl = [(6, .int .i64 (0)), (7, .int .i64 (p3)), (9, .int .i64 ((m : Int))), (10, v10), (11, v14), (12, .int .i64 ((k : Int)))] ∧ mm = m - k ∧ (k ≤ m) ∧ w.grownBy w' none ∧ rI.R w' (Lo w6.heap.size) (sv1) (poly4) ∧ Bl iR 3 w' (w6.heap.size) (w11.heap.size) (v10) (zipGo (fun x y => (x + y) % p3) (digitsL p3 m a) (digitsL p3 m b) k) ∧ Bl iR 3 w' (w11.heap.size) (w15.heap.size) (v14) (digitsL (p3) (m) (b))) (h0 := ⟨0, rfl, rfl, ?_, pw, hs2, (by rw [zipGo_zero]; exact hd9), hd13⟩) (hf := ⟨(by first | rfl | exact congrArg (Value.int _) (by omega) | go_num), (by first | rfl | exact congrArg (Value.int _) (by omega) | go_num), (by first | rfl | exact congrArg (Value.int _) (by omega) | go_num), (by first | rfl | exact congrArg (Value.int _) (by omega) | go_num), (by first | rfl | exact congrArg (Value.int _) (by omega) | go_num), (by first | rfl | exact congrArg (Value.int _) (by omega) | go_num), trivial⟩) ?_
    · omega
    · skip
      rintro _ _ w17 s18 ⟨k, rfl, rfl, p1_1, pw, hs2, hd9, hd13⟩
      refine wc_seq ?_
      refine wc_seq ?_
      refine wc_region ?_
      refine wl_v (st_move (v := .int .i64 ((k : Int))) rfl) rfl rfl rfl ?_
      refine wl_v (st_move (v := .int .i64 ((m : Int))) rfl) rfl rfl rfl ?_
      refine wl_v (st_lss rfl rfl) rfl rfl rfl ?_
      refine wl_nil ?_
      refine wq_then ?_
      refine wc_cond rfl ?_ ?_
      · intro h19
        have h19p : (k : Int) < (m : Int) := by first | simpa using h19 | (simp at h19; omega)
        refine wc_skip ?_
        refine wq_then ?_
        refine wc_seq ?_
        refine wc_block ?_
        refine wc_region_mix (fun w' => (w17.drew).grownBy w' none) (fun k => (false) || Nat.ble 14 k) 14 (by kernel_rfl) (by kernel_rfl) (by kernel_rfl) ?_
        obtain ⟨w20, ew20⟩ : ∃ q, q = w17.drew := ⟨_, rfl⟩
        rw [← ew20]
        have hn21 : w17.grownBy w20 none := by rw [ew20]; exact ch_drew _
        have hsw20 : w20.heap.size = w17.heap.size := by rw [ew20]; rfl
        clear ew20
        have pw := pu_trans pw hn21
        have hs2 := Rep.pu hs2 hn21
        have hd9 := Bl.pu hd9 hn21
        have hd13 := Bl.pu hd13 hn21
        have pc22 := pu_refl w20
        refine wm_v rfl (fun _ => pc22) (fun w' hw' => (st_move (v := v10) rfl)) rfl rfl rfl ?_
        refine wm_v rfl (fun _ => pc22) (fun w' hw' => (st_move (v := .int .i64 ((k : Int))) rfl)) rfl rfl rfl ?_
        refine wm_v rfl (fun _ => pc22) (fun w' hw' => (st_move (v := v10) rfl)) rfl rfl rfl ?_
        refine wm_v rfl (fun _ => pc22) (fun w' hw' => (st_move (v := .int .i64 ((k : Int))) rfl)) rfl rfl rfl ?_
        have hbdg26 : (k : Int) < (((zipGo (fun x y => (x + y) % p3) (digitsL p3 m a) (digitsL p3 m b) k).length : Nat) : Int) := (by have hzl := zipGo_len (fun x y => (x + y) % p3) (digitsL p3 m a) (digitsL p3 m b) k (by omega) (by omega); omega)
        refine wm_e rfl (fun _ => pc22) (st_idxB hd9 ty24 ty3 rfl rfl (by omega) hbdg26) rfl rfl rfl ?_
        rintro _ ⟨g26, rfl, hv25, hc23⟩
        try simp only [Int.toNat_natCast, Int.toNat_zero, Int.reduceToNat] at hc23 ⊢
        refine wm_v rfl (fun _ => pc22) (fun w' hw' => (st_load ty3 rfl rfl (cell_pu hw' hc23))) rfl rfl rfl ?_
        refine wm_v rfl (fun _ => pc22) (fun w' hw' => (st_move (v := v14) rfl)) rfl rfl rfl ?_
        refine wm_v rfl (fun _ => pc22) (fun w' hw' => (st_move (v := .int .i64 ((k : Int))) rfl)) rfl rfl rfl ?_
        refine wm_e rfl (fun _ => pc22) (st_idxI (Bl.sl hd13) ty24 ty3 rfl rfl (by omega) (by omega)) rfl rfl rfl ?_
        rintro _ ⟨a28, rfl, hc27⟩
        simp only [Int.toNat_natCast] at hc27
        refine wm_v rfl (fun _ => pc22) (fun w' hw' => (st_load ty3 rfl rfl (cell_pu hw' hc27))) rfl rfl rfl ?_
        refine wm_v rfl (fun _ => pc22) (fun w' hw' => (st_add rfl rfl (by have h1 := zipGo_getD (fun x y => (x + y) % p3) (digitsL p3 m a) (digitsL p3 m b) k (by omega) (by omega); have h2 := digitsL_at p3 hp m a k (by omega); have h3 := digitsL_at p3 hp m b k (by omega); omega) (by have h1 := zipGo_getD (fun x y => (x + y) % p3) (digitsL p3 m a) (digitsL p3 m b) k (by omega) (by omega); have h2 := digitsL_at p3 hp m a k (by omega); have h3 := digitsL_at p3 hp m b k (by omega); omega))) rfl rfl rfl ?_
        refine wm_v rfl (fun _ => pc22) (fun w' hw' => (st_move (v := .int .i64 (p3)) rfl)) rfl rfl rfl ?_
        refine wm_v rfl (fun _ => pc22) (fun w' hw' => (st_rem rfl rfl (by have h1 := zipGo_getD (fun x y => (x + y) % p3) (digitsL p3 m a) (digitsL p3 m b) k (by omega) (by omega); have h2 := digitsL_at p3 hp m a k (by omega); have h3 := digitsL_at p3 hp m b k (by omega); omega) (by have h1 := zipGo_getD (fun x y => (x + y) % p3) (digitsL p3 m a) (digitsL p3 m b) k (by omega) (by omega); have h2 := digitsL_at p3 hp m a k (by omega); have h3 := digitsL_at p3 hp m b k (by omega); omega))) rfl rfl rfl ?_
        have hbdg32 : (k : Int) < (((zipGo (fun x y => (x + y) % p3) (digitsL p3 m a) (digitsL p3 m b) k).length : Nat) : Int) := (by have hzl := zipGo_len (fun x y => (x + y) % p3) (digitsL p3 m a) (digitsL p3 m b) k (by omega) (by omega); omega)
        refine wm_e rfl (fun _ => pc22) (st_idxB hd9 ty24 ty3 rfl rfl (by omega) hbdg32) rfl rfl rfl ?_
        rintro _ ⟨g32, rfl, hv31, hc29⟩
        try simp only [Int.toNat_natCast, Int.toNat_zero, Int.reduceToNat] at hc29 ⊢
        refine wm_tail (by decide) (fun _ => pc22) (fun j hj => by have hb : Nat.ble 14 j = true := (by rw [Nat.ble_eq]; omega); simp [hb]) ?_
        refine wl_storeB (q := (((zipGo (fun x y => (x + y) % p3) (digitsL p3 m a) (digitsL p3 m b) k).getD k 0) + ((digitsL (p3) (m) (b)).getD k 0)) % p3) hd9 ty3 rfl hv31 (by omega) rfl (fun _ _ => rfl) ?_
        intro w33 hb34 hg35 hs36
        have hown := Bl.own hd9 hv31
        have pw := pu_row pw hg35 (by intro q hq hlt; simp at hq; omega)
        have hs2 := Rep.ch hs2 hg35 (by intro q hq hlt; (try simp only [Lo, Iv]); simp at hq; omega)
        have hd13 := Bl.ch hd13 hg35 (by intro q hq hlt; simp at hq; omega)
        have hd9 := hb34
        try simp only [Int.toNat_natCast, Int.toNat_zero, Int.reduceToNat] at hd9
        refine wt_nil ?_
        refine wq_block_normal ?_
        refine wq_then ?_
        refine wc_region ?_
        refine wl_v (st_move (v := .int .i64 ((k : Int))) rfl) rfl rfl rfl ?_
        refine wl_v (st_add rfl rfl (by omega) (by omega)) rfl rfl rfl ?_
        refine wl_v (st_assign (v := .int .i64 ((k : Int) + 1)) rfl) rfl rfl rfl ?_
        refine wl_nil ?_
        refine wq_round (hI := ⟨k + 1, rfl, rfl, ?_, pw, hs2, (by have e : (zipGo (fun x y => (x + y) % p3) (digitsL p3 m a) (digitsL p3 m b) k).set k (((zipGo (fun x y => (x + y) % p3) (digitsL p3 m a) (digitsL p3 m b) k).getD k 0 + (digitsL p3 m b).getD k 0) % p3) = zipGo (fun x y => (x + y) % p3) (digitsL p3 m a) (digitsL p3 m b) (k + 1) := zipGo_set (fun x y => (x + y) % p3) (digitsL p3 m a) (digitsL p3 m b) k (by omega) (by omega); rw [e] at hd9; exact hd9), hd13⟩) (hm := ?_) (hf := ?_) rfl rfl
        · omega
        · omega
        · exact ⟨(by first | rfl | exact congrArg (Value.int _) (by omega) | go_num), (by first | rfl | exact congrArg (Value.int _) (by omega) | go_num), (by first | rfl | exact congrArg (Value.int _) (by omega) | go_num), (by first | rfl | exact congrArg (Value.int _) (by omega) | go_num), (by first | rfl | exact congrArg (Value.int _) (by omega) | go_num), (by first | rfl | exact congrArg (Value.int _) (by omega) | go_num), trivial⟩
      · intro h19
        have h19p : ¬ ((k : Int) < (m : Int)) := by first | simpa using h19 | (simp at h19; omega)
        refine wc_exit ?_
        refine wq_then_exit ?_
        refine wq_then_exit ?_
        refine wq_block_exit ?_
        refine wq_then ?_
        refine wc_seq ?_
        refine wc_region ?_
        refine wl_v (st_move (v := v10) rfl) rfl rfl rfl ?_
        refine wl_v (st_move (v := .int .i64 (p3)) rfl) rfl rfl rfl ?_
        refine wl_v (st_move (v := .int .i64 ((m : Int))) rfl) rfl rfl rfl ?_
        refine wl_call (vs := [v10, .int .i64 (p3), .int .i64 ((m : Int))]) C102 rfl rfl (rnumber_ok (v10) (zipGo (fun x y => (x + y) % p3) (digitsL p3 m a) (digitsL p3 m b) k) _ (p3) (m) _ (by omega) (by omega) (by have hzl := zipGo_len (fun x y => (x + y) % p3) (digitsL p3 m a) (digitsL p3 m b) k (by omega) (by omega); omega) (zipGo_bd (fun x y => mod_bd p3 hp _) (digitsL_bd' p3 hp m a)) (Bl.sl hd9)) ?_
        rintro _ w37 ⟨rfl, hn38⟩
        have pw := pu_trans pw hn38
        have hs2 := Rep.pu hs2 hn38
        have hd9 := Bl.pu hd9 hn38
        have hd13 := Bl.pu hd13 hn38
        have hzw37 := World.grownBy.size hn38
        refine wl_v (st_assign (v := .int .i64 (refNum (p3) ((zipGo (fun x y => (x + y) % p3) (digitsL p3 m a) (digitsL p3 m b) k).take (m)))) rfl) rfl rfl rfl ?_
        refine wl_nil ?_
        refine wq_then ?_
        refine wc_ret ?_
        refine wq_ret1 (v := .int .i64 (refNum (p3) ((zipGo (fun x y => (x + y) % p3) (digitsL p3 m a) (digitsL p3 m b) k).take (m)))) rfl rfl rfl ?_
        have hk : k = m := by omega
        subst hk
        have he := zipGo_all (fun x y => (x + y) % p3) (digitsL p3 k a) (digitsL p3 k b) (by rw [hl, hl2])
        rw [hl] at he
        rw [he, List.take_of_length_le (by simp; omega), refAdd_ext hq hne, hm2]
        exact ⟨rfl, pw⟩

set_option maxRecDepth 100000 in
theorem refMul_ok (q a b : Int) (w : World) (hp0 : 0 < (refField q).1) (ha : 0 ≤ a ∧ a < q) (hb : 0 ≤ b ∧ b < q) : Ret Tryd.prog 55 #[.int .i64 q, .int .i64 a, .int .i64 b] w fun v w' => v = .int .i64 (refMul q a b) ∧ w.grownBy w' none := by
  refine ret_in Tryd.func55 rfl rfl rfl ?_
  have pw := pu_refl w
  have hab := mul_bd ha.1 (show a ≤ 1000 + q by omega) hb.1 (show b ≤ 1000 + q by omega)
  refine wc_seq ?_
  refine wc_region ?_
  refine wl_v (st_assign (v := .int .i64 (0)) rfl) rfl rfl rfl ?_
  refine wl_nil ?_
  refine wq_then ?_
  refine wc_seq ?_
  refine wc_region ?_
  refine wl_v (st_move (v := .int .i64 (q)) rfl) rfl rfl rfl ?_
  obtain ⟨p3, poly4, hq5⟩ : ∃ p poly, refField (q) = (p, poly) := ⟨_, _, rfl⟩
  refine wl_call (vs := [.int .i64 (q)]) C53 rfl rfl ((by have h := rfield_ok (q) w; rw [hq5] at h; exact h)) ?_
  rintro _ w6 ⟨hn7, sv1, rfl, hs2⟩
  have pw := pu_trans pw hn7
  have hzw6 := World.grownBy.size hn7
  have hs2 : rI.R w6 (Lo w6.heap.size) sv1 poly4 := hs2
  refine wl_v (st_move (v := .tuple #[.int .i64 (p3), sv1]) rfl) rfl rfl rfl ?_
  refine wl_v (st_extract (v := .int .i64 (p3)) rfl rfl) rfl rfl rfl ?_
  refine wl_v (st_extract (v := sv1) rfl rfl) rfl rfl rfl ?_
  refine wl_v (st_assign (v := .int .i64 (p3)) rfl) rfl rfl rfl ?_
  refine wl_v (st_assign (v := sv1) rfl) rfl rfl rfl ?_
  refine wl_nil ?_
  refine wq_then ?_
  refine wc_seq ?_
  refine wc_seq ?_
  have hq := hq5
  rw [hq] at hp0
  obtain ⟨hb1, hb2, hb3, hb4, hb5⟩ := refField_bd hq hp0
  have hp : 2 ≤ p3 ∧ p3 ≤ 13 := ⟨hb1, hb2⟩
  refine wc_region ?_
  refine wl_v (st_move (v := sv1) rfl) rfl rfl rfl ?_
  refine wl_v (st_lenS hs2 ty24 rfl) rfl rfl rfl ?_
  refine wl_v (st_eql rfl rfl) rfl rfl rfl ?_
  refine wl_nil ?_
  refine wq_then ?_
  refine wc_cond rfl ?_ ?_
  · intro h8
    have h8p : ((poly4).length : Int) = 0 := by first | simpa using h8 | (simp at h8; omega)
    refine wc_seq ?_
    have hab2 := mul_bd ha.1 (show a ≤ 16 by omega) hb.1 (show b ≤ 16 by omega)
    refine wc_region ?_
    refine wl_v (st_move (v := .int .i64 (a)) rfl) rfl rfl rfl ?_
    refine wl_v (st_move (v := .int .i64 (b)) rfl) rfl rfl rfl ?_
    refine wl_v (st_mul rfl rfl (by omega) (by omega)) rfl rfl rfl ?_
    refine wl_v (st_move (v := .int .i64 (p3)) rfl) rfl rfl rfl ?_
    refine wl_v (st_rem rfl rfl (by omega) (by omega)) rfl rfl rfl ?_
    refine wl_v (st_assign (v := .int .i64 ((a * b) % p3)) rfl) rfl rfl rfl ?_
    refine wl_nil ?_
    refine wq_then ?_
    refine wc_ret ?_
    refine wq_then_ret ?_
    refine wq_ret1 (v := .int .i64 ((a * b) % p3)) rfl rfl rfl ?_
    exact ⟨congrArg (Value.int .i64) (refMul_nil hq (List.eq_nil_of_length_eq_zero (by omega))).symm, pw⟩
  · intro h8
    have h8p : ¬ (((poly4).length : Int) = 0) := by first | simpa using h8 | (simp at h8; omega)
    refine wc_skip ?_
    refine wq_then ?_
    refine wc_seq ?_
    have hne : poly4 ≠ [] := by intro h; have h9 : (poly4).length = 0 := (by rw [h]; rfl); omega
    obtain ⟨hc1, hc2, hc3, hc4⟩ := hb5.resolve_left hne
    refine wc_region ?_
    refine wl_v (st_move (v := sv1) rfl) rfl rfl rfl ?_
    refine wl_v (st_lenS hs2 ty24 rfl) rfl rfl rfl ?_
    refine wl_v (st_sub rfl rfl (by omega) (by omega)) rfl rfl rfl ?_
    obtain ⟨m, hm⟩ : ∃ m : Nat, ((poly4).length : Int) - 1 = (m : Int) := ⟨(poly4).length - 1, by omega⟩
    rw [hm]
    have hm2 : (poly4).length - 1 = m := by omega
    refine wl_v (st_assign (v := .int .i64 ((m : Int))) rfl) rfl rfl rfl ?_
    refine wl_nil ?_
    refine wq_then ?_
    refine wc_seq ?_
    refine wc_region ?_
    refine wl_v (st_move (v := .int .i64 (a)) rfl) rfl rfl rfl ?_
    refine wl_v (st_move (v := .int .i64 (p3)) rfl) rfl rfl rfl ?_
    refine wl_v (st_move (v := .int .i64 ((m : Int))) rfl) rfl rfl rfl ?_
    refine wl_call (vs := [.int .i64 (a), .int .i64 (p3), .int .i64 ((m : Int))]) C101 rfl rfl (rdigits_ok (a) (p3) (m) _ (by omega) (by omega) (by omega)) ?_
    rintro v10 w11 ⟨hn12, hd9⟩
    have pw := pu_trans pw hn12
    have hs2 := Rep.pu hs2 hn12
    have hzw11 := World.grownBy.size hn12
    refine wl_v (st_move (v := .int .i64 (b)) rfl) rfl rfl rfl ?_
    refine wl_v (st_move (v := .int .i64 (p3)) rfl) rfl rfl rfl ?_
    refine wl_v (st_move (v := .int .i64 ((m : Int))) rfl) rfl rfl rfl ?_
    refine wl_call (vs := [.int .i64 (b), .int .i64 (p3), .int .i64 ((m : Int))]) C101 rfl rfl (rdigits_ok (b) (p3) (m) _ (by omega) (by omega) (by omega)) ?_
    rintro v14 w15 ⟨hn16, hd13⟩
    have pw := pu_trans pw hn16
    have hs2 := Rep.pu hs2 hn16
    have hd9 := Bl.pu hd9 hn16
    have hzw15 := World.grownBy.size hn16
    refine wl_v (st_assign (v := v10) rfl) rfl rfl rfl ?_
    refine wl_v (st_assign (v := v14) rfl) rfl rfl rfl ?_
    refine wl_nil ?_
    refine wq_then ?_
    refine wc_seq ?_
    refine wc_region ?_
    refine wl_v (st_move (v := .int .i64 (p3)) rfl) rfl rfl rfl ?_
    refine wl_v (st_move (v := .int .i64 ((m : Int))) rfl) rfl rfl rfl ?_
    refine wl_v (st_mul rfl rfl (by omega) (by omega)) rfl rfl rfl ?_
    rw [show 2 * (m : Int) = ((2 * m : Nat) : Int) by omega]
    refine wl_call (vs := [.int .i64 (0), .int .i64 (p3), .int .i64 (((2 * m : Nat) : Int))]) C101 rfl rfl (rdigits_ok (0) (p3) ((2 * m : Nat)) _ (by omega) (by omega) (by omega)) ?_
    rintro v18 w19 ⟨hn20, hd17⟩
    have pw := pu_trans pw hn20
    have hs2 := Rep.pu hs2 hn20
    have hd9 := Bl.pu hd9 hn20
    have hd13 := Bl.pu hd13 hn20
    have hzw19 := World.grownBy.size hn20
    refine wl_v (st_assign (v := v18) rfl) rfl rfl rfl ?_
    refine wl_nil ?_
    refine wq_then ?_
    refine wc_seq ?_
    refine wc_seq ?_
    refine wc_region ?_
    refine wl_v (st_assign (v := .int .i64 (0)) rfl) rfl rfl rfl ?_
    refine wl_nil ?_
    refine wq_then ?_
    refine wc_block ?_
    have hl := digitsL_len p3 m a
    have hl2 := digitsL_len p3 m b
    refine wc_loop (fun fl mm w' => ∃ i : Nat, ∃ dd : List Int, fl = [(6, .int .i64 (0)), (7, .int .i64 (p3)), (8, sv1), (9, .int .i64 ((m : Int))), (10, v10), (11, v14), (12, v18), (13, .int .i64 ((i : Int)))] ∧ mm = m - i ∧ (i ≤ m) ∧ (dd = (List.range i).foldl (mulRow p3 (digitsL p3 m a) (digitsL p3 m b) m) (digitsL p3 (2 * m) 0)) ∧ (dd.length = 2 * m) ∧ (∀ x ∈ dd, 0 ≤ x ∧ x ≤ p3 - 1) ∧ w.grownBy w' none ∧ rI.R w' (Lo w6.heap.size) (sv1) (poly4) ∧ Bl iR 3 w' (w6.heap.size) (w11.heap.size) (v10) (digitsL (p3) (m) (a)) ∧ Bl iR 3 w' (w11.heap.size) (w15.heap.size) (v14) (digitsL (p3) (m) (b)) ∧ Bl iR 3 w' (w15.heap.size) (w19.heap.size) (v18) (dd)) (h0 := ⟨0, (digitsL p3 (2 * m) 0), rfl, rfl, ?_, ?_, ?_, ?_, pw, hs2, hd9, hd13, hd17⟩) (hf := ⟨(by first | rfl | exact congrArg (Value.int _) (by omega) | go_num), (by first | rfl | exact congrArg (Value.int _) (by omega) | go_num), (by first | rfl | exact congrArg (Value.int _) (by omega) | go_num), (by first | rfl | exact congrArg (Value.int _) (by omega) | go_num), (by first | rfl | exact congrArg (Value.int _) (by omega) | go_num), (by first | rfl | exact congrArg (Value.int _) (by omega) | go_num), (by first | rfl | exact congrArg (Value.int _) (by omega) | go_num), (by first | rfl | exact congrArg (Value.int _) (by omega) | go_num), trivial⟩) ?_
    · omega
    · rfl
    · (exact digitsL_len p3 (2 * m) 0)
    · (exact digitsL_bd2 p3 hp.1 (2 * m) 0)
    · skip
      rintro _ _ w21 s22 ⟨i, dd, rfl, rfl, p1_1, p1_2, p1_3, p1_4, pw, hs2, hd9, hd13, hd17⟩
      refine wc_seq ?_
      refine wc_seq ?_
      refine wc_region ?_
      refine wl_v (st_move (v := .int .i64 ((i : Int))) rfl) rfl rfl rfl ?_
      refine wl_v (st_move (v := .int .i64 ((m : Int))) rfl) rfl rfl rfl ?_
      refine wl_v (st_lss rfl rfl) rfl rfl rfl ?_
      refine wl_nil ?_
      refine wq_then ?_
      refine wc_cond rfl ?_ ?_
      · intro h23
        have h23p : (i : Int) < (m : Int) := by first | simpa using h23 | (simp at h23; omega)
        refine wc_skip ?_
        refine wq_then ?_
        refine wc_seq ?_
        refine wc_block ?_
        refine wc_seq ?_
        refine wc_region ?_
        refine wl_v (st_assign (v := .int .i64 (0)) rfl) rfl rfl rfl ?_
        refine wl_nil ?_
        refine wq_then ?_
        refine wc_block ?_
        refine wc_loop (fun fl mm w' => ∃ k : Nat, ∃ ee : List Int, fl = [(6, .int .i64 (0)), (7, .int .i64 (p3)), (8, sv1), (9, .int .i64 ((m : Int))), (10, v10), (11, v14), (12, v18), (13, .int .i64 ((i : Int))), (14, .int .i64 ((k : Int)))] ∧ mm = m - k ∧ (k ≤ m) ∧ (ee = (List.range k).foldl (mulIn p3 (digitsL p3 m a) (digitsL p3 m b) i) dd) ∧ (ee.length = 2 * m) ∧ (∀ x ∈ ee, 0 ≤ x ∧ x ≤ p3 - 1) ∧ w.grownBy w' none ∧ rI.R w' (Lo w6.heap.size) (sv1) (poly4) ∧ Bl iR 3 w' (w6.heap.size) (w11.heap.size) (v10) (digitsL (p3) (m) (a)) ∧ Bl iR 3 w' (w11.heap.size) (w15.heap.size) (v14) (digitsL (p3) (m) (b)) ∧ Bl iR 3 w' (w15.heap.size) (w19.heap.size) (v18) (ee)) (h0 := ⟨0, dd, rfl, rfl, ?_, ?_, ?_, ?_, pw, hs2, hd9, hd13, hd17⟩) (hf := ⟨(by first | rfl | exact congrArg (Value.int _) (by omega) | go_num), (by first | rfl | exact congrArg (Value.int _) (by omega) | go_num), (by first | rfl | exact congrArg (Value.int _) (by omega) | go_num), (by first | rfl | exact congrArg (Value.int _) (by omega) | go_num), (by first | rfl | exact congrArg (Value.int _) (by omega) | go_num), (by first | rfl | exact congrArg (Value.int _) (by omega) | go_num), (by first | rfl | exact congrArg (Value.int _) (by omega) | go_num), (by first | rfl | exact congrArg (Value.int _) (by omega) | go_num), (by first | rfl | exact congrArg (Value.int _) (by omega) | go_num), trivial⟩) ?_
        · omega
        · rfl
        · omega
        · (exact p1_4)
        · skip
          rintro _ _ w24 s25 ⟨k, ee, rfl, rfl, p2_1, p2_2, p2_3, p2_4, pw, hs2, hd9, hd13, hd17⟩
          refine wc_seq ?_
          refine wc_seq ?_
          refine wc_region ?_
          refine wl_v (st_move (v := .int .i64 ((k : Int))) rfl) rfl rfl rfl ?_
          refine wl_v (st_move (v := .int .i64 ((m : Int))) rfl) rfl rfl rfl ?_
          refine wl_v (st_lss rfl rfl) rfl rfl rfl ?_
          refine wl_nil ?_
          refine wq_then ?_
          refine wc_cond rfl ?_ ?_
          · intro h26
            have h26p : (k : Int) < (m : Int) := by first | simpa using h26 | (simp at h26; omega)
            refine wc_skip ?_
            refine wq_then ?_
            refine wc_seq ?_
            refine wc_block ?_
            refine wc_region_mix (fun w' => (w24.drew).grownBy w' none) (fun k => (false) || Nat.ble 23 k) 23 (by kernel_rfl) (by kernel_rfl) (by kernel_rfl) ?_
            obtain ⟨w27, ew27⟩ : ∃ q, q = w24.drew := ⟨_, rfl⟩
            rw [← ew27]
            have hn28 : w24.grownBy w27 none := by rw [ew27]; exact ch_drew _
            have hsw27 : w27.heap.size = w24.heap.size := by rw [ew27]; rfl
            clear ew27
            have pw := pu_trans pw hn28
            have hs2 := Rep.pu hs2 hn28
            have hd9 := Bl.pu hd9 hn28
            have hd13 := Bl.pu hd13 hn28
            have hd17 := Bl.pu hd17 hn28
            have pc29 := pu_refl w27
            refine wm_v rfl (fun _ => pc29) (fun w' hw' => (st_move (v := v18) rfl)) rfl rfl rfl ?_
            refine wm_v rfl (fun _ => pc29) (fun w' hw' => (st_move (v := .int .i64 ((i : Int))) rfl)) rfl rfl rfl ?_
            refine wm_v rfl (fun _ => pc29) (fun w' hw' => (st_move (v := .int .i64 ((k : Int))) rfl)) rfl rfl rfl ?_
            refine wm_v rfl (fun _ => pc29) (fun w' hw' => (st_add rfl rfl (by omega) (by omega))) rfl rfl rfl ?_
            rw [show (i : Int) + (k : Int) = ((i + k : Nat) : Int) by omega]
            refine wm_v rfl (fun _ => pc29) (fun w' hw' => (st_move (v := v18) rfl)) rfl rfl rfl ?_
            refine wm_v rfl (fun _ => pc29) (fun w' hw' => (st_move (v := .int .i64 ((i : Int))) rfl)) rfl rfl rfl ?_
            refine wm_v rfl (fun _ => pc29) (fun w' hw' => (st_move (v := .int .i64 ((k : Int))) rfl)) rfl rfl rfl ?_
            refine wm_v rfl (fun _ => pc29) (fun w' hw' => (st_add rfl rfl (by omega) (by omega))) rfl rfl rfl ?_
            rw [show (i : Int) + (k : Int) = ((i + k : Nat) : Int) by omega]
            refine wm_e rfl (fun _ => pc29) (st_idxI (Bl.sl hd17) ty24 ty3 rfl rfl (by omega) (by omega)) rfl rfl rfl ?_
            rintro _ ⟨a31, rfl, hc30⟩
            simp only [Int.toNat_natCast] at hc30
            refine wm_v rfl (fun _ => pc29) (fun w' hw' => (st_load ty3 rfl rfl (cell_pu hw' hc30))) rfl rfl rfl ?_
            refine wm_v rfl (fun _ => pc29) (fun w' hw' => (st_move (v := v10) rfl)) rfl rfl rfl ?_
            refine wm_v rfl (fun _ => pc29) (fun w' hw' => (st_move (v := .int .i64 ((i : Int))) rfl)) rfl rfl rfl ?_
            refine wm_e rfl (fun _ => pc29) (st_idxI (Bl.sl hd9) ty24 ty3 rfl rfl (by omega) (by omega)) rfl rfl rfl ?_
            rintro _ ⟨a33, rfl, hc32⟩
            simp only [Int.toNat_natCast] at hc32
            refine wm_v rfl (fun _ => pc29) (fun w' hw' => (st_load ty3 rfl rfl (cell_pu hw' hc32))) rfl rfl rfl ?_
            refine wm_v rfl (fun _ => pc29) (fun w' hw' => (st_move (v := v14) rfl)) rfl rfl rfl ?_
            refine wm_v rfl (fun _ => pc29) (fun w' hw' => (st_move (v := .int .i64 ((k : Int))) rfl)) rfl rfl rfl ?_
            refine wm_e rfl (fun _ => pc29) (st_idxI (Bl.sl hd13) ty24 ty3 rfl rfl (by omega) (by omega)) rfl rfl rfl ?_
            rintro _ ⟨a35, rfl, hc34⟩
            simp only [Int.toNat_natCast] at hc34
            refine wm_v rfl (fun _ => pc29) (fun w' hw' => (st_load ty3 rfl rfl (cell_pu hw' hc34))) rfl rfl rfl ?_
            refine wm_v rfl (fun _ => pc29) (fun w' hw' => (st_mul rfl rfl (by have h1 := at_bd ee (p3 - 1) (by omega) p2_4 (i + k); have h2 := digitsL_at p3 hp m a i (by omega); have h3 := digitsL_at p3 hp m b k (by omega); have h4 := mul_bd h2.1 h2.2 h3.1 h3.2; omega) (by have h1 := at_bd ee (p3 - 1) (by omega) p2_4 (i + k); have h2 := digitsL_at p3 hp m a i (by omega); have h3 := digitsL_at p3 hp m b k (by omega); have h4 := mul_bd h2.1 h2.2 h3.1 h3.2; omega))) rfl rfl rfl ?_
            refine wm_v rfl (fun _ => pc29) (fun w' hw' => (st_add rfl rfl (by have h1 := at_bd ee (p3 - 1) (by omega) p2_4 (i + k); have h2 := digitsL_at p3 hp m a i (by omega); have h3 := digitsL_at p3 hp m b k (by omega); have h4 := mul_bd h2.1 h2.2 h3.1 h3.2; omega) (by have h1 := at_bd ee (p3 - 1) (by omega) p2_4 (i + k); have h2 := digitsL_at p3 hp m a i (by omega); have h3 := digitsL_at p3 hp m b k (by omega); have h4 := mul_bd h2.1 h2.2 h3.1 h3.2; omega))) rfl rfl rfl ?_
            refine wm_v rfl (fun _ => pc29) (fun w' hw' => (st_move (v := .int .i64 (p3)) rfl)) rfl rfl rfl ?_
            refine wm_v rfl (fun _ => pc29) (fun w' hw' => (st_rem rfl rfl (by have h1 := at_bd ee (p3 - 1) (by omega) p2_4 (i + k); have h2 := digitsL_at p3 hp m a i (by omega); have h3 := digitsL_at p3 hp m b k (by omega); have h4 := mul_bd h2.1 h2.2 h3.1 h3.2; omega) (by have h1 := at_bd ee (p3 - 1) (by omega) p2_4 (i + k); have h2 := digitsL_at p3 hp m a i (by omega); have h3 := digitsL_at p3 hp m b k (by omega); have h4 := mul_bd h2.1 h2.2 h3.1 h3.2; omega))) rfl rfl rfl ?_
            have hbdg39 : ((i + k : Nat) : Int) < (((ee).length : Nat) : Int) := (by omega)
            refine wm_e rfl (fun _ => pc29) (st_idxB hd17 ty24 ty3 rfl rfl (by omega) hbdg39) rfl rfl rfl ?_
            rintro _ ⟨g39, rfl, hv38, hc36⟩
            try simp only [Int.toNat_natCast, Int.toNat_zero, Int.reduceToNat] at hc36 ⊢
            refine wm_tail (by decide) (fun _ => pc29) (fun j hj => by have hb : Nat.ble 23 j = true := (by rw [Nat.ble_eq]; omega); simp [hb]) ?_
            refine wl_storeB (q := (((ee).getD (i + k : Nat) 0) + (((digitsL (p3) (m) (a)).getD i 0) * ((digitsL (p3) (m) (b)).getD k 0))) % p3) hd17 ty3 rfl hv38 (by omega) rfl (fun _ _ => rfl) ?_
            intro w40 hb41 hg42 hs43
            have hown := Bl.own hd17 hv38
            have pw := pu_row pw hg42 (by intro q hq hlt; simp at hq; omega)
            have hs2 := Rep.ch hs2 hg42 (by intro q hq hlt; (try simp only [Lo, Iv]); simp at hq; omega)
            have hd9 := Bl.ch hd9 hg42 (by intro q hq hlt; simp at hq; omega)
            have hd13 := Bl.ch hd13 hg42 (by intro q hq hlt; simp at hq; omega)
            have hd17 := hb41
            try simp only [Int.toNat_natCast, Int.toNat_zero, Int.reduceToNat] at hd17
            refine wt_nil ?_
            refine wq_block_normal ?_
            refine wq_then ?_
            refine wc_region ?_
            refine wl_v (st_move (v := .int .i64 ((k : Int))) rfl) rfl rfl rfl ?_
            refine wl_v (st_add rfl rfl (by omega) (by omega)) rfl rfl rfl ?_
            refine wl_v (st_assign (v := .int .i64 ((k : Int) + 1)) rfl) rfl rfl rfl ?_
            refine wl_nil ?_
            refine wq_round (hI := ⟨k + 1, (mulIn p3 (digitsL p3 m a) (digitsL p3 m b) i ee k), rfl, rfl, ?_, ?_, ?_, ?_, pw, hs2, hd9, hd13, hd17⟩) (hm := ?_) (hf := ?_) rfl rfl
            · omega
            · (rw [← fold_succ, ← p2_2])
            · (rw [mulIn, List.length_set]; omega)
            · (exact set_bd p2_4 (mod_bd' p3 hp.1 _))
            · omega
            · exact ⟨(by first | rfl | exact congrArg (Value.int _) (by omega) | go_num), (by first | rfl | exact congrArg (Value.int _) (by omega) | go_num), (by first | rfl | exact congrArg (Value.int _) (by omega) | go_num), (by first | rfl | exact congrArg (Value.int _) (by omega) | go_num), (by first | rfl | exact congrArg (Value.int _) (by omega) | go_num), (by first | rfl | exact congrArg (Value.int _) (by omega) | go_num), (by first | rfl | exact congrArg (Value.int _) (by omega) | go_num), (by first | rfl | exact congrArg (Value.int _) (by omega) | go_num), (by first | rfl | exact congrArg (Value.int _) (by omega) | go_num), trivial⟩
          · intro h26
            have h26p : ¬ ((k : Int) < (m : Int)) := by first | simpa using h26 | (simp at h26; omega)
            refine wc_exit ?_
            refine wq_then_exit ?_
            refine wq_then_exit ?_
            refine wq_block_exit ?_
            refine wq_block_normal ?_
            refine wq_then ?_
            refine wc_region ?_
            refine wl_v (st_move (v := .int .i64 ((i : Int))) rfl) rfl rfl rfl ?_
            refine wl_v (st_add rfl rfl (by omega) (by omega)) rfl rfl rfl ?_
            refine wl_v (st_assign (v := .int .i64 ((i : Int) + 1)) rfl) rfl rfl rfl ?_
            refine wl_nil ?_
            refine wq_round (hI := ⟨i + 1, ee, rfl, rfl, ?_, ?_, ?_, ?_, pw, hs2, hd9, hd13, hd17⟩) (hm := ?_) (hf := ?_) rfl rfl
            · omega
            · (rw [← fold_succ, ← p1_2, show mulRow p3 (digitsL p3 m a) (digitsL p3 m b) m dd i = (List.range m).foldl (mulIn p3 (digitsL p3 m a) (digitsL p3 m b) i) dd from rfl]; rw [show k = m by omega] at p2_2; exact p2_2)
            · omega
            · (exact p2_4)
            · omega
            · exact ⟨(by first | rfl | exact congrArg (Value.int _) (by omega) | go_num), (by first | rfl | exact congrArg (Value.int _) (by omega) | go_num), (by first | rfl | exact congrArg (Value.int _) (by omega) | go_num), (by first | rfl | exact congrArg (Value.int _) (by omega) | go_num), (by first | rfl | exact congrArg (Value.int _) (by omega) | go_num), (by first | rfl | exact congrArg (Value.int _) (by omega) | go_num), (by first | rfl | exact congrArg (Value.int _) (by omega) | go_num), (by first | rfl | exact congrArg (Value.int _) (by omega) | go_num), trivial⟩
      · intro h23
        have h23p : ¬ ((i : Int) < (m : Int)) := by first | simpa using h23 | (simp at h23; omega)
        refine wc_exit ?_
        refine wq_then_exit ?_
        refine wq_then_exit ?_
        refine wq_block_exit ?_
        refine wq_then ?_
        refine wc_seq ?_
        refine wc_seq ?_
        refine wc_region ?_
        refine wl_v (st_move (v := .int .i64 ((m : Int))) rfl) rfl rfl rfl ?_
        refine wl_v (st_mul rfl rfl (by omega) (by omega)) rfl rfl rfl ?_
        refine wl_v (st_sub rfl rfl (by omega) (by omega)) rfl rfl rfl ?_
        refine wl_v (st_assign (v := .int .i64 ((2 * (m : Int)) - 1)) rfl) rfl rfl rfl ?_
        refine wl_nil ?_
        refine wq_then ?_
        refine wc_block ?_
        refine wc_loop (fun fl mm w' => ∃ j : Nat, ∃ ff : List Int, fl = [(6, .int .i64 (0)), (7, .int .i64 (p3)), (8, sv1), (9, .int .i64 ((m : Int))), (12, v18), (15, .int .i64 (((2 * m - 1 - j : Nat) : Int)))] ∧ mm = m - j ∧ (j ≤ m) ∧ (ff = (List.range j).foldl (redRow p3 poly4 m) ((List.range m).foldl (mulRow p3 (digitsL p3 m a) (digitsL p3 m b) m) (digitsL p3 (2 * m) 0))) ∧ (ff.length = 2 * m) ∧ (∀ x ∈ ff, 0 ≤ x ∧ x ≤ p3 - 1) ∧ w.grownBy w' none ∧ rI.R w' (Lo w6.heap.size) (sv1) (poly4) ∧ Bl iR 3 w' (w6.heap.size) (w11.heap.size) (v10) (digitsL (p3) (m) (a)) ∧ Bl iR 3 w' (w11.heap.size) (w15.heap.size) (v14) (digitsL (p3) (m) (b)) ∧ Bl iR 3 w' (w15.heap.size) (w19.heap.size) (v18) (ff)) (h0 := ⟨0, dd, rfl, rfl, ?_, ?_, ?_, ?_, pw, hs2, hd9, hd13, hd17⟩) (hf := ⟨(by first | rfl | exact congrArg (Value.int _) (by omega) | go_num), (by first | rfl | exact congrArg (Value.int _) (by omega) | go_num), (by first | rfl | exact congrArg (Value.int _) (by omega) | go_num), (by first | rfl | exact congrArg (Value.int _) (by omega) | go_num), (by first | rfl | exact congrArg (Value.int _) (by omega) | go_num), (by first | rfl | exact congrArg (Value.int _) (by omega) | go_num), trivial⟩) ?_
        · omega
        · (rw [p1_2, show i = m by omega]; rfl)
        · omega
        · (exact p1_4)
        · skip
          rintro _ _ w44 s45 ⟨j, ff, rfl, rfl, p3_1, p3_2, p3_3, p3_4, pw, hs2, hd9, hd13, hd17⟩
          refine wc_seq ?_
          refine wc_seq ?_
          refine wc_region ?_
          refine wl_v (st_move (v := .int .i64 (((2 * m - 1 - j : Nat) : Int))) rfl) rfl rfl rfl ?_
          refine wl_v (st_move (v := .int .i64 ((m : Int))) rfl) rfl rfl rfl ?_
          refine wl_v (st_geq rfl rfl) rfl rfl rfl ?_
          refine wl_nil ?_
          refine wq_then ?_
          refine wc_cond rfl ?_ ?_
          · intro h46
            have h46p : (m : Int) ≤ ((2 * m - 1 - j : Nat) : Int) := by first | simpa using h46 | (simp at h46; omega)
            refine wc_skip ?_
            refine wq_then ?_
            refine wc_seq ?_
            refine wc_block ?_
            refine wc_seq ?_
            refine wc_region ?_
            refine wl_v (st_move (v := v18) rfl) rfl rfl rfl ?_
            refine wl_v (st_move (v := .int .i64 (((2 * m - 1 - j : Nat) : Int))) rfl) rfl rfl rfl ?_
            refine wl_e (st_idxI (Bl.sl hd17) ty24 ty3 rfl rfl (by omega) (by omega)) rfl rfl rfl ?_
            rintro _ ⟨a48, rfl, hc47⟩
            simp only [Int.toNat_natCast] at hc47
            refine wl_v (st_load ty3 rfl rfl hc47) rfl rfl rfl ?_
            refine wl_v (st_assign (v := .int .i64 ((ff).getD (2 * m - 1 - j : Nat) 0)) rfl) rfl rfl rfl ?_
            refine wl_nil ?_
            refine wq_then ?_
            refine wc_seq ?_
            refine wc_region ?_
            refine wl_v (st_assign (v := .int .i64 (0)) rfl) rfl rfl rfl ?_
            refine wl_nil ?_
            refine wq_then ?_
            refine wc_block ?_
            refine wc_loop (fun fl mm w' => ∃ r : Nat, ∃ gg : List Int, fl = [(6, .int .i64 (0)), (7, .int .i64 (p3)), (8, sv1), (9, .int .i64 ((m : Int))), (12, v18), (15, .int .i64 (((2 * m - 1 - j : Nat) : Int))), (16, .int .i64 ((ff).getD (2 * m - 1 - j : Nat) 0)), (17, .int .i64 ((r : Int)))] ∧ mm = m + 1 - r ∧ (r ≤ m + 1) ∧ (gg = (List.range r).foldl (redIn p3 poly4 m (2 * m - 1 - j) (ff.getD (2 * m - 1 - j) 0)) ff) ∧ (gg.length = 2 * m) ∧ (∀ x ∈ gg, 0 ≤ x ∧ x ≤ p3 - 1) ∧ w.grownBy w' none ∧ rI.R w' (Lo w6.heap.size) (sv1) (poly4) ∧ Bl iR 3 w' (w6.heap.size) (w11.heap.size) (v10) (digitsL (p3) (m) (a)) ∧ Bl iR 3 w' (w11.heap.size) (w15.heap.size) (v14) (digitsL (p3) (m) (b)) ∧ Bl iR 3 w' (w15.heap.size) (w19.heap.size) (v18) (gg)) (h0 := ⟨0, ff, rfl, rfl, ?_, ?_, ?_, ?_, pw, hs2, hd9, hd13, hd17⟩) (hf := ⟨(by first | rfl | exact congrArg (Value.int _) (by omega) | go_num), (by first | rfl | exact congrArg (Value.int _) (by omega) | go_num), (by first | rfl | exact congrArg (Value.int _) (by omega) | go_num), (by first | rfl | exact congrArg (Value.int _) (by omega) | go_num), (by first | rfl | exact congrArg (Value.int _) (by omega) | go_num), (by first | rfl | exact congrArg (Value.int _) (by omega) | go_num), (by first | rfl | exact congrArg (Value.int _) (by omega) | go_num), (by first | rfl | exact congrArg (Value.int _) (by omega) | go_num), trivial⟩) ?_
            · omega
            · rfl
            · omega
            · (exact p3_4)
            · skip
              rintro _ _ w49 s50 ⟨r, gg, rfl, rfl, p4_1, p4_2, p4_3, p4_4, pw, hs2, hd9, hd13, hd17⟩
              refine wc_seq ?_
              refine wc_seq ?_
              refine wc_region ?_
              refine wl_v (st_move (v := .int .i64 ((r : Int))) rfl) rfl rfl rfl ?_
              refine wl_v (st_move (v := .int .i64 ((m : Int))) rfl) rfl rfl rfl ?_
              refine wl_v (st_leq rfl rfl) rfl rfl rfl ?_
              refine wl_nil ?_
              refine wq_then ?_
              refine wc_cond rfl ?_ ?_
              · intro h51
                have h51p : (r : Int) ≤ (m : Int) := by first | simpa using h51 | (simp at h51; omega)
                refine wc_skip ?_
                refine wq_then ?_
                refine wc_seq ?_
                refine wc_block ?_
                refine wc_region_mix (fun w' => (w49.drew).grownBy w' none) (fun k => (false) || Nat.ble 26 k) 26 (by kernel_rfl) (by kernel_rfl) (by kernel_rfl) ?_
                obtain ⟨w52, ew52⟩ : ∃ q, q = w49.drew := ⟨_, rfl⟩
                rw [← ew52]
                have hn53 : w49.grownBy w52 none := by rw [ew52]; exact ch_drew _
                have hsw52 : w52.heap.size = w49.heap.size := by rw [ew52]; rfl
                clear ew52
                have pw := pu_trans pw hn53
                have hs2 := Rep.pu hs2 hn53
                have hd9 := Bl.pu hd9 hn53
                have hd13 := Bl.pu hd13 hn53
                have hd17 := Bl.pu hd17 hn53
                have pc54 := pu_refl w52
                refine wm_v rfl (fun _ => pc54) (fun w' hw' => (st_move (v := v18) rfl)) rfl rfl rfl ?_
                refine wm_v rfl (fun _ => pc54) (fun w' hw' => (st_move (v := .int .i64 (((2 * m - 1 - j : Nat) : Int))) rfl)) rfl rfl rfl ?_
                refine wm_v rfl (fun _ => pc54) (fun w' hw' => (st_move (v := .int .i64 ((m : Int))) rfl)) rfl rfl rfl ?_
                refine wm_v rfl (fun _ => pc54) (fun w' hw' => (st_sub rfl rfl (by omega) (by omega))) rfl rfl rfl ?_
                rw [show ((2 * m - 1 - j : Nat) : Int) - (m : Int) = ((2 * m - 1 - j - m : Nat) : Int) by omega]
                refine wm_v rfl (fun _ => pc54) (fun w' hw' => (st_move (v := .int .i64 ((r : Int))) rfl)) rfl rfl rfl ?_
                refine wm_v rfl (fun _ => pc54) (fun w' hw' => (st_add rfl rfl (by omega) (by omega))) rfl rfl rfl ?_
                rw [show ((2 * m - 1 - j - m : Nat) : Int) + (r : Int) = ((2 * m - 1 - j - m + r : Nat) : Int) by omega]
                refine wm_v rfl (fun _ => pc54) (fun w' hw' => (st_move (v := v18) rfl)) rfl rfl rfl ?_
                refine wm_v rfl (fun _ => pc54) (fun w' hw' => (st_move (v := .int .i64 (((2 * m - 1 - j : Nat) : Int))) rfl)) rfl rfl rfl ?_
                refine wm_v rfl (fun _ => pc54) (fun w' hw' => (st_move (v := .int .i64 ((m : Int))) rfl)) rfl rfl rfl ?_
                refine wm_v rfl (fun _ => pc54) (fun w' hw' => (st_sub rfl rfl (by omega) (by omega))) rfl rfl rfl ?_
                rw [show ((2 * m - 1 - j : Nat) : Int) - (m : Int) = ((2 * m - 1 - j - m : Nat) : Int) by omega]
                refine wm_v rfl (fun _ => pc54) (fun w' hw' => (st_move (v := .int .i64 ((r : Int))) rfl)) rfl rfl rfl ?_
                refine wm_v rfl (fun _ => pc54) (fun w' hw' => (st_add rfl rfl (by omega) (by omega))) rfl rfl rfl ?_
                rw [show ((2 * m - 1 - j - m : Nat) : Int) + (r : Int) = ((2 * m - 1 - j - m + r : Nat) : Int) by omega]
                refine wm_e rfl (fun _ => pc54) (st_idxI (Bl.sl hd17) ty24 ty3 rfl rfl (by omega) (by omega)) rfl rfl rfl ?_
                rintro _ ⟨a56, rfl, hc55⟩
                simp only [Int.toNat_natCast] at hc55
                refine wm_v rfl (fun _ => pc54) (fun w' hw' => (st_load ty3 rfl rfl (cell_pu hw' hc55))) rfl rfl rfl ?_
                refine wm_v rfl (fun _ => pc54) (fun w' hw' => (st_move (v := .int .i64 (p3)) rfl)) rfl rfl rfl ?_
                refine wm_v rfl (fun _ => pc54) (fun w' hw' => (st_move (v := .int .i64 ((ff).getD (2 * m - 1 - j : Nat) 0)) rfl)) rfl rfl rfl ?_
                refine wm_v rfl (fun _ => pc54) (fun w' hw' => (st_sub rfl rfl (by have h1 := at_bd gg (p3 - 1) (by omega) p4_4 (2 * m - 1 - j - m + r); have h2 := at_bd ff (p3 - 1) (by omega) p3_4 (2 * m - 1 - j); have h3 := at_bd poly4 1 (by omega) hc4 r; have h4 := mul_bd (show 0 ≤ p3 - (ff.getD (2 * m - 1 - j) 0) by omega) (show p3 - (ff.getD (2 * m - 1 - j) 0) ≤ 3 by omega) h3.1 h3.2; omega) (by have h1 := at_bd gg (p3 - 1) (by omega) p4_4 (2 * m - 1 - j - m + r); have h2 := at_bd ff (p3 - 1) (by omega) p3_4 (2 * m - 1 - j); have h3 := at_bd poly4 1 (by omega) hc4 r; have h4 := mul_bd (show 0 ≤ p3 - (ff.getD (2 * m - 1 - j) 0) by omega) (show p3 - (ff.getD (2 * m - 1 - j) 0) ≤ 3 by omega) h3.1 h3.2; omega))) rfl rfl rfl ?_
                refine wm_v rfl (fun _ => pc54) (fun w' hw' => (st_move (v := sv1) rfl)) rfl rfl rfl ?_
                refine wm_v rfl (fun _ => pc54) (fun w' hw' => (st_move (v := .int .i64 ((r : Int))) rfl)) rfl rfl rfl ?_
                refine wm_e rfl (fun _ => pc54) (st_idxI hs2 ty24 ty3 rfl rfl (by omega) (by omega)) rfl rfl rfl ?_
                rintro _ ⟨a58, rfl, hc57⟩
                simp only [Int.toNat_natCast] at hc57
                refine wm_v rfl (fun _ => pc54) (fun w' hw' => (st_load ty3 rfl rfl (cell_pu hw' hc57))) rfl rfl rfl ?_
                refine wm_v rfl (fun _ => pc54) (fun w' hw' => (st_mul rfl rfl (by have h1 := at_bd gg (p3 - 1) (by omega) p4_4 (2 * m - 1 - j - m + r); have h2 := at_bd ff (p3 - 1) (by omega) p3_4 (2 * m - 1 - j); have h3 := at_bd poly4 1 (by omega) hc4 r; have h4 := mul_bd (show 0 ≤ p3 - (ff.getD (2 * m - 1 - j) 0) by omega) (show p3 - (ff.getD (2 * m - 1 - j) 0) ≤ 3 by omega) h3.1 h3.2; omega) (by have h1 := at_bd gg (p3 - 1) (by omega) p4_4 (2 * m - 1 - j - m + r); have h2 := at_bd ff (p3 - 1) (by omega) p3_4 (2 * m - 1 - j); have h3 := at_bd poly4 1 (by omega) hc4 r; have h4 := mul_bd (show 0 ≤ p3 - (ff.getD (2 * m - 1 - j) 0) by omega) (show p3 - (ff.getD (2 * m - 1 - j) 0) ≤ 3 by omega) h3.1 h3.2; omega))) rfl rfl rfl ?_
                refine wm_v rfl (fun _ => pc54) (fun w' hw' => (st_add rfl rfl (by have h1 := at_bd gg (p3 - 1) (by omega) p4_4 (2 * m - 1 - j - m + r); have h2 := at_bd ff (p3 - 1) (by omega) p3_4 (2 * m - 1 - j); have h3 := at_bd poly4 1 (by omega) hc4 r; have h4 := mul_bd (show 0 ≤ p3 - (ff.getD (2 * m - 1 - j) 0) by omega) (show p3 - (ff.getD (2 * m - 1 - j) 0) ≤ 3 by omega) h3.1 h3.2; omega) (by have h1 := at_bd gg (p3 - 1) (by omega) p4_4 (2 * m - 1 - j - m + r); have h2 := at_bd ff (p3 - 1) (by omega) p3_4 (2 * m - 1 - j); have h3 := at_bd poly4 1 (by omega) hc4 r; have h4 := mul_bd (show 0 ≤ p3 - (ff.getD (2 * m - 1 - j) 0) by omega) (show p3 - (ff.getD (2 * m - 1 - j) 0) ≤ 3 by omega) h3.1 h3.2; omega))) rfl rfl rfl ?_
                refine wm_v rfl (fun _ => pc54) (fun w' hw' => (st_move (v := .int .i64 (p3)) rfl)) rfl rfl rfl ?_
                refine wm_v rfl (fun _ => pc54) (fun w' hw' => (st_rem rfl rfl (by have h1 := at_bd gg (p3 - 1) (by omega) p4_4 (2 * m - 1 - j - m + r); have h2 := at_bd ff (p3 - 1) (by omega) p3_4 (2 * m - 1 - j); have h3 := at_bd poly4 1 (by omega) hc4 r; have h4 := mul_bd (show 0 ≤ p3 - (ff.getD (2 * m - 1 - j) 0) by omega) (show p3 - (ff.getD (2 * m - 1 - j) 0) ≤ 3 by omega) h3.1 h3.2; omega) (by have h1 := at_bd gg (p3 - 1) (by omega) p4_4 (2 * m - 1 - j - m + r); have h2 := at_bd ff (p3 - 1) (by omega) p3_4 (2 * m - 1 - j); have h3 := at_bd poly4 1 (by omega) hc4 r; have h4 := mul_bd (show 0 ≤ p3 - (ff.getD (2 * m - 1 - j) 0) by omega) (show p3 - (ff.getD (2 * m - 1 - j) 0) ≤ 3 by omega) h3.1 h3.2; omega))) rfl rfl rfl ?_
                have hbdg62 : ((2 * m - 1 - j - m + r : Nat) : Int) < (((gg).length : Nat) : Int) := (by omega)
                refine wm_e rfl (fun _ => pc54) (st_idxB hd17 ty24 ty3 rfl rfl (by omega) hbdg62) rfl rfl rfl ?_
                rintro _ ⟨g62, rfl, hv61, hc59⟩
                try simp only [Int.toNat_natCast, Int.toNat_zero, Int.reduceToNat] at hc59 ⊢
                refine wm_tail (by decide) (fun _ => pc54) (fun j hj => by have hb : Nat.ble 26 j = true := (by rw [Nat.ble_eq]; omega); simp [hb]) ?_
                refine wl_storeB (q := (((gg).getD (2 * m - 1 - j - m + r : Nat) 0) + ((p3 - ((ff).getD (2 * m - 1 - j : Nat) 0)) * ((poly4).getD r 0))) % p3) hd17 ty3 rfl hv61 (by omega) rfl (fun _ _ => rfl) ?_
                intro w63 hb64 hg65 hs66
                have hown := Bl.own hd17 hv61
                have pw := pu_row pw hg65 (by intro q hq hlt; simp at hq; omega)
                have hs2 := Rep.ch hs2 hg65 (by intro q hq hlt; (try simp only [Lo, Iv]); simp at hq; omega)
                have hd9 := Bl.ch hd9 hg65 (by intro q hq hlt; simp at hq; omega)
                have hd13 := Bl.ch hd13 hg65 (by intro q hq hlt; simp at hq; omega)
                have hd17 := hb64
                try simp only [Int.toNat_natCast, Int.toNat_zero, Int.reduceToNat] at hd17
                refine wt_nil ?_
                refine wq_block_normal ?_
                refine wq_then ?_
                refine wc_region ?_
                refine wl_v (st_move (v := .int .i64 ((r : Int))) rfl) rfl rfl rfl ?_
                refine wl_v (st_add rfl rfl (by omega) (by omega)) rfl rfl rfl ?_
                refine wl_v (st_assign (v := .int .i64 ((r : Int) + 1)) rfl) rfl rfl rfl ?_
                refine wl_nil ?_
                refine wq_round (hI := ⟨r + 1, (redIn p3 poly4 m (2 * m - 1 - j) (ff.getD (2 * m - 1 - j) 0) gg r), rfl, rfl, ?_, ?_, ?_, ?_, pw, hs2, hd9, hd13, hd17⟩) (hm := ?_) (hf := ?_) rfl rfl
                · omega
                · (rw [← fold_succ, ← p4_2])
                · (rw [redIn, List.length_set]; omega)
                · (exact set_bd p4_4 (mod_bd' p3 hp.1 _))
                · omega
                · exact ⟨(by first | rfl | exact congrArg (Value.int _) (by omega) | go_num), (by first | rfl | exact congrArg (Value.int _) (by omega) | go_num), (by first | rfl | exact congrArg (Value.int _) (by omega) | go_num), (by first | rfl | exact congrArg (Value.int _) (by omega) | go_num), (by first | rfl | exact congrArg (Value.int _) (by omega) | go_num), (by first | rfl | exact congrArg (Value.int _) (by omega) | go_num), (by first | rfl | exact congrArg (Value.int _) (by omega) | go_num), (by first | rfl | exact congrArg (Value.int _) (by omega) | go_num), trivial⟩
              · intro h51
                have h51p : ¬ ((r : Int) ≤ (m : Int)) := by first | simpa using h51 | (simp at h51; omega)
                refine wc_exit ?_
                refine wq_then_exit ?_
                refine wq_then_exit ?_
                refine wq_block_exit ?_
                refine wq_block_normal ?_
                refine wq_then ?_
                refine wc_region ?_
                refine wl_v (st_move (v := .int .i64 (((2 * m - 1 - j : Nat) : Int))) rfl) rfl rfl rfl ?_
                refine wl_v (st_sub rfl rfl (by omega) (by omega)) rfl rfl rfl ?_
                refine wl_v (st_assign (v := .int .i64 (((2 * m - 1 - j : Nat) : Int) - 1)) rfl) rfl rfl rfl ?_
                refine wl_nil ?_
                refine wq_round (hI := ⟨j + 1, gg, rfl, rfl, ?_, ?_, ?_, ?_, pw, hs2, hd9, hd13, hd17⟩) (hm := ?_) (hf := ?_) rfl rfl
                · omega
                · (rw [← fold_succ, ← p3_2, show redRow p3 poly4 m ff j = (List.range (m + 1)).foldl (redIn p3 poly4 m (2 * m - 1 - j) (ff.getD (2 * m - 1 - j) 0)) ff from rfl]; rw [show r = m + 1 by omega] at p4_2; exact p4_2)
                · omega
                · (exact p4_4)
                · omega
                · exact ⟨(by first | rfl | exact congrArg (Value.int _) (by omega) | go_num), (by first | rfl | exact congrArg (Value.int _) (by omega) | go_num), (by first | rfl | exact congrArg (Value.int _) (by omega) | go_num), (by first | rfl | exact congrArg (Value.int _) (by omega) | go_num), (by first | rfl | exact congrArg (Value.int _) (by omega) | go_num), (by first | rfl | exact congrArg (Value.int _) (by omega) | go_num), trivial⟩
          · intro h46
            have h46p : ¬ ((m : Int) ≤ ((2 * m - 1 - j : Nat) : Int)) := by first | simpa using h46 | (simp at h46; omega)
            refine wc_exit ?_
            refine wq_then_exit ?_
            refine wq_then_exit ?_
            refine wq_block_exit ?_
            refine wq_then ?_
            refine wc_seq ?_
            refine wc_region ?_
            refine wl_v (st_move (v := v18) rfl) rfl rfl rfl ?_
            refine wl_v (st_move (v := .int .i64 (p3)) rfl) rfl rfl rfl ?_
            refine wl_v (st_move (v := .int .i64 ((m : Int))) rfl) rfl rfl rfl ?_
            refine wl_call (vs := [v18, .int .i64 (p3), .int .i64 ((m : Int))]) C102 rfl rfl (rnumber_ok (v18) (ff) _ (p3) (m) _ (by omega) (by omega) (by omega) (fun x hx => by have := p3_4 x hx; omega) (Bl.sl hd17)) ?_
            rintro _ w67 ⟨rfl, hn68⟩
            have pw := pu_trans pw hn68
            have hs2 := Rep.pu hs2 hn68
            have hd9 := Bl.pu hd9 hn68
            have hd13 := Bl.pu hd13 hn68
            have hd17 := Bl.pu hd17 hn68
            have hzw67 := World.grownBy.size hn68
            refine wl_v (st_assign (v := .int .i64 (refNum (p3) ((ff).take (m)))) rfl) rfl rfl rfl ?_
            refine wl_nil ?_
            refine wq_then ?_
            refine wc_ret ?_
            refine wq_ret1 (v := .int .i64 (refNum (p3) ((ff).take (m)))) rfl rfl rfl ?_
            rw [refMul_ext hq hne, hm2]
            rw [show j = m by omega] at p3_2
            exact ⟨congrArg (Value.int .i64) (by rw [p3_2]; rfl), pw⟩

end Go.Proofs.YthofgamegondnaaDoor
