/- Lemmas for the proof. -/
import Derived.Test.YthofgamegondnaaDoorEveningOnceM1
import Derived.Test.YthofgamegondnaaDoorEveningOnceM2
import Derived.Test.YthofgamegondnaaDoorEveningOnceM3
namespace Go.Proofs.YthofgamegondnaaDoor
open Go.RowKit
set_option linter.unusedSimpArgs false
set_option linter.unusedVariables false

set_option maxRecDepth 100000 in
theorem digits_ok (p a : Int) (mn : Nat) (pv : Value) (w : World) (hp : 2 ≤ p ∧ p ≤ 13) (hm : mn ≤ 4) (ha : 0 ≤ a ∧ a ≤ 9223372036854775807) : Ret Tryd.prog 103 #[.agg #[.int .i64 p, .int .i64 (mn : Int), pv], .int .i64 a] w fun v w' => w.grownBy w' none ∧ Bl iR 3 w' w.heap.size w'.heap.size v (digitsL p mn a) := by
  refine ret_in Tryd.func103 rfl rfl rfl ?_
  have pw := pu_refl w
  refine wc_seq ?_
  refine wc_region ?_
  refine wl_boxG (cs := [.int .i64 (p), .int .i64 ((mn : Int)), pv]) rfl rfl ?_
  intro w2 g1 hg3 hs4 hb5 hn6
  have pw := pu_trans pw hn6
  refine wl_v (st_assign (v := .slice none 0 0) rfl) rfl rfl rfl ?_
  refine wl_nil ?_
  refine wq_then ?_
  refine wc_seq ?_
  refine wc_region ?_
  refine wl_v (st_fieldAddr ty72 (ft := 3) (off := 1) (by kernel_rfl) ty3 rfl) rfl rfl rfl ?_
  refine wl_v (st_load (v := .int .i64 ((mn : Int))) ty3 rfl rfl (Bk.cell hb5 (i := 1) rfl)) rfl rfl rfl ?_
  refine wl_makeB (r := iR) (0 : Int) ty24 ty3 rfl (fun _ => rfl) rfl rfl (by omega) (by omega) rfl ?_
  intro w8 g7 hg9 hs10 hb11 hn12
  simp only [Int.toNat_natCast] at hb11 ⊢
  have hlog7 : g7 < w8.heap.size := by omega
  have pw := pu_trans pw hn12
  have hb5 := Bk.pu hb5 hn12
  refine wl_v (st_assign (v := .slice (some ⟨g7, 0, none⟩) mn mn) rfl) rfl rfl rfl ?_
  refine wl_nil ?_
  refine wq_then ?_
  refine wc_seq ?_
  refine wc_seq ?_
  refine wc_region ?_
  refine wl_v (st_move (v := .slice (some ⟨g7, 0, none⟩) mn mn) rfl) rfl rfl rfl ?_
  refine wl_v (st_lenS (Bl.sl hb11) ty24 rfl) rfl rfl rfl ?_
  refine wl_v (st_move (v := .int .i64 (0)) rfl) rfl rfl rfl ?_
  refine wl_nil ?_
  refine wq_then ?_
  refine wc_block ?_
  have hl : (List.replicate mn (0:Int)).length = mn := by simp
  refine wc_loop (fun fl mm w' => ∃ k : Nat, ∃ ds : List Int, ∃ ak : Int, fl = [(1, .int .i64 (ak)), (2, .pointer (some ⟨g1, 0, none⟩)), (4, .slice none 0 0), (5, .slice (some ⟨g7, 0, none⟩) mn mn), (11, .int .i64 (((List.replicate mn (0 : Int)).length : Int))), (12, .int .i64 ((k : Int)))] ∧ mm = mn - k ∧ (k ≤ mn) ∧ (ds.length = k) ∧ (ds ++ digitsL p (mn - k) ak = digitsL p mn a) ∧ (0 ≤ ak ∧ ak ≤ 9223372036854775807) ∧ w.grownBy w' none ∧ Bk w' g1 72 [.int .i64 (p), .int .i64 ((mn : Int)), pv] ∧ Bl iR 3 w' (w2.heap.size) (w8.heap.size) (.slice (some ⟨g7, 0, none⟩) mn mn) (ds ++ List.replicate (mn - k) (0 : Int))) (h0 := ⟨0, [], a, rfl, rfl, ?_, ?_, ?_, ?_, pw, hb5, hb11⟩) (hf := ⟨(by first | rfl | exact congrArg (Value.int _) (by omega) | go_num), (by first | rfl | exact congrArg (Value.int _) (by omega) | go_num), (by first | rfl | exact congrArg (Value.int _) (by omega) | go_num), (by first | rfl | exact congrArg (Value.int _) (by omega) | go_num), (by first | rfl | exact congrArg (Value.int _) (by omega) | go_num), (by first | rfl | exact congrArg (Value.int _) (by omega) | go_num), trivial⟩) ?_
  · omega
  · rfl
  · rfl
  · omega
  · skip
    rintro _ _ w13 s14 ⟨k, ds, ak, rfl, rfl, p1_1, p1_2, p1_3, p1_4, pw, hb5, hb11⟩
    refine wc_seq ?_
    refine wc_region ?_
    refine wl_v (st_lss rfl rfl) rfl rfl rfl ?_
    refine wl_nil ?_
    refine wq_then ?_
    refine wc_seq ?_
    refine wc_cond rfl ?_ ?_
    · intro h15
      have h15p : (k : Int) < ((List.replicate mn (0 : Int)).length : Int) := by first | simpa using h15 | (simp at h15; omega)
      refine wc_skip ?_
      refine wq_then ?_
      refine wc_seq ?_
      refine wc_block ?_
      refine wc_seq ?_
      refine wc_region ?_
      refine wl_v (st_move (v := .int .i64 ((k : Int))) rfl) rfl rfl rfl ?_
      refine wl_v (st_assign (v := .int .i64 ((k : Int))) rfl) rfl rfl rfl ?_
      refine wl_nil ?_
      refine wq_then ?_
      refine wc_seq ?_
      refine wc_region ?_
      refine wl_v (st_move (v := .slice (some ⟨g7, 0, none⟩) mn mn) rfl) rfl rfl rfl ?_
      refine wl_v (st_move (v := .int .i64 ((k : Int))) rfl) rfl rfl rfl ?_
      refine wl_v (st_move (v := .int .i64 (ak)) rfl) rfl rfl rfl ?_
      refine wl_v (st_fieldAddr ty72 (ft := 3) (off := 0) (by kernel_rfl) ty3 rfl) rfl rfl rfl ?_
      refine wl_v (st_load (v := .int .i64 (p)) ty3 rfl rfl (Bk.cell hb5 (i := 0) rfl)) rfl rfl rfl ?_
      refine wl_v (st_rem rfl rfl (by omega) (by omega)) rfl rfl rfl ?_
      have hbdg19 : (k : Int) < (((ds ++ List.replicate (mn - k) (0 : Int)).length : Nat) : Int) := (by rw [List.length_append, List.length_replicate]; omega)
      refine wl_e (st_idxB hb11 ty24 ty3 rfl rfl (by omega) hbdg19) rfl rfl rfl ?_
      rintro _ ⟨g19, rfl, hv18, hc16⟩
      try simp only [Int.toNat_natCast, Int.toNat_zero, Int.reduceToNat] at hc16 ⊢
      refine wl_storeB (q := ak % p) hb11 ty3 rfl hv18 (by omega) rfl (fun _ _ => rfl) ?_
      intro w20 hb21 hg22 hs23
      have hown := Bl.own hb11 hv18
      have pw := pu_row pw hg22 (by intro q hq hlt; simp at hq; omega)
      have hb5 := Bk.ch hb5 hg22 (by intro hq; have hlt := hb5.lt; simp at hq; omega)
      have hb11 := hb21
      try simp only [Int.toNat_natCast, Int.toNat_zero, Int.reduceToNat] at hb11
      refine wl_nil ?_
      refine wq_then ?_
      refine wc_region ?_
      refine wl_v (st_move (v := .int .i64 (ak)) rfl) rfl rfl rfl ?_
      refine wl_v (st_fieldAddr ty72 (ft := 3) (off := 0) (by kernel_rfl) ty3 rfl) rfl rfl rfl ?_
      refine wl_v (st_load (v := .int .i64 (p)) ty3 rfl rfl (Bk.cell hb5 (i := 0) rfl)) rfl rfl rfl ?_
      refine wl_v (st_quo rfl rfl (by omega) (by omega) (by omega)) rfl rfl rfl ?_
      refine wl_v (st_assign (v := .int .i64 (ak / p)) rfl) rfl rfl rfl ?_
      refine wl_nil ?_
      refine wq_block_normal ?_
      refine wq_then ?_
      refine wc_region ?_
      refine wl_v (st_add rfl rfl (by omega) (by omega)) rfl rfl rfl ?_
      refine wl_v (st_move (v := .int .i64 ((k : Int) + 1)) rfl) rfl rfl rfl ?_
      refine wl_nil ?_
      refine wq_round (hI := ⟨k + 1, ds ++ [ak % p], ak / p, rfl, rfl, ?_, ?_, ?_, ?_, pw, hb5, (set_step ds mn k 0 (ak % p) (by omega) (by omega) ▸ hb11)⟩) (hm := ?_) (hf := ?_) rfl rfl
      · omega
      · (simp; omega)
      · (rw [show mn - k = (mn - (k + 1)) + 1 by omega, digitsL] at p1_3; rw [← p1_3]; simp)
      · (have h1 := Int.ediv_nonneg p1_4.1 (show 0 ≤ p by omega); have h2 := Int.ediv_le_self p p1_4.1; omega)
      · omega
      · exact ⟨(by first | rfl | exact congrArg (Value.int _) (by omega) | go_num), (by first | rfl | exact congrArg (Value.int _) (by omega) | go_num), (by first | rfl | exact congrArg (Value.int _) (by omega) | go_num), (by first | rfl | exact congrArg (Value.int _) (by omega) | go_num), (by first | rfl | exact congrArg (Value.int _) (by omega) | go_num), (by first | rfl | exact congrArg (Value.int _) (by omega) | go_num), trivial⟩
    · intro h15
      have h15p : ¬ ((k : Int) < ((List.replicate mn (0 : Int)).length : Int)) := by first | simpa using h15 | (simp at h15; omega)
      refine wc_exit ?_
      refine wq_then_exit ?_
      refine wq_then_exit ?_
      refine wq_block_exit ?_
      refine wq_then ?_
      refine wc_seq ?_
      refine wc_region ?_
      refine wl_v (st_move (v := .slice (some ⟨g7, 0, none⟩) mn mn) rfl) rfl rfl rfl ?_
      refine wl_v (st_assign (v := .slice (some ⟨g7, 0, none⟩) mn mn) rfl) rfl rfl rfl ?_
      refine wl_nil ?_
      refine wq_then ?_
      refine wc_ret ?_
      refine wq_ret1 (v := .slice (some ⟨g7, 0, none⟩) mn mn) rfl rfl rfl ?_
      have hk : mn - k = 0 := by omega
      rw [hk, digitsL, List.append_nil] at p1_3
      have hb11 := hb11
      rw [hk, List.replicate_zero, List.append_nil, p1_3] at hb11
      exact ⟨pw, (hb11.top (Nat.le_refl _)).lower (by omega)⟩

set_option maxRecDepth 100000 in
theorem backward1 (sv : Value) (w : World) (ho : sv.oneCell' = true) : Ret Tryd.prog 105 #[sv] w fun v w' => w.grownBy w' none ∧ ∃ g, v = .func (.func 115) #[] #[.pointer (some ⟨g, 0, none⟩)] ∧ Bk w' g 24 [sv] ∧ w.heap.size ≤ g ∧ g < w'.heap.size := by
  refine ret_in Tryd.func105 rfl rfl rfl ?_
  have pw := pu_refl w
  refine wc_seq ?_
  refine wc_region ?_
  refine wl_boxK (v := sv) rfl ho rfl ?_
  intro w2 g1 hg3 hs4 hb5 hn6
  have pw := pu_trans pw hn6
  refine wl_v (st_assign (v := .nilFunc) rfl) rfl rfl rfl ?_
  refine wl_nil ?_
  refine wq_then ?_
  refine wc_seq ?_
  refine wc_region ?_
  refine wl_v (st_makeFunc (va := []) (vb := [.pointer (some ⟨g1, 0, none⟩)]) rfl rfl) rfl rfl rfl ?_
  refine wl_v (st_assign (v := .func (.func 115) #[] #[.pointer (some ⟨g1, 0, none⟩)]) rfl) rfl rfl rfl ?_
  refine wl_nil ?_
  refine wq_then ?_
  refine wc_ret ?_
  refine wq_ret1 (v := .func (.func 115) #[] #[.pointer (some ⟨g1, 0, none⟩)]) rfl rfl rfl ?_
  exact ⟨pw, _, rfl, hb5, by omega, Bk.lt hb5⟩

set_option maxRecDepth 100000 in
theorem backward2 (lp g : Nat) (sv : Value) (S : Nat → Prop) (xs : List Int) (w : World) (I : Nat → World → Prop) (h0 : I 0 w) (hkeep : ∀ k w, I k w → Bk w g 24 [sv] ∧ rI.R w S sv xs) (hy : ∀ k w, k < xs.length → I k w → Yd Tryd.prog lp [.int .i64 ((xs.length - 1 - k : Nat) : Int), .int .i64 (xs.getD (xs.length - 1 - k) 0)] w (I (k + 1))) : Ret Tryd.prog 115 #[.func (.yield lp) #[] #[], .pointer (some ⟨g, 0, none⟩)] w fun _ w' => True ∧ I xs.length w' := by
  refine ret_in Tryd.func115 rfl rfl rfl ?_
  obtain ⟨hbk, hx⟩ := hkeep 0 w h0
  have hlen := SlR.le hx
  refine wc_seq ?_
  refine wc_region ?_
  refine wl_v (st_load (v := sv) ty24 rfl rfl (Bk.cell hbk (i := 0) rfl)) rfl rfl rfl ?_
  refine wl_v (st_lenS hx ty24 rfl) rfl rfl rfl ?_
  refine wl_v (st_sub rfl rfl (by omega) (by omega)) rfl rfl rfl ?_
  refine wl_v (st_assign (v := .int .i64 (((xs).length : Int) - 1)) rfl) rfl rfl rfl ?_
  refine wl_nil ?_
  refine wq_then ?_
  refine wc_block ?_
  refine wc_loop (fun fl mm w' => ∃ k : Nat, fl = [(0, .func (.yield lp) #[] #[]), (1, .pointer (some ⟨g, 0, none⟩)), (3, .int .i64 ((xs.length : Int) - 1 - (k : Int)))] ∧ mm = xs.length - k ∧ (k ≤ xs.length) ∧ I k w') (h0 := ⟨0, rfl, rfl, ?_, h0⟩) (hf := ⟨(by first | rfl | exact congrArg (Value.int _) (by omega) | go_num), (by first | rfl | exact congrArg (Value.int _) (by omega) | go_num), (by first | rfl | exact congrArg (Value.int _) (by omega) | go_num), trivial⟩) ?_
  · omega
  · skip
    rintro _ _ w1 s2 ⟨k, rfl, rfl, p1_1, hI⟩
    obtain ⟨hbk, hx⟩ := hkeep _ _ hI
    refine wc_seq ?_
    refine wc_seq ?_
    refine wc_region ?_
    refine wl_v (st_move (v := .int .i64 ((xs.length : Int) - 1 - (k : Int))) rfl) rfl rfl rfl ?_
    refine wl_v (st_geq rfl rfl) rfl rfl rfl ?_
    refine wl_nil ?_
    refine wq_then ?_
    refine wc_cond rfl ?_ ?_
    · intro h3
      have h3p : 0 ≤ ((xs.length : Int) - 1 - (k : Int)) := by first | simpa using h3 | (simp at h3; omega)
      refine wc_skip ?_
      refine wq_then ?_
      refine wc_seq ?_
      refine wc_block ?_
      refine wc_seq ?_
      refine wc_region ?_
      refine wl_v (st_move (v := .func (.yield lp) #[] #[]) rfl) rfl rfl rfl ?_
      refine wl_v (st_move (v := .int .i64 ((xs.length : Int) - 1 - (k : Int))) rfl) rfl rfl rfl ?_
      refine wl_v (st_load (v := sv) ty24 rfl rfl (Bk.cell hbk (i := 0) rfl)) rfl rfl rfl ?_
      refine wl_v (st_move (v := .int .i64 ((xs.length : Int) - 1 - (k : Int))) rfl) rfl rfl rfl ?_
      refine wl_e (st_idxI hx ty24 ty3 rfl rfl (by omega) (by omega)) rfl rfl rfl ?_
      rintro _ ⟨a5, rfl, hc4⟩
      refine wl_v (st_load ty3 rfl rfl hc4) rfl rfl rfl ?_
      refine wl_yield (vs := [.int .i64 ((xs.length : Int) - 1 - (k : Int)), .int .i64 ((xs).getD ((xs.length : Int) - 1 - (k : Int)).toNat 0)]) rfl rfl rfl (by have h := hy k _ (by omega) hI; rw [show xs.getD (xs.length - 1 - k) 0 = xs.getD ((xs.length : Int) - 1 - (k : Int)).toNat 0 by congr 1; omega, show ((xs.length - 1 - k : Nat) : Int) = (xs.length : Int) - 1 - (k : Int) by omega] at h; exact h) ?_
      intro w6 hI
      obtain ⟨hbk, hx⟩ := hkeep _ _ hI
      refine wl_v (st_not rfl) rfl rfl rfl ?_
      refine wl_nil ?_
      refine wq_then ?_
      refine wc_false rfl ?_
      refine wc_skip ?_
      refine wq_block_normal ?_
      refine wq_then ?_
      refine wc_region ?_
      refine wl_v (st_move (v := .int .i64 ((xs.length : Int) - 1 - (k : Int))) rfl) rfl rfl rfl ?_
      refine wl_v (st_sub rfl rfl (by omega) (by omega)) rfl rfl rfl ?_
      refine wl_v (st_assign (v := .int .i64 (((xs.length : Int) - 1 - (k : Int)) - 1)) rfl) rfl rfl rfl ?_
      refine wl_nil ?_
      refine wq_round (hI := ⟨k + 1, rfl, rfl, ?_, hI⟩) (hm := ?_) (hf := ?_) rfl rfl
      · omega
      · omega
      · exact ⟨(by first | rfl | exact congrArg (Value.int _) (by omega) | go_num), (by first | rfl | exact congrArg (Value.int _) (by omega) | go_num), (by first | rfl | exact congrArg (Value.int _) (by omega) | go_num), trivial⟩
    · intro h3
      have h3p : ¬ (0 ≤ ((xs.length : Int) - 1 - (k : Int))) := by first | simpa using h3 | (simp at h3; omega)
      refine wc_exit ?_
      refine wq_then_exit ?_
      refine wq_then_exit ?_
      refine wq_block_exit ?_
      refine wq_end0 rfl rfl ?_
      have hk : k = xs.length := by omega
      subst hk
      exact ⟨trivial, hI⟩

set_option maxRecDepth 100000 in
theorem number_ok (p : Int) (mn : Nat) (pv d : Value) (xs : List Int) (S : Nat → Prop) (w : World) (hp : 2 ≤ p ∧ p ≤ 13) (hl : xs.length ≤ 4) (hx0 : ∀ x ∈ xs, 0 ≤ x ∧ x ≤ 100000) (hx : rI.R w S d xs) : Ret Tryd.prog 104 #[.agg #[.int .i64 p, .int .i64 (mn : Int), pv], d] w fun v w' => v = .int .i64 (numberL p xs) ∧ w.grownBy w' none := by
  refine ret_inM Tryd.func104 rfl rfl rfl ?_
  have pw := pu_refl w
  have hx : rI.R w (Lo w.heap.size) d xs := rI.mono (rI.lt hx) (fun b hb => hb.2)
  refine wc_seq ?_
  refine wc_region ?_
  refine wl_boxG (cs := [.int .i64 (p), .int .i64 ((mn : Int)), pv]) rfl rfl ?_
  intro w2 g1 hg3 hs4 hb5 hn6
  have pw := pu_trans pw hn6
  have hx := Rep.pu hx hn6
  refine wl_v (st_assign (v := .int .i64 (0)) rfl) rfl rfl rfl ?_
  refine wl_nil ?_
  refine wq_then ?_
  refine wc_seq ?_
  refine wc_region ?_
  refine wl_allocK (cs := [.int .i64 (0)]) ty3 rfl rfl ?_
  intro w8 g7 hg9 hs10 hb11 hn12
  have pw := pu_trans pw hn12
  have hx := Rep.pu hx hn12
  have hb5 := Bk.pu hb5 hn12
  refine wl_storeK (v := .int .i64 (0)) hb11 ty3 (i := 0) rfl (by simp) rfl rfl ?_
  intro w13 hb14 hg15 hs16
  have pw := pu_row pw hg15 (by intro q hq hlt; simp at hq; omega)
  have hx := Rep.ch hx hg15 (by intro q hq hlt; (try simp only [Lo, Iv]); simp at hq; omega)
  have hb5 := Bk.ch hb5 hg15 (by intro hq; have hlt := hb5.lt; simp at hq; omega)
  have hb11 := hb14
  refine wl_nil ?_
  refine wq_then ?_
  refine wc_seq ?_
  refine wc_seq ?_
  refine wc_region ?_
  refine wl_v (st_move (v := d) rfl) rfl rfl rfl ?_
  refine wl_call (vs := [d]) C105 rfl rfl (backward1 (d) _ (Rep.one _ hx)) ?_
  rintro _ w21 ⟨hn22, g17, rfl, hb18, hz19, hz20⟩
  have pw := pu_trans pw hn22
  have hx := Rep.pu hx hn22
  have hb5 := Bk.pu hb5 hn22
  have hb11 := Bk.pu hb11 hn22
  have hzw21 := World.grownBy.size hn22
  refine wl_nil ?_
  refine wq_then ?_
  refine wc_block ?_
  have hze1 := World.grownBy.size pw
  refine wc_rangeFunc (ps := [10, 11]) (first := []) (cap := [.pointer (some ⟨g17, 0, none⟩)]) rfl rfl C115 ?_
  intro wr1 lp1 RR1 hRR1 hlp1 hgr1 hsr1 hdr1 hrec1
  have hgl_hb5_1 : g1 < lp1 := by have := Bk.lt hb5; omega
  have hgl_hb11_1 : g7 < lp1 := by have := Bk.lt hb11; omega
  have hgl_hb18_1 : g17 < lp1 := by have := Bk.lt hb18; omega
  have pw := pu_trans pw hgr1
  have hx := Rep.pu hx hgr1
  have hb5 := Bk.pu hb5 hgr1
  have hb11 := Bk.pu hb11 hgr1
  have hb18 := Bk.pu hb18 hgr1
  have hmk : Mk wr1 w21.heap.size lp1 [mark w21.heap.size] := ⟨_, by omega, by omega, rfl, hdr1, trivial⟩
  refine Ret.mono (backward2 lp1 g17 (d) (Lo w.heap.size) (xs) _ (fun (kk : Nat) (w' : World) => ∃ nn : Int, (nn = numberL p (xs.drop (xs.length - kk))) ∧ RR1 .ready w' ∧ w.grownBy w' none ∧ rI.R w' (Lo w.heap.size) (d) (xs) ∧ Bk w' g1 72 [.int .i64 (p), .int .i64 ((mn : Int)), pv] ∧ Bk w' g7 3 [.int .i64 (nn)] ∧ Bk w' g17 24 [d] ∧ Mk w' (w21.heap.size) (lp1) ([mark w21.heap.size])) ?h01 ?keep1 ?yd1) ?rest1
  case h01 =>
    refine ⟨0, ?_, hrec1, pw, hx, hb5, hb11, hb18, hmk⟩
    · (simp [numberL])
  case keep1 =>
    rintro kk w' ⟨nn, q1_1, hrec1, pw, hx, hb5, hb11, hb18, hmk⟩
    exact ⟨hb18, hx⟩
  case yd1 =>
    rintro kk w23 hkk ⟨nn, q1_1, hrec1, pw, hx, hb5, hb11, hb18, hmk⟩
    refine yd_of hRR1 hrec1 rfl rfl ?_
    have hnb := numberL_bd p hp (xs.drop (xs.length - kk))
    have hpw := pow_le4 p hp (xs.drop (xs.length - kk)).length (by simp; omega)
    rw [← q1_1] at hnb
    have hm := mul_bd hnb.1 (show nn ≤ 28561 by omega) (show 0 ≤ p by omega) hp.2
    have hxk := hx0 _ (getD_mem xs (xs.length - 1 - kk) (by omega))
    have hr1 := Int.emod_nonneg (xs.getD (xs.length - 1 - kk) 0) (show p ≠ 0 by omega)
    have hr2 := Int.emod_lt_of_pos (xs.getD (xs.length - 1 - kk) 0) (show 0 < p by omega)
    refine wc_region ?_
    refine wl_v (st_assign (v := .int .i64 ((xs).getD ((xs).length - 1 - kk) 0)) rfl) rfl rfl rfl ?_
    refine wl_nil ?_
    refine wq_begin hRR1 hrec1 rfl ?_
    intro w24 hg25 hs26 hrec1
    have pw := pu_row pw hg25 (by intro q hq hlt; injection hq with hq; omega)
    have hx := Rep.ch hx hg25 (by intro q hq hlt; injection hq with hq; (try simp only [Lo, Iv]); omega)
    have hb5 := Bk.ch hb5 hg25 (by intro hq; injection hq with hq; omega)
    have hb11 := Bk.ch hb11 hg25 (by intro hq; injection hq with hq; omega)
    have hb18 := Bk.ch hb18 hg25 (by intro hq; injection hq with hq; omega)
    have hmk := Mk.ch hmk hg25 (by intro q hq hlt; injection hq with hq; left; omega)
    refine wc_block ?_
    refine wc_region_mix (fun w' => (w24.drew).grownBy w' none) (fun k => (false) || Nat.ble 9 k) 9 (by kernel_rfl) (by kernel_rfl) (by kernel_rfl) ?_
    obtain ⟨w27, ew27⟩ : ∃ q, q = w24.drew := ⟨_, rfl⟩
    rw [← ew27]
    have hn28 : w24.grownBy w27 none := by rw [ew27]; exact ch_drew _
    have hsw27 : w27.heap.size = w24.heap.size := by rw [ew27]; rfl
    clear ew27
    have pw := pu_trans pw hn28
    have hx := Rep.pu hx hn28
    have hb5 := Bk.pu hb5 hn28
    have hb11 := Bk.pu hb11 hn28
    have hb18 := Bk.pu hb18 hn28
    have hmk := Mk.pu hmk hn28
    have hrec1 := RRpu hRR1 hrec1 hn28
    have pc29 := pu_refl w27
    refine wm_v rfl (fun _ => pc29) (fun w' hw' => (st_load (v := .int .i64 (nn)) ty3 rfl rfl (Bk.cell (Bk.pu hb11 hw') (i := 0) rfl))) rfl rfl rfl ?_
    refine wm_v rfl (fun _ => pc29) (fun w' hw' => (st_fieldAddr ty72 (ft := 3) (off := 0) (by kernel_rfl) ty3 rfl)) rfl rfl rfl ?_
    refine wm_v rfl (fun _ => pc29) (fun w' hw' => (st_load (v := .int .i64 (p)) ty3 rfl rfl (Bk.cell (Bk.pu hb5 hw') (i := 0) rfl))) rfl rfl rfl ?_
    refine wm_v rfl (fun _ => pc29) (fun w' hw' => (st_mul rfl rfl (by omega) (by omega))) rfl rfl rfl ?_
    refine wm_v rfl (fun _ => pc29) (fun w' hw' => (st_move (v := .int .i64 ((xs).getD ((xs).length - 1 - kk) 0)) rfl)) rfl rfl rfl ?_
    refine wm_v rfl (fun _ => pc29) (fun w' hw' => (st_fieldAddr ty72 (ft := 3) (off := 0) (by kernel_rfl) ty3 rfl)) rfl rfl rfl ?_
    refine wm_v rfl (fun _ => pc29) (fun w' hw' => (st_load (v := .int .i64 (p)) ty3 rfl rfl (Bk.cell (Bk.pu hb5 hw') (i := 0) rfl))) rfl rfl rfl ?_
    refine wm_v rfl (fun _ => pc29) (fun w' hw' => (st_rem rfl rfl (by omega) (by omega))) rfl rfl rfl ?_
    refine wm_v rfl (fun _ => pc29) (fun w' hw' => (st_add rfl rfl (by omega) (by omega))) rfl rfl rfl ?_
    refine wm_tail (by decide) (fun _ => pc29) (fun j hj => by have hb : Nat.ble 9 j = true := (by rw [Nat.ble_eq]; omega); simp [hb]) ?_
    refine wl_storeK (v := .int .i64 ((nn * p) + (((xs).getD ((xs).length - 1 - kk) 0) % p))) hb11 ty3 (i := 0) rfl (by simp) rfl rfl ?_
    intro w30 hb31 hg32 hs33
    have pw := pu_row pw hg32 (by intro q hq hlt; simp at hq; omega)
    have hx := Rep.ch hx hg32 (by intro q hq hlt; (try simp only [Lo, Iv]); simp at hq; omega)
    have hb5 := Bk.ch hb5 hg32 (by intro hq; have hlt := hb5.lt; simp at hq; omega)
    have hb18 := Bk.ch hb18 hg32 (by intro hq; have hlt := hb18.lt; simp at hq; omega)
    have hmk := Mk.ch hmk hg32 (by intro q hq hlt; simp at hq; omega)
    have hrec1 := RRch hRR1 hrec1 hg32 (by intro hq; simp at hq; omega)
    have hb11 := hb31
    refine wt_nil ?_
    refine wq_block_normal ?_
    refine wq_roundEnd hRR1 hrec1 ?_
    intro w34 hg35 hs36 hrec1
    have pw := pu_row pw hg35 (by intro q hq hlt; injection hq with hq; omega)
    have hx := Rep.ch hx hg35 (by intro q hq hlt; injection hq with hq; (try simp only [Lo, Iv]); omega)
    have hb5 := Bk.ch hb5 hg35 (by intro hq; injection hq with hq; omega)
    have hb11 := Bk.ch hb11 hg35 (by intro hq; injection hq with hq; omega)
    have hb18 := Bk.ch hb18 hg35 (by intro hq; injection hq with hq; omega)
    have hmk := Mk.ch hmk hg35 (by intro q hq hlt; injection hq with hq; left; omega)
    refine ⟨(nn * p + xs.getD (xs.length - 1 - kk) 0 % p), ?_, hrec1, pw, hx, hb5, hb11, hb18, hmk⟩
    · (rw [numberL_drop p xs (xs.length - (kk + 1)) (by omega), show xs.length - (kk + 1) + 1 = xs.length - kk by omega, ← q1_1, show xs.length - (kk + 1) = xs.length - 1 - kk by omega])
  case rest1 =>
    rintro _ w37 ⟨-, hIr⟩
    obtain ⟨kk, hkn, nn, q1_1, hrec1, pw, hx, hb5, hb11, hb18, hmk⟩ : ∃ kk : Nat, kk = (xs).length ∧ (fun (kk : Nat) (w' : World) => ∃ nn : Int, (nn = numberL p (xs.drop (xs.length - kk))) ∧ RR1 .ready w' ∧ w.grownBy w' none ∧ rI.R w' (Lo w.heap.size) (d) (xs) ∧ Bk w' g1 72 [.int .i64 (p), .int .i64 ((mn : Int)), pv] ∧ Bk w' g7 3 [.int .i64 (nn)] ∧ Bk w' g17 24 [d] ∧ Mk w' (w21.heap.size) (lp1) ([mark w21.heap.size])) kk w37 := ⟨_, rfl, hIr⟩
    refine ⟨hrec1, ?_⟩
    intro w38 hg39 hs40
    have pw := pu_row pw hg39 (by intro q hq hlt; injection hq with hq; omega)
    have hx := Rep.ch hx hg39 (by intro q hq hlt; injection hq with hq; (try simp only [Lo, Iv]); omega)
    have hb5 := Bk.ch hb5 hg39 (by intro hq; injection hq with hq; omega)
    have hb11 := Bk.ch hb11 hg39 (by intro hq; injection hq with hq; omega)
    have hb18 := Bk.ch hb18 hg39 (by intro hq; injection hq with hq; omega)
    have hmk := Mk.ch hmk hg39 (by intro q hq hlt; injection hq with hq; left; omega)
    refine wq_block_normal ?_
    refine wq_then ?_
    refine wc_seq ?_
    refine wc_region ?_
    refine wl_v (st_load (v := .int .i64 (nn)) ty3 rfl rfl (Bk.cell hb11 (i := 0) rfl)) rfl rfl rfl ?_
    refine wl_v (st_assign (v := .int .i64 (nn)) rfl) rfl rfl rfl ?_
    refine wl_nil ?_
    refine wq_then ?_
    refine wc_ret ?_
    have hzw := World.grownBy.size pw
    refine wq_ret1M (v := .int .i64 (nn)) rfl hmk rfl ?_
    intro w41 hb42
    have pw := pu_below2 pw hb42 (by omega)
    have hx := Rep.belowS hx hb42 (by intro b hb1 hb2; simp only [Lo, Iv] at hb1; omega)
    exact ⟨congrArg (Value.int .i64) (by rw [q1_1, hkn, Nat.sub_self, List.drop_zero]), pw⟩

set_option maxRecDepth 100000 in
theorem add_ok (p a b : Int) (mn : Nat) (pv : Value) (w : World) (hp : 2 ≤ p ∧ p ≤ 13) (hm : mn ≤ 4) (ha : 0 ≤ a ∧ a ≤ 9223372036854775807) (hb : 0 ≤ b ∧ b ≤ 9223372036854775807) : Ret Tryd.prog 57 #[.agg #[.int .i64 p, .int .i64 (mn : Int), pv], .int .i64 a, .int .i64 b] w fun v w' => v = .int .i64 (addL p mn a b) ∧ w.grownBy w' none := by
  refine ret_in Tryd.func57 rfl rfl rfl ?_
  have pw := pu_refl w
  refine wc_seq ?_
  refine wc_region ?_
  refine wl_boxG (cs := [.int .i64 (p), .int .i64 ((mn : Int)), pv]) rfl rfl ?_
  intro w2 g1 hg3 hs4 hb5 hn6
  have pw := pu_trans pw hn6
  refine wl_v (st_assign (v := .int .i64 (0)) rfl) rfl rfl rfl ?_
  refine wl_nil ?_
  refine wq_then ?_
  refine wc_seq ?_
  refine wc_region_mix (fun w' => (w2.drew).grownBy w' none) (fun k => (false || Nat.beq k 2 || Nat.beq k 5) || Nat.ble 8 k) 8 (by kernel_rfl) (by kernel_rfl) (by kernel_rfl) ?_
  obtain ⟨w7, ew7⟩ : ∃ q, q = w2.drew := ⟨_, rfl⟩
  rw [← ew7]
  have hn8 : w2.grownBy w7 none := by rw [ew7]; exact ch_drew _
  have hsw7 : w7.heap.size = w2.heap.size := by rw [ew7]; rfl
  clear ew7
  have pw := pu_trans pw hn8
  have hb5 := Bk.pu hb5 hn8
  have pc9 := pu_refl w7
  refine wm_v rfl (fun _ => pc9) (fun w' hw' => (st_loadAgg (cs := [.int .i64 (p), .int .i64 ((mn : Int)), pv]) ty72 rfl rfl rfl (Bk.cells (Bk.pu hb5 hw')))) rfl rfl rfl ?_
  refine wm_v rfl (fun _ => pc9) (fun w' hw' => (st_move (v := .int .i64 (a)) rfl)) rfl rfl rfl ?_
  refine wm_call (vs := [.agg #[.int .i64 (p), .int .i64 ((mn : Int)), pv], .int .i64 (a)]) rfl (fun _ => pc9) C103 rfl rfl (digits_ok (p) (a) (mn) (pv) _ (by omega) (by omega) (by omega)) ?_
  rintro v11 w12 ⟨hn13, hd10⟩
  have pc9 := hn13
  have hzw12 := World.grownBy.size hn13
  refine wm_v rfl (fun _ => pc9) (fun w' hw' => (st_loadAgg (cs := [.int .i64 (p), .int .i64 ((mn : Int)), pv]) ty72 rfl rfl rfl (Bk.cells (Bk.pu hb5 hw')))) rfl rfl rfl ?_
  refine wm_v rfl (fun _ => pc9) (fun w' hw' => (st_move (v := .int .i64 (b)) rfl)) rfl rfl rfl ?_
  refine wm_call (vs := [.agg #[.int .i64 (p), .int .i64 ((mn : Int)), pv], .int .i64 (b)]) rfl (fun _ => pc9) C103 rfl rfl (digits_ok (p) (b) (mn) (pv) _ (by omega) (by omega) (by omega)) ?_
  rintro v15 w16 ⟨hn17, hd14⟩
  have pc9 := pu_trans pc9 hn17
  have hd10 := Bl.pu hd10 hn17
  have hzw16 := World.grownBy.size hn17
  refine wm_v rfl (fun _ => pc9) (fun w' hw' => (st_assign (v := v11) rfl)) rfl rfl rfl ?_
  refine wm_v rfl (fun _ => pc9) (fun w' hw' => (st_assign (v := v15) rfl)) rfl rfl rfl ?_
  refine wm_nil (fun _ => pc9) ?_
  have pw := pu_trans pw pc9
  have hb5 := Bk.pu hb5 pc9
  refine wq_then ?_
  refine wc_seq ?_
  refine wc_seq ?_
  refine wc_region ?_
  refine wl_v (st_move (v := v11) rfl) rfl rfl rfl ?_
  refine wl_v (st_lenS (Bl.sl hd10) ty24 rfl) rfl rfl rfl ?_
  refine wl_v (st_move (v := .int .i64 (0)) rfl) rfl rfl rfl ?_
  refine wl_nil ?_
  refine wq_then ?_
  refine wc_block ?_
  have hl := digitsL_len p mn a
  have hl2 := digitsL_len p mn b
  refine wc_loop (fun fl mm w' => ∃ k : Nat, fl = [(3, .pointer (some ⟨g1, 0, none⟩)), (6, .int .i64 (0)), (7, v11), (8, v15), (17, .int .i64 (((digitsL (p) (mn) (a)).length : Int))), (18, .int .i64 ((k : Int)))] ∧ mm = mn - k ∧ (k ≤ mn) ∧ w.grownBy w' none ∧ Bk w' g1 72 [.int .i64 (p), .int .i64 ((mn : Int)), pv] ∧ Bl iR 3 w' (w7.heap.size) (w12.heap.size) (v11) (addGo (digitsL p mn a) (digitsL p mn b) k) ∧ Bl iR 3 w' (w12.heap.size) (w16.heap.size) (v15) (digitsL (p) (mn) (b))) (h0 := ⟨0, rfl, rfl, ?_, pw, hb5, (by rw [addGo_zero]; exact hd10), hd14⟩) (hf := ⟨(by first | rfl | exact congrArg (Value.int _) (by omega) | go_num), (by first | rfl | exact congrArg (Value.int _) (by omega) | go_num), (by first | rfl | exact congrArg (Value.int _) (by omega) | go_num), (by first | rfl | exact congrArg (Value.int _) (by omega) | go_num), (by first | rfl | exact congrArg (Value.int _) (by omega) | go_num), (by first | rfl | exact congrArg (Value.int _) (by omega) | go_num), trivial⟩) ?_
  · omega
  · skip
    rintro _ _ w18 s19 ⟨k, rfl, rfl, p1_1, pw, hb5, hd10, hd14⟩
    refine wc_seq ?_
    refine wc_region ?_
    refine wl_v (st_lss rfl rfl) rfl rfl rfl ?_
    refine wl_nil ?_
    refine wq_then ?_
    refine wc_seq ?_
    refine wc_cond rfl ?_ ?_
    · intro h20
      have h20p : (k : Int) < ((digitsL (p) (mn) (a)).length : Int) := by first | simpa using h20 | (simp at h20; omega)
      refine wc_skip ?_
      refine wq_then ?_
      refine wc_seq ?_
      refine wc_block ?_
      refine wc_seq ?_
      refine wc_region ?_
      refine wl_v (st_move (v := .int .i64 ((k : Int))) rfl) rfl rfl rfl ?_
      refine wl_v (st_assign (v := .int .i64 ((k : Int))) rfl) rfl rfl rfl ?_
      refine wl_nil ?_
      refine wq_then ?_
      refine wc_region_mix (fun w' => (w18.drew).grownBy w' none) (fun k => (false) || Nat.ble 10 k) 10 (by kernel_rfl) (by kernel_rfl) (by kernel_rfl) ?_
      obtain ⟨w21, ew21⟩ : ∃ q, q = w18.drew := ⟨_, rfl⟩
      rw [← ew21]
      have hn22 : w18.grownBy w21 none := by rw [ew21]; exact ch_drew _
      have hsw21 : w21.heap.size = w18.heap.size := by rw [ew21]; rfl
      clear ew21
      have pw := pu_trans pw hn22
      have hb5 := Bk.pu hb5 hn22
      have hd10 := Bl.pu hd10 hn22
      have hd14 := Bl.pu hd14 hn22
      have pc23 := pu_refl w21
      refine wm_v rfl (fun _ => pc23) (fun w' hw' => (st_move (v := v11) rfl)) rfl rfl rfl ?_
      refine wm_v rfl (fun _ => pc23) (fun w' hw' => (st_move (v := .int .i64 ((k : Int))) rfl)) rfl rfl rfl ?_
      have hbdg27 : (k : Int) < (((addGo (digitsL p mn a) (digitsL p mn b) k).length : Nat) : Int) := (by have h1 := addD_len p mn a b k (by omega); omega)
      refine wm_e rfl (fun _ => pc23) (st_idxB hd10 ty24 ty3 rfl rfl (by omega) hbdg27) rfl rfl rfl ?_
      rintro _ ⟨g27, rfl, hv26, hc24⟩
      try simp only [Int.toNat_natCast, Int.toNat_zero, Int.reduceToNat] at hc24 ⊢
      refine wm_v rfl (fun _ => pc23) (fun w' hw' => (st_load ty3 rfl rfl (cell_pu hw' hc24))) rfl rfl rfl ?_
      refine wm_v rfl (fun _ => pc23) (fun w' hw' => (st_move (v := v15) rfl)) rfl rfl rfl ?_
      refine wm_v rfl (fun _ => pc23) (fun w' hw' => (st_move (v := .int .i64 ((k : Int))) rfl)) rfl rfl rfl ?_
      refine wm_e rfl (fun _ => pc23) (st_idxI (Bl.sl hd14) ty24 ty3 rfl rfl (by omega) (by omega)) rfl rfl rfl ?_
      rintro _ ⟨a29, rfl, hc28⟩
      simp only [Int.toNat_natCast] at hc28
      refine wm_v rfl (fun _ => pc23) (fun w' hw' => (st_load ty3 rfl rfl (cell_pu hw' hc28))) rfl rfl rfl ?_
      refine wm_v rfl (fun _ => pc23) (fun w' hw' => (st_add rfl rfl (by have h1 := addD_getD p mn a b k (by omega); have h2 := digitsL_at p hp mn a k (by omega); have h3 := digitsL_at p hp mn b k (by omega); omega) (by have h1 := addD_getD p mn a b k (by omega); have h2 := digitsL_at p hp mn a k (by omega); have h3 := digitsL_at p hp mn b k (by omega); omega))) rfl rfl rfl ?_
      have hbdg33 : (k : Int) < (((addGo (digitsL p mn a) (digitsL p mn b) k).length : Nat) : Int) := (by have h1 := addD_len p mn a b k (by omega); omega)
      refine wm_e rfl (fun _ => pc23) (st_idxB hd10 ty24 ty3 rfl rfl (by omega) hbdg33) rfl rfl rfl ?_
      rintro _ ⟨g33, rfl, hv32, hc30⟩
      try simp only [Int.toNat_natCast, Int.toNat_zero, Int.reduceToNat] at hc30 ⊢
      refine wm_tail (by decide) (fun _ => pc23) (fun j hj => by have hb : Nat.ble 10 j = true := (by rw [Nat.ble_eq]; omega); simp [hb]) ?_
      refine wl_storeB (q := ((addGo (digitsL p mn a) (digitsL p mn b) k).getD k 0) + ((digitsL (p) (mn) (b)).getD k 0)) hd10 ty3 rfl hv32 (by omega) rfl (fun _ _ => rfl) ?_
      intro w34 hb35 hg36 hs37
      have hown := Bl.own hd10 hv32
      have pw := pu_row pw hg36 (by intro q hq hlt; simp at hq; omega)
      have hb5 := Bk.ch hb5 hg36 (by intro hq; have hlt := hb5.lt; simp at hq; omega)
      have hd14 := Bl.ch hd14 hg36 (by intro q hq hlt; simp at hq; omega)
      have hd10 := hb35
      try simp only [Int.toNat_natCast, Int.toNat_zero, Int.reduceToNat] at hd10
      refine wt_nil ?_
      refine wq_block_normal ?_
      refine wq_then ?_
      refine wc_region ?_
      refine wl_v (st_add rfl rfl (by omega) (by omega)) rfl rfl rfl ?_
      refine wl_v (st_move (v := .int .i64 ((k : Int) + 1)) rfl) rfl rfl rfl ?_
      refine wl_nil ?_
      refine wq_round (hI := ⟨k + 1, rfl, rfl, ?_, pw, hb5, (addD_set p mn a b k (by omega) ▸ hd10), hd14⟩) (hm := ?_) (hf := ?_) rfl rfl
      · omega
      · omega
      · exact ⟨(by first | rfl | exact congrArg (Value.int _) (by omega) | go_num), (by first | rfl | exact congrArg (Value.int _) (by omega) | go_num), (by first | rfl | exact congrArg (Value.int _) (by omega) | go_num), (by first | rfl | exact congrArg (Value.int _) (by omega) | go_num), (by first | rfl | exact congrArg (Value.int _) (by omega) | go_num), (by first | rfl | exact congrArg (Value.int _) (by omega) | go_num), trivial⟩
    · intro h20
      have h20p : ¬ ((k : Int) < ((digitsL (p) (mn) (a)).length : Int)) := by first | simpa using h20 | (simp at h20; omega)
      refine wc_exit ?_
      refine wq_then_exit ?_
      refine wq_then_exit ?_
      refine wq_block_exit ?_
      refine wq_then ?_
      refine wc_seq ?_
      refine wc_region ?_
      refine wl_v (st_loadAgg (cs := [.int .i64 (p), .int .i64 ((mn : Int)), pv]) ty72 rfl rfl rfl (Bk.cells hb5)) rfl rfl rfl ?_
      refine wl_v (st_move (v := v11) rfl) rfl rfl rfl ?_
      refine wl_call (vs := [.agg #[.int .i64 (p), .int .i64 ((mn : Int)), pv], v11]) C104 rfl rfl (number_ok (p) (mn) (pv) _ _ _ _ (by omega) (by rw [addD_len p mn a b k (by omega)]; omega) (addD_bd p hp mn a b k) (Bl.sl hd10)) ?_
      rintro _ w38 ⟨rfl, hn39⟩
      have pw := pu_trans pw hn39
      have hb5 := Bk.pu hb5 hn39
      have hd10 := Bl.pu hd10 hn39
      have hd14 := Bl.pu hd14 hn39
      have hzw38 := World.grownBy.size hn39
      refine wl_v (st_assign (v := .int .i64 (numberL (p) (addGo (digitsL p mn a) (digitsL p mn b) k))) rfl) rfl rfl rfl ?_
      refine wl_nil ?_
      refine wq_then ?_
      refine wc_ret ?_
      refine wq_ret1 (v := .int .i64 (numberL (p) (addGo (digitsL p mn a) (digitsL p mn b) k))) rfl rfl rfl ?_
      have hk : k = mn := by omega
      subst hk
      have he := addGo_all (digitsL p k a) (digitsL p k b) (by rw [digitsL_len, digitsL_len])
      rw [digitsL_len] at he
      exact ⟨congrArg (Value.int .i64) (by rw [he]; rfl), pw⟩

set_option maxRecDepth 100000 in
theorem mul_ok (p a b : Int) (mn : Nat) (pv : Value) (pl : List Int) (S : Nat → Prop) (w : World) (hp : 2 ≤ p ∧ p ≤ 13) (hm : 1 ≤ mn ∧ mn ≤ 4) (ha : 0 ≤ a ∧ a ≤ 1000) (hb : 0 ≤ b ∧ b ≤ 1000) (hpl : pl.length = mn) (hpb : ∀ x ∈ pl, 0 ≤ x ∧ x ≤ 12) (hpv : rI.R w S pv pl) : Ret Tryd.prog 58 #[.agg #[.int .i64 p, .int .i64 (mn : Int), pv], .int .i64 a, .int .i64 b] w fun v w' => v = .int .i64 (mulL p mn pl a b) ∧ w.grownBy w' none := by
  refine ret_inM Tryd.func58 rfl rfl rfl ?_
  have pw := pu_refl w
  have hpv : rI.R w (Lo w.heap.size) pv pl := rI.mono (rI.lt hpv) (fun b hb => hb.2)
  have hab := mul_bd ha.1 ha.2 hb.1 hb.2
  refine wc_seq ?_
  refine wc_region ?_
  refine wl_boxG (cs := [.int .i64 (p), .int .i64 ((mn : Int)), pv]) rfl rfl ?_
  intro w2 g1 hg3 hs4 hb5 hn6
  have pw := pu_trans pw hn6
  have hpv := Rep.pu hpv hn6
  refine wl_v (st_assign (v := .int .i64 (0)) rfl) rfl rfl rfl ?_
  refine wl_nil ?_
  refine wq_then ?_
  refine wc_seq ?_
  refine wc_seq ?_
  refine wc_region ?_
  refine wl_v (st_fieldAddr ty72 (ft := 3) (off := 1) (by kernel_rfl) ty3 rfl) rfl rfl rfl ?_
  refine wl_v (st_load (v := .int .i64 ((mn : Int))) ty3 rfl rfl (Bk.cell hb5 (i := 1) rfl)) rfl rfl rfl ?_
  refine wl_v (st_eql rfl rfl) rfl rfl rfl ?_
  refine wl_nil ?_
  refine wq_then ?_
  refine wc_cond rfl ?_ ?_
  · intro h7
    have h7p : (mn : Int) = 1 := by first | simpa using h7 | (simp at h7; omega)
    refine wc_seq ?_
    refine wc_region ?_
    refine wl_v (st_move (v := .int .i64 (a)) rfl) rfl rfl rfl ?_
    refine wl_v (st_move (v := .int .i64 (b)) rfl) rfl rfl rfl ?_
    refine wl_v (st_mul rfl rfl (by omega) (by omega)) rfl rfl rfl ?_
    refine wl_v (st_fieldAddr ty72 (ft := 3) (off := 0) (by kernel_rfl) ty3 rfl) rfl rfl rfl ?_
    refine wl_v (st_load (v := .int .i64 (p)) ty3 rfl rfl (Bk.cell hb5 (i := 0) rfl)) rfl rfl rfl ?_
    refine wl_v (st_rem rfl rfl (by omega) (by omega)) rfl rfl rfl ?_
    refine wl_v (st_assign (v := .int .i64 ((a * b) % p)) rfl) rfl rfl rfl ?_
    refine wl_nil ?_
    refine wq_then ?_
    refine wc_ret ?_
    refine wq_then_ret ?_
    have hmk := Mk.nil w2 w2.heap.size 0
    have hzw := World.grownBy.size pw
    refine wq_ret1M (v := .int .i64 ((a * b) % p)) rfl hmk rfl ?_
    intro w8 hb9
    have pw := pu_below2 pw hb9 (by omega)
    have hpv := Rep.belowS hpv hb9 (by intro b hb1 hb2; simp only [Lo, Iv] at hb1; omega)
    exact ⟨congrArg (Value.int .i64) (by rw [mulL, if_pos (by omega)]), pw⟩
  · intro h7
    have h7p : ¬ ((mn : Int) = 1) := by first | simpa using h7 | (simp at h7; omega)
    refine wc_skip ?_
    refine wq_then ?_
    refine wc_seq ?_
    refine wc_region ?_
    refine wl_v (st_loadAgg (cs := [.int .i64 (p), .int .i64 ((mn : Int)), pv]) ty72 rfl rfl rfl (Bk.cells hb5)) rfl rfl rfl ?_
    refine wl_v (st_move (v := .int .i64 (a)) rfl) rfl rfl rfl ?_
    refine wl_call (vs := [.agg #[.int .i64 (p), .int .i64 ((mn : Int)), pv], .int .i64 (a)]) C103 rfl rfl (digits_ok (p) (a) (mn) (pv) _ (by omega) (by omega) (by omega)) ?_
    rintro v11 w12 ⟨hn13, hd10⟩
    have pw := pu_trans pw hn13
    have hpv := Rep.pu hpv hn13
    have hb5 := Bk.pu hb5 hn13
    have hzw12 := World.grownBy.size hn13
    refine wl_allocK (cs := [.slice none 0 0]) ty24 rfl rfl ?_
    intro w15 g14 hg16 hs17 hb18 hn19
    have pw := pu_trans pw hn19
    have hpv := Rep.pu hpv hn19
    have hb5 := Bk.pu hb5 hn19
    have hd10 := Bl.pu hd10 hn19
    refine wl_storeK (v := v11) hb18 ty24 (i := 0) rfl (by simp) rfl (Rep.one _ (Bl.sl hd10)) ?_
    intro w20 hb21 hg22 hs23
    have pw := pu_row pw hg22 (by intro q hq hlt; simp at hq; omega)
    have hpv := Rep.ch hpv hg22 (by intro q hq hlt; (try simp only [Lo, Iv]); simp at hq; omega)
    have hb5 := Bk.ch hb5 hg22 (by intro hq; have hlt := hb5.lt; simp at hq; omega)
    have hd10 := Bl.ch hd10 hg22 (by intro q hq hlt; simp at hq; omega)
    have hb18 := hb21
    refine wl_nil ?_
    refine wq_then ?_
    refine wc_seq ?_
    refine wc_region ?_
    refine wl_v (st_fieldAddr ty72 (ft := 3) (off := 1) (by kernel_rfl) ty3 rfl) rfl rfl rfl ?_
    refine wl_v (st_load (v := .int .i64 ((mn : Int))) ty3 rfl rfl (Bk.cell hb5 (i := 1) rfl)) rfl rfl rfl ?_
    refine wl_makeB (r := iR) (0 : Int) ty24 ty3 rfl (fun _ => rfl) rfl rfl (by omega) (by omega) rfl ?_
    intro w25 g24 hg26 hs27 hb28 hn29
    simp only [Int.toNat_natCast] at hb28 ⊢
    have hlog24 : g24 < w25.heap.size := by omega
    have pw := pu_trans pw hn29
    have hpv := Rep.pu hpv hn29
    have hb5 := Bk.pu hb5 hn29
    have hd10 := Bl.pu hd10 hn29
    have hb18 := Bk.pu hb18 hn29
    refine wl_allocK (cs := [.slice none 0 0]) ty24 rfl rfl ?_
    intro w31 g30 hg32 hs33 hb34 hn35
    have pw := pu_trans pw hn35
    have hpv := Rep.pu hpv hn35
    have hb5 := Bk.pu hb5 hn35
    have hd10 := Bl.pu hd10 hn35
    have hb18 := Bk.pu hb18 hn35
    have hb28 := Bl.pu hb28 hn35
    refine wl_storeK (v := .slice (some ⟨g24, 0, none⟩) mn mn) hb34 ty24 (i := 0) rfl (by simp) rfl (Rep.one _ (Bl.sl hb28)) ?_
    intro w36 hb37 hg38 hs39
    have pw := pu_row pw hg38 (by intro q hq hlt; simp at hq; omega)
    have hpv := Rep.ch hpv hg38 (by intro q hq hlt; (try simp only [Lo, Iv]); simp at hq; omega)
    have hb5 := Bk.ch hb5 hg38 (by intro hq; have hlt := hb5.lt; simp at hq; omega)
    have hd10 := Bl.ch hd10 hg38 (by intro q hq hlt; simp at hq; omega)
    have hb18 := Bk.ch hb18 hg38 (by intro hq; have hlt := hb18.lt; simp at hq; omega)
    have hb28 := Bl.ch hb28 hg38 (by intro q hq hlt; simp at hq; omega)
    have hb34 := hb37
    refine wl_nil ?_
    refine wq_then ?_
    refine wc_seq ?_
    refine wc_seq ?_
    refine wc_region ?_
    refine wl_v (st_loadAgg (cs := [.int .i64 (p), .int .i64 ((mn : Int)), pv]) ty72 rfl rfl rfl (Bk.cells hb5)) rfl rfl rfl ?_
    refine wl_v (st_move (v := .int .i64 (b)) rfl) rfl rfl rfl ?_
    refine wl_call (vs := [.agg #[.int .i64 (p), .int .i64 ((mn : Int)), pv], .int .i64 (b)]) C103 rfl rfl (digits_ok (p) (b) (mn) (pv) _ (by omega) (by omega) (by omega)) ?_
    rintro v41 w42 ⟨hn43, hd40⟩
    have pw := pu_trans pw hn43
    have hpv := Rep.pu hpv hn43
    have hb5 := Bk.pu hb5 hn43
    have hd10 := Bl.pu hd10 hn43
    have hb18 := Bk.pu hb18 hn43
    have hb28 := Bl.pu hb28 hn43
    have hb34 := Bk.pu hb34 hn43
    have hzw42 := World.grownBy.size hn43
    refine wl_call (vs := [v41]) C105 rfl rfl (backward1 (v41) _ (Rep.one _ (Bl.sl hd40))) ?_
    rintro _ w48 ⟨hn49, g44, rfl, hb45, hz46, hz47⟩
    have pw := pu_trans pw hn49
    have hpv := Rep.pu hpv hn49
    have hb5 := Bk.pu hb5 hn49
    have hd10 := Bl.pu hd10 hn49
    have hb18 := Bk.pu hb18 hn49
    have hb28 := Bl.pu hb28 hn49
    have hb34 := Bk.pu hb34 hn49
    have hd40 := Bl.pu hd40 hn49
    have hzw48 := World.grownBy.size hn49
    refine wl_nil ?_
    refine wq_then ?_
    refine wc_block ?_
    have hze1 := World.grownBy.size pw
    refine wc_rangeFunc (ps := [32, 33]) (first := []) (cap := [.pointer (some ⟨g44, 0, none⟩)]) rfl rfl C115 ?_
    intro wr1 lp1 RR1 hRR1 hlp1 hgr1 hsr1 hdr1 hrec1
    have hgl_hb5_1 : g1 < lp1 := by have := Bk.lt hb5; omega
    have hgl_hb18_1 : g14 < lp1 := by have := Bk.lt hb18; omega
    have hgl_hb34_1 : g30 < lp1 := by have := Bk.lt hb34; omega
    have hgl_hb45_1 : g44 < lp1 := by have := Bk.lt hb45; omega
    have pw := pu_trans pw hgr1
    have hpv := Rep.pu hpv hgr1
    have hb5 := Bk.pu hb5 hgr1
    have hd10 := Bl.pu hd10 hgr1
    have hb18 := Bk.pu hb18 hgr1
    have hb28 := Bl.pu hb28 hgr1
    have hb34 := Bk.pu hb34 hgr1
    have hd40 := Bl.pu hd40 hgr1
    have hb45 := Bk.pu hb45 hgr1
    have hmk : Mk wr1 w48.heap.size lp1 [mark w48.heap.size] := ⟨_, by omega, by omega, rfl, hdr1, trivial⟩
    refine Ret.mono (backward2 lp1 g44 (v41) (Iv (w36.heap.size) (w42.heap.size)) (digitsL (p) (mn) (b)) _ (fun (kk : Nat) (w' : World) => ∃ out : List Int, (out.length = mn) ∧ (∀ x ∈ out, 0 ≤ x ∧ x ≤ 12) ∧ (out = ((digitsL p mn b).drop ((digitsL p mn b).length - kk)).foldr (mulStep p pl (digitsL p mn a)) (List.replicate mn 0)) ∧ RR1 .ready w' ∧ w.grownBy w' none ∧ rI.R w' (Lo w.heap.size) (pv) (pl) ∧ Bk w' g1 72 [.int .i64 (p), .int .i64 ((mn : Int)), pv] ∧ Bl iR 3 w' (w2.heap.size) (w12.heap.size) (v11) (digitsL (p) (mn) (a)) ∧ Bk w' g14 24 [v11] ∧ Bl iR 3 w' (w20.heap.size) (w25.heap.size) (.slice (some ⟨g24, 0, none⟩) mn mn) (out) ∧ Bk w' g30 24 [.slice (some ⟨g24, 0, none⟩) mn mn] ∧ Bl iR 3 w' (w36.heap.size) (w42.heap.size) (v41) (digitsL (p) (mn) (b)) ∧ Bk w' g44 24 [v41] ∧ Mk w' (w48.heap.size) (lp1) ([mark w48.heap.size])) ?h01 ?keep1 ?yd1) ?rest1
    case h01 =>
      refine ⟨(List.replicate mn 0), ?_, ?_, ?_, hrec1, pw, hpv, hb5, hd10, hb18, hb28, hb34, hd40, hb45, hmk⟩
      · (simp)
      · (intro x hx; have := List.eq_of_mem_replicate hx; omega)
      · (simp)
    case keep1 =>
      rintro kk w' ⟨out, q1_1, q1_2, q1_3, hrec1, pw, hpv, hb5, hd10, hb18, hb28, hb34, hd40, hb45, hmk⟩
      exact ⟨hb45, (Bl.sl hd40)⟩
    case yd1 =>
      rintro kk w50 hkk ⟨out, q1_1, q1_2, q1_3, hrec1, pw, hpv, hb5, hd10, hb18, hb28, hb34, hd40, hb45, hmk⟩
      refine yd_of hRR1 hrec1 rfl rfl ?_
      have hlb := digitsL_len p mn b
      have hla := digitsL_len p mn a
      have htop : out.getD ((mn : Int) - 1).toNat 0 = out.getD (out.length - 1) 0 := by congr 1; omega
      have hkd := digitsL_at p hp mn b ((digitsL p mn b).length - 1 - kk) (by omega)
      refine wc_region ?_
      refine wl_v (st_assign (v := .int .i64 ((digitsL (p) (mn) (b)).getD ((digitsL (p) (mn) (b)).length - 1 - kk) 0)) rfl) rfl rfl rfl ?_
      refine wl_nil ?_
      refine wq_begin hRR1 hrec1 rfl ?_
      intro w51 hg52 hs53 hrec1
      have pw := pu_row pw hg52 (by intro q hq hlt; injection hq with hq; omega)
      have hpv := Rep.ch hpv hg52 (by intro q hq hlt; injection hq with hq; (try simp only [Lo, Iv]); omega)
      have hb5 := Bk.ch hb5 hg52 (by intro hq; injection hq with hq; omega)
      have hd10 := Bl.ch hd10 hg52 (by intro q hq hlt; injection hq with hq; omega)
      have hb18 := Bk.ch hb18 hg52 (by intro hq; injection hq with hq; omega)
      have hb28 := Bl.ch hb28 hg52 (by intro q hq hlt; injection hq with hq; omega)
      have hb34 := Bk.ch hb34 hg52 (by intro hq; injection hq with hq; omega)
      have hd40 := Bl.ch hd40 hg52 (by intro q hq hlt; injection hq with hq; omega)
      have hb45 := Bk.ch hb45 hg52 (by intro hq; injection hq with hq; omega)
      have hmk := Mk.ch hmk hg52 (by intro q hq hlt; injection hq with hq; left; omega)
      refine wc_block ?_
      refine wc_seq ?_
      refine wc_region ?_
      refine wl_v (st_load (v := .slice (some ⟨g24, 0, none⟩) mn mn) ty24 rfl rfl (Bk.cell hb34 (i := 0) rfl)) rfl rfl rfl ?_
      refine wl_v (st_fieldAddr ty72 (ft := 3) (off := 1) (by kernel_rfl) ty3 rfl) rfl rfl rfl ?_
      refine wl_v (st_load (v := .int .i64 ((mn : Int))) ty3 rfl rfl (Bk.cell hb5 (i := 1) rfl)) rfl rfl rfl ?_
      refine wl_v (st_sub rfl rfl (by omega) (by omega)) rfl rfl rfl ?_
      refine wl_e (st_idxI (Bl.sl hb28) ty24 ty3 rfl rfl (by omega) (by omega)) rfl rfl rfl ?_
      rintro _ ⟨a55, rfl, hc54⟩
      refine wl_v (st_load ty3 rfl rfl hc54) rfl rfl rfl ?_
      refine wl_v (st_assign (v := .int .i64 ((out).getD ((mn : Int) - 1).toNat 0)) rfl) rfl rfl rfl ?_
      refine wl_nil ?_
      refine wq_then ?_
      refine wc_seq ?_
      refine wc_region_mix (fun w' => (w51.drew).grownBy w' none) (fun k => (false) || Nat.ble 7 k) 7 (by kernel_rfl) (by kernel_rfl) (by kernel_rfl) ?_
      obtain ⟨w56, ew56⟩ : ∃ q, q = w51.drew := ⟨_, rfl⟩
      rw [← ew56]
      have hn57 : w51.grownBy w56 none := by rw [ew56]; exact ch_drew _
      have hsw56 : w56.heap.size = w51.heap.size := by rw [ew56]; rfl
      clear ew56
      have pw := pu_trans pw hn57
      have hpv := Rep.pu hpv hn57
      have hb5 := Bk.pu hb5 hn57
      have hd10 := Bl.pu hd10 hn57
      have hb18 := Bk.pu hb18 hn57
      have hb28 := Bl.pu hb28 hn57
      have hb34 := Bk.pu hb34 hn57
      have hd40 := Bl.pu hd40 hn57
      have hb45 := Bk.pu hb45 hn57
      have hmk := Mk.pu hmk hn57
      have hrec1 := RRpu hRR1 hrec1 hn57
      have pc58 := pu_refl w56
      refine wm_v rfl (fun _ => pc58) (fun w' hw' => (st_load (v := .slice (some ⟨g24, 0, none⟩) mn mn) ty24 rfl rfl (Bk.cell (Bk.pu hb34 hw') (i := 0) rfl))) rfl rfl rfl ?_
      refine wm_v rfl (fun _ => pc58) (fun w' hw' => (st_cutLo (m := 1) ty24 ty3 rfl rfl (by omega) (by omega) (by omega))) rfl rfl rfl ?_
      refine wm_v rfl (fun _ => pc58) (fun w' hw' => (st_load (v := .slice (some ⟨g24, 0, none⟩) mn mn) ty24 rfl rfl (Bk.cell (Bk.pu hb34 hw') (i := 0) rfl))) rfl rfl rfl ?_
      refine wm_v rfl (fun _ => pc58) (fun w' hw' => (st_fieldAddr ty72 (ft := 3) (off := 1) (by kernel_rfl) ty3 rfl)) rfl rfl rfl ?_
      refine wm_v rfl (fun _ => pc58) (fun w' hw' => (st_load (v := .int .i64 ((mn : Int))) ty3 rfl rfl (Bk.cell (Bk.pu hb5 hw') (i := 1) rfl))) rfl rfl rfl ?_
      refine wm_v rfl (fun _ => pc58) (fun w' hw' => (st_sub rfl rfl (by omega) (by omega))) rfl rfl rfl ?_
      refine wm_v rfl (fun _ => pc58) (fun w' hw' => (st_cutHi (m := ((mn : Int) - 1).toNat) ty24 ty3 rfl rfl (by omega) (by omega))) rfl rfl rfl ?_
      refine wm_tail (by decide) (fun _ => pc58) (fun j hj => by have hb : Nat.ble 7 j = true := (by rw [Nat.ble_eq]; omega); simp [hb]) ?_
      refine wl_copyB (off := 0 + 1) (so := 0) (k := mn - 1) hb28 ty24 ty3 rfl rfl (by show min _ _ = _; omega) (by omega) (by omega) rfl ?_
      intro w59 hb60 hg61 hs62 hown
      have pw := pu_row pw hg61 (by intro q hq hlt; simp at hq; omega)
      have hpv := Rep.ch hpv hg61 (by intro q hq hlt; (try simp only [Lo, Iv]); simp at hq; omega)
      have hb5 := Bk.ch hb5 hg61 (by intro hq; have hlt := hb5.lt; simp at hq; omega)
      have hd10 := Bl.ch hd10 hg61 (by intro q hq hlt; simp at hq; omega)
      have hb18 := Bk.ch hb18 hg61 (by intro hq; have hlt := hb18.lt; simp at hq; omega)
      have hb34 := Bk.ch hb34 hg61 (by intro hq; have hlt := hb34.lt; simp at hq; omega)
      have hd40 := Bl.ch hd40 hg61 (by intro q hq hlt; simp at hq; omega)
      have hb45 := Bk.ch hb45 hg61 (by intro hq; have hlt := hb45.lt; simp at hq; omega)
      have hmk := Mk.ch hmk hg61 (by intro q hq hlt; simp at hq; omega)
      have hrec1 := RRch hRR1 hrec1 hg61 (by intro hq; simp at hq; omega)
      have hb28 := hb60
      refine wt_nil ?_
      refine wq_then ?_
      refine wc_seq ?_
      refine wc_region ?_
      refine wl_v (st_load (v := .slice (some ⟨g24, 0, none⟩) mn mn) ty24 rfl rfl (Bk.cell hb34 (i := 0) rfl)) rfl rfl rfl ?_
      have hbdg66 : 0 < (((((out).take (0 + 1)) ++ (((out).drop (0)).take (mn - 1)) ++ ((out).drop ((0 + 1) + (mn - 1)))).length : Nat) : Int) := (by have h1 := copyL_len out (0 + 1) 0 (mn - 1) (by omega) (by omega); unfold copyL at h1; omega)
      refine wl_e (st_idxB hb28 ty24 ty3 rfl rfl (by omega) hbdg66) rfl rfl rfl ?_
      rintro _ ⟨g66, rfl, hv65, hc63⟩
      try simp only [Int.toNat_natCast, Int.toNat_zero, Int.reduceToNat] at hc63 ⊢
      refine wl_storeB (q := 0) hb28 ty3 rfl hv65 (by omega) rfl (fun _ _ => rfl) ?_
      intro w67 hb68 hg69 hs70
      have hown := Bl.own hb28 hv65
      have pw := pu_row pw hg69 (by intro q hq hlt; simp at hq; omega)
      have hpv := Rep.ch hpv hg69 (by intro q hq hlt; (try simp only [Lo, Iv]); simp at hq; omega)
      have hb5 := Bk.ch hb5 hg69 (by intro hq; have hlt := hb5.lt; simp at hq; omega)
      have hd10 := Bl.ch hd10 hg69 (by intro q hq hlt; simp at hq; omega)
      have hb18 := Bk.ch hb18 hg69 (by intro hq; have hlt := hb18.lt; simp at hq; omega)
      have hb34 := Bk.ch hb34 hg69 (by intro hq; have hlt := hb34.lt; simp at hq; omega)
      have hd40 := Bl.ch hd40 hg69 (by intro q hq hlt; simp at hq; omega)
      have hb45 := Bk.ch hb45 hg69 (by intro hq; have hlt := hb45.lt; simp at hq; omega)
      have hmk := Mk.ch hmk hg69 (by intro q hq hlt; simp at hq; omega)
      have hrec1 := RRch hRR1 hrec1 hg69 (by intro hq; simp at hq; omega)
      have hb28 := hb68
      try simp only [Int.toNat_natCast, Int.toNat_zero, Int.reduceToNat] at hb28
      refine wl_nil ?_
      refine wq_then ?_
      refine wc_seq ?_
      refine wc_region ?_
      refine wl_v (st_load (v := .slice (some ⟨g24, 0, none⟩) mn mn) ty24 rfl rfl (Bk.cell hb34 (i := 0) rfl)) rfl rfl rfl ?_
      refine wl_v (st_lenS (Bl.sl hb28) ty24 rfl) rfl rfl rfl ?_
      refine wl_v (st_move (v := .int .i64 (0)) rfl) rfl rfl rfl ?_
      refine wl_nil ?_
      refine wq_then ?_
      refine wc_block ?_
      rw [show (0 + 1) = 1 from rfl, copy_sh out mn q1_1 (by omega)] at hb28
      have hlsh := mulSh_len out (by omega)
      have hlc : (((((out).take (0 + 1)) ++ (((out).drop (0)).take (mn - 1)) ++ ((out).drop ((0 + 1) + (mn - 1)))).set 0 (0))).length = mn := by rw [show (0 + 1) = 1 from rfl, copy_sh out mn q1_1 (by omega)]; omega
      refine wc_loop (fun fl mm w' => ∃ i : Nat, fl = [(3, .pointer (some ⟨g1, 0, none⟩)), (6, .int .i64 (0)), (7, .pointer (some ⟨g14, 0, none⟩)), (8, .pointer (some ⟨g30, 0, none⟩)), (10, .int .i64 ((digitsL (p) (mn) (b)).getD ((digitsL (p) (mn) (b)).length - 1 - kk) 0)), (11, .int .i64 ((out).getD ((mn : Int) - 1).toNat 0)), (51, .int .i64 ((((((out).take (0 + 1)) ++ (((out).drop (0)).take (mn - 1)) ++ ((out).drop ((0 + 1) + (mn - 1)))).set 0 (0)).length : Int))), (52, .int .i64 ((i : Int)))] ∧ mm = mn - i ∧ (i ≤ mn) ∧ w.grownBy w' none ∧ rI.R w' (Lo w.heap.size) (pv) (pl) ∧ Bk w' g1 72 [.int .i64 (p), .int .i64 ((mn : Int)), pv] ∧ Bl iR 3 w' (w2.heap.size) (w12.heap.size) (v11) (digitsL (p) (mn) (a)) ∧ Bk w' g14 24 [v11] ∧ Bl iR 3 w' (w20.heap.size) (w25.heap.size) (.slice (some ⟨g24, 0, none⟩) mn mn) (mulGo p pl (digitsL p mn a) ((digitsL p mn b).getD ((digitsL p mn b).length - 1 - kk) 0) out i) ∧ Bk w' g30 24 [.slice (some ⟨g24, 0, none⟩) mn mn] ∧ Bl iR 3 w' (w36.heap.size) (w42.heap.size) (v41) (digitsL (p) (mn) (b)) ∧ Bk w' g44 24 [v41] ∧ Mk w' (w48.heap.size) (lp1) ([mark w48.heap.size]) ∧ RR1 .busy w') (h0 := ⟨0, rfl, rfl, ?_, pw, hpv, hb5, hd10, hb18, (by rw [mulGo_zero]; exact hb28), hb34, hd40, hb45, hmk, hrec1⟩) (hf := ⟨(by first | rfl | exact congrArg (Value.int _) (by omega) | go_num), (by first | rfl | exact congrArg (Value.int _) (by omega) | go_num), (by first | rfl | exact congrArg (Value.int _) (by omega) | go_num), (by first | rfl | exact congrArg (Value.int _) (by omega) | go_num), (by first | rfl | exact congrArg (Value.int _) (by omega) | go_num), (by first | rfl | exact congrArg (Value.int _) (by omega) | go_num), (by first | rfl | exact congrArg (Value.int _) (by omega) | go_num), (by first | rfl | exact congrArg (Value.int _) (by omega) | go_num), trivial⟩) ?_
      · omega
      · skip
        rintro _ _ w71 s72 ⟨i, rfl, rfl, p1_1, pw, hpv, hb5, hd10, hb18, hb28, hb34, hd40, hb45, hmk, hrec1⟩
        refine wc_seq ?_
        refine wc_region ?_
        refine wl_v (st_lss rfl rfl) rfl rfl rfl ?_
        refine wl_nil ?_
        refine wq_then ?_
        refine wc_seq ?_
        refine wc_cond rfl ?_ ?_
        · intro h73
          have h73p : (i : Int) < (((((out).take (0 + 1)) ++ (((out).drop (0)).take (mn - 1)) ++ ((out).drop ((0 + 1) + (mn - 1)))).set 0 (0)).length : Int) := by first | simpa using h73 | (simp at h73; omega)
          refine wc_skip ?_
          refine wq_then ?_
          refine wc_seq ?_
          refine wc_block ?_
          refine wc_seq ?_
          refine wc_region ?_
          refine wl_v (st_move (v := .int .i64 ((i : Int))) rfl) rfl rfl rfl ?_
          refine wl_v (st_assign (v := .int .i64 ((i : Int))) rfl) rfl rfl rfl ?_
          refine wl_nil ?_
          refine wq_then ?_
          refine wc_region_mix (fun w' => (w71.drew).grownBy w' none) (fun k => (false) || Nat.ble 25 k) 25 (by kernel_rfl) (by kernel_rfl) (by kernel_rfl) ?_
          obtain ⟨w74, ew74⟩ : ∃ q, q = w71.drew := ⟨_, rfl⟩
          rw [← ew74]
          have hn75 : w71.grownBy w74 none := by rw [ew74]; exact ch_drew _
          have hsw74 : w74.heap.size = w71.heap.size := by rw [ew74]; rfl
          clear ew74
          have pw := pu_trans pw hn75
          have hpv := Rep.pu hpv hn75
          have hb5 := Bk.pu hb5 hn75
          have hd10 := Bl.pu hd10 hn75
          have hb18 := Bk.pu hb18 hn75
          have hb28 := Bl.pu hb28 hn75
          have hb34 := Bk.pu hb34 hn75
          have hd40 := Bl.pu hd40 hn75
          have hb45 := Bk.pu hb45 hn75
          have hmk := Mk.pu hmk hn75
          have hrec1 := RRpu hRR1 hrec1 hn75
          have pc76 := pu_refl w74
          refine wm_v rfl (fun _ => pc76) (fun w' hw' => (st_load (v := .slice (some ⟨g24, 0, none⟩) mn mn) ty24 rfl rfl (Bk.cell (Bk.pu hb34 hw') (i := 0) rfl))) rfl rfl rfl ?_
          refine wm_v rfl (fun _ => pc76) (fun w' hw' => (st_move (v := .int .i64 ((i : Int))) rfl)) rfl rfl rfl ?_
          refine wm_v rfl (fun _ => pc76) (fun w' hw' => (st_load (v := .slice (some ⟨g24, 0, none⟩) mn mn) ty24 rfl rfl (Bk.cell (Bk.pu hb34 hw') (i := 0) rfl))) rfl rfl rfl ?_
          refine wm_v rfl (fun _ => pc76) (fun w' hw' => (st_move (v := .int .i64 ((i : Int))) rfl)) rfl rfl rfl ?_
          refine wm_e rfl (fun _ => pc76) (st_idxI (Bl.sl hb28) ty24 ty3 rfl rfl (by omega) (by have h1 := mulGo_len p pl (digitsL p mn a) ((digitsL p mn b).getD ((digitsL p mn b).length - 1 - kk) 0) out i (by omega) (by omega); omega)) rfl rfl rfl ?_
          rintro _ ⟨a78, rfl, hc77⟩
          simp only [Int.toNat_natCast] at hc77
          refine wm_v rfl (fun _ => pc76) (fun w' hw' => (st_load ty3 rfl rfl (cell_pu hw' hc77))) rfl rfl rfl ?_
          refine wm_v rfl (fun _ => pc76) (fun w' hw' => (st_move (v := .int .i64 ((out).getD ((mn : Int) - 1).toNat 0)) rfl)) rfl rfl rfl ?_
          refine wm_v rfl (fun _ => pc76) (fun w' hw' => (st_fieldAddr ty72 (ft := 24) (off := 2) (by kernel_rfl) ty24 rfl)) rfl rfl rfl ?_
          refine wm_v rfl (fun _ => pc76) (fun w' hw' => (st_load (v := pv) ty24 rfl rfl (Bk.cell (Bk.pu hb5 hw') (i := 2) rfl))) rfl rfl rfl ?_
          refine wm_v rfl (fun _ => pc76) (fun w' hw' => (st_move (v := .int .i64 ((i : Int))) rfl)) rfl rfl rfl ?_
          refine wm_e rfl (fun _ => pc76) (st_idxI hpv ty24 ty3 rfl rfl (by omega) (by omega)) rfl rfl rfl ?_
          rintro _ ⟨a80, rfl, hc79⟩
          simp only [Int.toNat_natCast] at hc79
          refine wm_v rfl (fun _ => pc76) (fun w' hw' => (st_load ty3 rfl rfl (cell_pu hw' hc79))) rfl rfl rfl ?_
          refine wm_v rfl (fun _ => pc76) (fun w' hw' => (st_mul rfl rfl (by have t1 := at_bd out 12 (by omega) q1_2 ((mn : Int) - 1).toNat; have t2 := at_bd pl 12 (by omega) hpb i; have t3 := digitsL_at p hp mn a i (by omega); have t4 := mul_bd t1.1 t1.2 t2.1 t2.2; have t5 := mul_bd hkd.1 hkd.2 t3.1 t3.2; have t6 := mulSh_at out q1_2 i; have t7 := mulGo_getD p pl (digitsL p mn a) ((digitsL p mn b).getD ((digitsL p mn b).length - 1 - kk) 0) out i; omega) (by have t1 := at_bd out 12 (by omega) q1_2 ((mn : Int) - 1).toNat; have t2 := at_bd pl 12 (by omega) hpb i; have t3 := digitsL_at p hp mn a i (by omega); have t4 := mul_bd t1.1 t1.2 t2.1 t2.2; have t5 := mul_bd hkd.1 hkd.2 t3.1 t3.2; have t6 := mulSh_at out q1_2 i; have t7 := mulGo_getD p pl (digitsL p mn a) ((digitsL p mn b).getD ((digitsL p mn b).length - 1 - kk) 0) out i; omega))) rfl rfl rfl ?_
          refine wm_v rfl (fun _ => pc76) (fun w' hw' => (st_add rfl rfl (by have t1 := at_bd out 12 (by omega) q1_2 ((mn : Int) - 1).toNat; have t2 := at_bd pl 12 (by omega) hpb i; have t3 := digitsL_at p hp mn a i (by omega); have t4 := mul_bd t1.1 t1.2 t2.1 t2.2; have t5 := mul_bd hkd.1 hkd.2 t3.1 t3.2; have t6 := mulSh_at out q1_2 i; have t7 := mulGo_getD p pl (digitsL p mn a) ((digitsL p mn b).getD ((digitsL p mn b).length - 1 - kk) 0) out i; omega) (by have t1 := at_bd out 12 (by omega) q1_2 ((mn : Int) - 1).toNat; have t2 := at_bd pl 12 (by omega) hpb i; have t3 := digitsL_at p hp mn a i (by omega); have t4 := mul_bd t1.1 t1.2 t2.1 t2.2; have t5 := mul_bd hkd.1 hkd.2 t3.1 t3.2; have t6 := mulSh_at out q1_2 i; have t7 := mulGo_getD p pl (digitsL p mn a) ((digitsL p mn b).getD ((digitsL p mn b).length - 1 - kk) 0) out i; omega))) rfl rfl rfl ?_
          refine wm_v rfl (fun _ => pc76) (fun w' hw' => (st_move (v := .int .i64 ((digitsL (p) (mn) (b)).getD ((digitsL (p) (mn) (b)).length - 1 - kk) 0)) rfl)) rfl rfl rfl ?_
          refine wm_v rfl (fun _ => pc76) (fun w' hw' => (st_load (v := v11) ty24 rfl rfl (Bk.cell (Bk.pu hb18 hw') (i := 0) rfl))) rfl rfl rfl ?_
          refine wm_v rfl (fun _ => pc76) (fun w' hw' => (st_move (v := .int .i64 ((i : Int))) rfl)) rfl rfl rfl ?_
          refine wm_e rfl (fun _ => pc76) (st_idxI (Bl.sl hd10) ty24 ty3 rfl rfl (by omega) (by omega)) rfl rfl rfl ?_
          rintro _ ⟨a82, rfl, hc81⟩
          simp only [Int.toNat_natCast] at hc81
          refine wm_v rfl (fun _ => pc76) (fun w' hw' => (st_load ty3 rfl rfl (cell_pu hw' hc81))) rfl rfl rfl ?_
          refine wm_v rfl (fun _ => pc76) (fun w' hw' => (st_mul rfl rfl (by have t1 := at_bd out 12 (by omega) q1_2 ((mn : Int) - 1).toNat; have t2 := at_bd pl 12 (by omega) hpb i; have t3 := digitsL_at p hp mn a i (by omega); have t4 := mul_bd t1.1 t1.2 t2.1 t2.2; have t5 := mul_bd hkd.1 hkd.2 t3.1 t3.2; have t6 := mulSh_at out q1_2 i; have t7 := mulGo_getD p pl (digitsL p mn a) ((digitsL p mn b).getD ((digitsL p mn b).length - 1 - kk) 0) out i; omega) (by have t1 := at_bd out 12 (by omega) q1_2 ((mn : Int) - 1).toNat; have t2 := at_bd pl 12 (by omega) hpb i; have t3 := digitsL_at p hp mn a i (by omega); have t4 := mul_bd t1.1 t1.2 t2.1 t2.2; have t5 := mul_bd hkd.1 hkd.2 t3.1 t3.2; have t6 := mulSh_at out q1_2 i; have t7 := mulGo_getD p pl (digitsL p mn a) ((digitsL p mn b).getD ((digitsL p mn b).length - 1 - kk) 0) out i; omega))) rfl rfl rfl ?_
          refine wm_v rfl (fun _ => pc76) (fun w' hw' => (st_add rfl rfl (by have t1 := at_bd out 12 (by omega) q1_2 ((mn : Int) - 1).toNat; have t2 := at_bd pl 12 (by omega) hpb i; have t3 := digitsL_at p hp mn a i (by omega); have t4 := mul_bd t1.1 t1.2 t2.1 t2.2; have t5 := mul_bd hkd.1 hkd.2 t3.1 t3.2; have t6 := mulSh_at out q1_2 i; have t7 := mulGo_getD p pl (digitsL p mn a) ((digitsL p mn b).getD ((digitsL p mn b).length - 1 - kk) 0) out i; omega) (by have t1 := at_bd out 12 (by omega) q1_2 ((mn : Int) - 1).toNat; have t2 := at_bd pl 12 (by omega) hpb i; have t3 := digitsL_at p hp mn a i (by omega); have t4 := mul_bd t1.1 t1.2 t2.1 t2.2; have t5 := mul_bd hkd.1 hkd.2 t3.1 t3.2; have t6 := mulSh_at out q1_2 i; have t7 := mulGo_getD p pl (digitsL p mn a) ((digitsL p mn b).getD ((digitsL p mn b).length - 1 - kk) 0) out i; omega))) rfl rfl rfl ?_
          refine wm_v rfl (fun _ => pc76) (fun w' hw' => (st_fieldAddr ty72 (ft := 3) (off := 0) (by kernel_rfl) ty3 rfl)) rfl rfl rfl ?_
          refine wm_v rfl (fun _ => pc76) (fun w' hw' => (st_load (v := .int .i64 (p)) ty3 rfl rfl (Bk.cell (Bk.pu hb5 hw') (i := 0) rfl))) rfl rfl rfl ?_
          refine wm_v rfl (fun _ => pc76) (fun w' hw' => (st_rem rfl rfl (by have t1 := at_bd out 12 (by omega) q1_2 ((mn : Int) - 1).toNat; have t2 := at_bd pl 12 (by omega) hpb i; have t3 := digitsL_at p hp mn a i (by omega); have t4 := mul_bd t1.1 t1.2 t2.1 t2.2; have t5 := mul_bd hkd.1 hkd.2 t3.1 t3.2; have t6 := mulSh_at out q1_2 i; have t7 := mulGo_getD p pl (digitsL p mn a) ((digitsL p mn b).getD ((digitsL p mn b).length - 1 - kk) 0) out i; omega) (by have t1 := at_bd out 12 (by omega) q1_2 ((mn : Int) - 1).toNat; have t2 := at_bd pl 12 (by omega) hpb i; have t3 := digitsL_at p hp mn a i (by omega); have t4 := mul_bd t1.1 t1.2 t2.1 t2.2; have t5 := mul_bd hkd.1 hkd.2 t3.1 t3.2; have t6 := mulSh_at out q1_2 i; have t7 := mulGo_getD p pl (digitsL p mn a) ((digitsL p mn b).getD ((digitsL p mn b).length - 1 - kk) 0) out i; omega))) rfl rfl rfl ?_
          have hbdg86 : (i : Int) < (((mulGo p pl (digitsL p mn a) ((digitsL p mn b).getD ((digitsL p mn b).length - 1 - kk) 0) out i).length : Nat) : Int) := (by have h1 := mulGo_len p pl (digitsL p mn a) ((digitsL p mn b).getD ((digitsL p mn b).length - 1 - kk) 0) out i (by omega) (by omega); omega)
          refine wm_e rfl (fun _ => pc76) (st_idxB hb28 ty24 ty3 rfl rfl (by omega) hbdg86) rfl rfl rfl ?_
          rintro _ ⟨g86, rfl, hv85, hc83⟩
          try simp only [Int.toNat_natCast, Int.toNat_zero, Int.reduceToNat] at hc83 ⊢
          refine wm_tail (by decide) (fun _ => pc76) (fun j hj => by have hb : Nat.ble 25 j = true := (by rw [Nat.ble_eq]; omega); simp [hb]) ?_
          refine wl_storeB (q := ((((mulGo p pl (digitsL p mn a) ((digitsL p mn b).getD ((digitsL p mn b).length - 1 - kk) 0) out i).getD i 0) + (((out).getD ((mn : Int) - 1).toNat 0) * ((pl).getD i 0))) + (((digitsL (p) (mn) (b)).getD ((digitsL (p) (mn) (b)).length - 1 - kk) 0) * ((digitsL (p) (mn) (a)).getD i 0))) % p) hb28 ty3 rfl hv85 (by omega) rfl (fun _ _ => rfl) ?_
          intro w87 hb88 hg89 hs90
          have hown := Bl.own hb28 hv85
          have pw := pu_row pw hg89 (by intro q hq hlt; simp at hq; omega)
          have hpv := Rep.ch hpv hg89 (by intro q hq hlt; (try simp only [Lo, Iv]); simp at hq; omega)
          have hb5 := Bk.ch hb5 hg89 (by intro hq; have hlt := hb5.lt; simp at hq; omega)
          have hd10 := Bl.ch hd10 hg89 (by intro q hq hlt; simp at hq; omega)
          have hb18 := Bk.ch hb18 hg89 (by intro hq; have hlt := hb18.lt; simp at hq; omega)
          have hb34 := Bk.ch hb34 hg89 (by intro hq; have hlt := hb34.lt; simp at hq; omega)
          have hd40 := Bl.ch hd40 hg89 (by intro q hq hlt; simp at hq; omega)
          have hb45 := Bk.ch hb45 hg89 (by intro hq; have hlt := hb45.lt; simp at hq; omega)
          have hmk := Mk.ch hmk hg89 (by intro q hq hlt; simp at hq; omega)
          have hrec1 := RRch hRR1 hrec1 hg89 (by intro hq; simp at hq; omega)
          have hb28 := hb88
          try simp only [Int.toNat_natCast, Int.toNat_zero, Int.reduceToNat] at hb28
          refine wt_nil ?_
          refine wq_block_normal ?_
          refine wq_then ?_
          refine wc_region ?_
          refine wl_v (st_add rfl rfl (by omega) (by omega)) rfl rfl rfl ?_
          refine wl_v (st_move (v := .int .i64 ((i : Int) + 1)) rfl) rfl rfl rfl ?_
          refine wl_nil ?_
          refine wq_round (hI := ⟨i + 1, rfl, rfl, ?_, pw, hpv, hb5, hd10, hb18, (by have h := hb28; rw [mulGo_set p pl (digitsL p mn a) ((digitsL p mn b).getD ((digitsL p mn b).length - 1 - kk) 0) out i _ (by omega) (by omega) htop] at h; exact h), hb34, hd40, hb45, hmk, hrec1⟩) (hm := ?_) (hf := ?_) rfl rfl
          · omega
          · omega
          · exact ⟨(by first | rfl | exact congrArg (Value.int _) (by omega) | go_num), (by first | rfl | exact congrArg (Value.int _) (by omega) | go_num), (by first | rfl | exact congrArg (Value.int _) (by omega) | go_num), (by first | rfl | exact congrArg (Value.int _) (by omega) | go_num), (by first | rfl | exact congrArg (Value.int _) (by omega) | go_num), (by first | rfl | exact congrArg (Value.int _) (by omega) | go_num), (by first | rfl | exact congrArg (Value.int _) (by omega) | go_num), (by first | rfl | exact congrArg (Value.int _) (by omega) | go_num), trivial⟩
        · intro h73
          have h73p : ¬ ((i : Int) < (((((out).take (0 + 1)) ++ (((out).drop (0)).take (mn - 1)) ++ ((out).drop ((0 + 1) + (mn - 1)))).set 0 (0)).length : Int)) := by first | simpa using h73 | (simp at h73; omega)
          refine wc_exit ?_
          refine wq_then_exit ?_
          refine wq_then_exit ?_
          refine wq_block_exit ?_
          refine wq_block_normal ?_
          refine wq_roundEnd hRR1 hrec1 ?_
          intro w91 hg92 hs93 hrec1
          have pw := pu_row pw hg92 (by intro q hq hlt; injection hq with hq; omega)
          have hpv := Rep.ch hpv hg92 (by intro q hq hlt; injection hq with hq; (try simp only [Lo, Iv]); omega)
          have hb5 := Bk.ch hb5 hg92 (by intro hq; injection hq with hq; omega)
          have hd10 := Bl.ch hd10 hg92 (by intro q hq hlt; injection hq with hq; omega)
          have hb18 := Bk.ch hb18 hg92 (by intro hq; injection hq with hq; omega)
          have hb28 := Bl.ch hb28 hg92 (by intro q hq hlt; injection hq with hq; omega)
          have hb34 := Bk.ch hb34 hg92 (by intro hq; injection hq with hq; omega)
          have hd40 := Bl.ch hd40 hg92 (by intro q hq hlt; injection hq with hq; omega)
          have hb45 := Bk.ch hb45 hg92 (by intro hq; injection hq with hq; omega)
          have hmk := Mk.ch hmk hg92 (by intro q hq hlt; injection hq with hq; left; omega)
          refine ⟨(mulStep p pl (digitsL p mn a) ((digitsL p mn b).getD ((digitsL p mn b).length - 1 - kk) 0) out), ?_, ?_, ?_, hrec1, pw, hpv, hb5, hd10, hb18, (by have h := hb28; rw [show i = out.length by omega, mulGo_all _ _ _ _ _ (by omega)] at h; exact h), hb34, hd40, hb45, hmk⟩
          · (rw [mulStep_len]; exact q1_1)
          · (exact mulStep_bd p hp _ _ _ _)
          · (rw [show (digitsL p mn b).length - (kk + 1) = (digitsL p mn b).length - 1 - kk by omega, drop_getD (digitsL p mn b) ((digitsL p mn b).length - 1 - kk) (by omega), List.foldr_cons, show (digitsL p mn b).length - 1 - kk + 1 = (digitsL p mn b).length - kk by omega, ← q1_3])
    case rest1 =>
      rintro _ w94 ⟨-, hIr⟩
      obtain ⟨kk, hkn, out, q1_1, q1_2, q1_3, hrec1, pw, hpv, hb5, hd10, hb18, hb28, hb34, hd40, hb45, hmk⟩ : ∃ kk : Nat, kk = (digitsL (p) (mn) (b)).length ∧ (fun (kk : Nat) (w' : World) => ∃ out : List Int, (out.length = mn) ∧ (∀ x ∈ out, 0 ≤ x ∧ x ≤ 12) ∧ (out = ((digitsL p mn b).drop ((digitsL p mn b).length - kk)).foldr (mulStep p pl (digitsL p mn a)) (List.replicate mn 0)) ∧ RR1 .ready w' ∧ w.grownBy w' none ∧ rI.R w' (Lo w.heap.size) (pv) (pl) ∧ Bk w' g1 72 [.int .i64 (p), .int .i64 ((mn : Int)), pv] ∧ Bl iR 3 w' (w2.heap.size) (w12.heap.size) (v11) (digitsL (p) (mn) (a)) ∧ Bk w' g14 24 [v11] ∧ Bl iR 3 w' (w20.heap.size) (w25.heap.size) (.slice (some ⟨g24, 0, none⟩) mn mn) (out) ∧ Bk w' g30 24 [.slice (some ⟨g24, 0, none⟩) mn mn] ∧ Bl iR 3 w' (w36.heap.size) (w42.heap.size) (v41) (digitsL (p) (mn) (b)) ∧ Bk w' g44 24 [v41] ∧ Mk w' (w48.heap.size) (lp1) ([mark w48.heap.size])) kk w94 := ⟨_, rfl, hIr⟩
      refine ⟨hrec1, ?_⟩
      intro w95 hg96 hs97
      have pw := pu_row pw hg96 (by intro q hq hlt; injection hq with hq; omega)
      have hpv := Rep.ch hpv hg96 (by intro q hq hlt; injection hq with hq; (try simp only [Lo, Iv]); omega)
      have hb5 := Bk.ch hb5 hg96 (by intro hq; injection hq with hq; omega)
      have hd10 := Bl.ch hd10 hg96 (by intro q hq hlt; injection hq with hq; omega)
      have hb18 := Bk.ch hb18 hg96 (by intro hq; injection hq with hq; omega)
      have hb28 := Bl.ch hb28 hg96 (by intro q hq hlt; injection hq with hq; omega)
      have hb34 := Bk.ch hb34 hg96 (by intro hq; injection hq with hq; omega)
      have hd40 := Bl.ch hd40 hg96 (by intro q hq hlt; injection hq with hq; omega)
      have hb45 := Bk.ch hb45 hg96 (by intro hq; injection hq with hq; omega)
      have hmk := Mk.ch hmk hg96 (by intro q hq hlt; injection hq with hq; left; omega)
      refine wq_block_normal ?_
      refine wq_then ?_
      refine wc_seq ?_
      refine wc_region ?_
      refine wl_v (st_loadAgg (cs := [.int .i64 (p), .int .i64 ((mn : Int)), pv]) ty72 rfl rfl rfl (Bk.cells hb5)) rfl rfl rfl ?_
      refine wl_v (st_load (v := .slice (some ⟨g24, 0, none⟩) mn mn) ty24 rfl rfl (Bk.cell hb34 (i := 0) rfl)) rfl rfl rfl ?_
      refine wl_call (vs := [.agg #[.int .i64 (p), .int .i64 ((mn : Int)), pv], .slice (some ⟨g24, 0, none⟩) mn mn]) C104 rfl rfl (number_ok (p) (mn) (pv) _ _ _ _ (by omega) (by omega) (fun x hx => by have := q1_2 x hx; omega) (Bl.sl hb28)) ?_
      rintro _ w98 ⟨rfl, hn99⟩
      have pw := pu_trans pw hn99
      have hpv := Rep.pu hpv hn99
      have hb5 := Bk.pu hb5 hn99
      have hd10 := Bl.pu hd10 hn99
      have hb18 := Bk.pu hb18 hn99
      have hb28 := Bl.pu hb28 hn99
      have hb34 := Bk.pu hb34 hn99
      have hd40 := Bl.pu hd40 hn99
      have hb45 := Bk.pu hb45 hn99
      have hmk := Mk.pu hmk hn99
      have hzw98 := World.grownBy.size hn99
      refine wl_v (st_assign (v := .int .i64 (numberL (p) (out))) rfl) rfl rfl rfl ?_
      refine wl_nil ?_
      refine wq_then ?_
      refine wc_ret ?_
      have hzw := World.grownBy.size pw
      refine wq_ret1M (v := .int .i64 (numberL (p) (out))) rfl hmk rfl ?_
      intro w100 hb101
      have pw := pu_below2 pw hb101 (by omega)
      have hpv := Rep.belowS hpv hb101 (by intro b hb1 hb2; simp only [Lo, Iv] at hb1; omega)
      have hd10 := Bl.below hd10 hb101 (by omega)
      have hb28 := Bl.below hb28 hb101 (by omega)
      have hd40 := Bl.below hd40 hb101 (by omega)
      exact ⟨congrArg (Value.int .i64) (by rw [mulL, if_neg (by omega), q1_3, hkn, Nat.sub_self, List.drop_zero]), pw⟩

end Go.Proofs.YthofgamegondnaaDoor

namespace Go.Proofs.YthofgamegondnaaDoor
open Go.RowKit
set_option linter.unusedSimpArgs false
set_option linter.unusedVariables false

end Go.Proofs.YthofgamegondnaaDoor

namespace Go.Proofs.YthofgamegondnaaDoor
open Go.RowKit
end Go.Proofs.YthofgamegondnaaDoor

namespace Go.Proofs.YthofgamegondnaaDoor
open Go.RowKit
set_option linter.unusedSimpArgs false
set_option linter.unusedVariables false

end Go.Proofs.YthofgamegondnaaDoor

namespace Go.Proofs.YthofgamegondnaaDoor
open Go.RowKit
set_option linter.unusedSimpArgs false
set_option linter.unusedVariables false

end Go.Proofs.YthofgamegondnaaDoor

namespace Go.Proofs.YthofgamegondnaaDoor
open Go.RowKit
theorem vr_rI {w : World} {Z : Nat → Prop} {pl : List Int} {pv : Value} (h : VR w Z [] (.sl 1 (pl.map cdI.enc)) pv) : rI.R w Z pv pl := by
  cases h with
  | sl hn hl hc hm ha hx =>
    rename_i c n A us
    rw [List.length_map] at hn hl
    have hat : ∀ (i : Nat) (u : Value) (x : Int), us[i]? = some u → pl[i]? = some x → u = .int .i64 x := fun i u x hu hx' =>
      (hx i (cdI.enc x) u (by rw [List.getElem?_map, hx']; rfl) hu).v_inv
    refine ⟨us, ⟨A, c, by rw [hl, hn], by omega, hm, fun h0 => ?_⟩, hl, hat⟩
    obtain ⟨a, h1, h2, h3, h4⟩ := ha (by omega)
    refine ⟨a, h1, h3, fun i u hu => ?_⟩
    have hi : i < pl.length := by have := (List.getElem?_eq_some_iff.1 hu).1; omega
    have e := hat i u pl[i] hu (List.getElem?_eq_getElem hi)
    have h5 := (h4 i u hu).2.2 0 u (by rw [e]; rfl)
    have e2 : a.add i = ⟨a.block, a.off + (i * 1 + 0), none⟩ := by
      cases a
      simp only at h2
      subst h2
      simp [Addr.add]
    rw [e2]
    exact h5
theorem fld_args {w : World} {Z : Nat → Prop} {us : List Value} {p m a b : Int} {pl : List Int} (hv : VRs w Z [] [.ag [cdI.enc p, cdI.enc m, (cdL 1 cdI).enc pl], cdI.enc a, cdI.enc b] us) : ∃ pv, us = [.agg #[.int .i64 p, .int .i64 m, pv], .int .i64 a, .int .i64 b] ∧ rI.R w Z pv pl := by
  obtain ⟨u1, r1, rfl, h1, hv⟩ := hv.head
  obtain ⟨u2, r2, rfl, h2, hv⟩ := hv.head
  obtain ⟨u3, r3, rfl, h3, hv⟩ := hv.head
  have : r3 = [] := List.eq_nil_of_length_eq_zero hv.len
  subst this
  rw [h2.v_inv, h3.v_inv]
  cases h1 with
  | ag hl hh hx =>
    rename_i us
    match us, hl, hx with
    | [v1, v2, v3], _, hx =>
      have e1 := (hx 0 _ v1 rfl rfl).v_inv
      have e2 := (hx 1 _ v2 rfl rfl).v_inv
      have e3 := hx 2 _ v3 rfl rfl
      refine ⟨v3, ?_, vr_rI e3⟩
      rw [e1, e2]
def evening_field_add (f : Int × Int × List Int) (a b : Int) : Option Int := if 2 ≤ f.1 ∧ f.1 ≤ 13 ∧ 0 ≤ f.2.1 ∧ f.2.1 ≤ 4 ∧ 0 ≤ a ∧ a ≤ 1000 ∧ 0 ≤ b ∧ b ≤ 1000 then some (addL f.1 f.2.1.toNat a b) else none
def cs_evening_field_add : Cs ((Int × Int × List Int) × Int × Int × Unit) := (csC (cdG3 cdI cdI (cdL 1 cdI) (fun _ => rfl) (fun _ => rfl) (fun _ => rfl)) (csC cdI (csC cdI csN)))
def er_evening_field_add (r : Int) : AV := cdI.enc r
def t_evening_field_add : List AV → Option AV := told cs_evening_field_add (fun a => evening_field_add a.1 a.2.1 a.2.2.1) er_evening_field_add
theorem x_evening_field_add : XOk 57 t_evening_field_add := by
  refine ⟨⟨Tryd.call57⟩, fun xs x h w Z us _ _ hv => ?_⟩
  obtain ⟨⟨⟨p, m, pl⟩, a, b, u⟩, ha, h⟩ := Option.bind_eq_some_iff.1 h
  obtain ⟨r, hb, rfl⟩ := Option.map_eq_some_iff.1 h
  obtain ⟨pv, rfl, _⟩ := fld_args (cs_evening_field_add.vr ha hv)
  simp only [evening_field_add] at hb
  split at hb
  · next hc =>
    have hb := Option.some.inj hb
    subst hb
    have hm : m = ((m.toNat : Nat) : Int) := by omega
    have := add_ok p a b m.toNat pv w (by omega) (by omega) (by omega) (by omega)
    rw [← hm] at this
    exact Ret.mono this fun v w' h => ⟨h.2, by rw [h.1]; exact .v rfl⟩
  · cases hb
def evening_field_mul (f : Int × Int × List Int) (a b : Int) : Option Int := if (2 ≤ f.1 ∧ f.1 ≤ 13 ∧ 1 ≤ f.2.1 ∧ f.2.1 ≤ 4 ∧ 0 ≤ a ∧ a ≤ 1000 ∧ 0 ≤ b ∧ b ≤ 1000) ∧ (f.2.2.length : Int) = f.2.1 ∧ (f.2.2.all fun x => decide (0 ≤ x) && decide (x ≤ 12)) = true then some (mulL f.1 f.2.1.toNat f.2.2 a b) else none
def cs_evening_field_mul : Cs ((Int × Int × List Int) × Int × Int × Unit) := (csC (cdG3 cdI cdI (cdL 1 cdI) (fun _ => rfl) (fun _ => rfl) (fun _ => rfl)) (csC cdI (csC cdI csN)))
def er_evening_field_mul (r : Int) : AV := cdI.enc r
def t_evening_field_mul : List AV → Option AV := told cs_evening_field_mul (fun a => evening_field_mul a.1 a.2.1 a.2.2.1) er_evening_field_mul
theorem x_evening_field_mul : XOk 58 t_evening_field_mul := by
  refine ⟨⟨Tryd.call58⟩, fun xs x h w Z us _ _ hv => ?_⟩
  obtain ⟨⟨⟨p, m, pl⟩, a, b, u⟩, ha, h⟩ := Option.bind_eq_some_iff.1 h
  obtain ⟨r, hb, rfl⟩ := Option.map_eq_some_iff.1 h
  obtain ⟨pv, rfl, hpv⟩ := fld_args (cs_evening_field_mul.vr ha hv)
  simp only [evening_field_mul] at hb
  split at hb
  · next hc =>
    have hb := Option.some.inj hb
    subst hb
    obtain ⟨hc, hl, hall⟩ := hc
    have hm : m = ((m.toNat : Nat) : Int) := by omega
    have := mul_ok p a b m.toNat pv pl Z w (by omega) (by omega) (by omega) (by omega) (by omega) (fun x hx => by have := List.all_eq_true.1 hall x hx; simpa using this) hpv
    rw [← hm] at this
    exact Ret.mono this fun v w' h => ⟨h.2, by rw [h.1]; exact .v rfl⟩
  · cases hb
end Go.Proofs.YthofgamegondnaaDoor

namespace Go.Proofs.YthofgamegondnaaDoor
open Go.RowKit
/- trestle/evening.Net -/
noncomputable def e_evening_Net : Env := (((E0.withX 56 t_evening_fieldOf).withX 58 t_evening_field_mul).withX 57 t_evening_field_add)
theorem e_evening_Net_ok : EnvOk e_evening_Net := (EnvOk.withX (EnvOk.withX (EnvOk.withX E0_ok x_evening_fieldOf.1 x_evening_fieldOf.2) x_evening_field_mul.1 x_evening_field_mul.2) x_evening_field_add.1 x_evening_field_add.2)
noncomputable def cb_evening_Net : Code := codeOf Tryd.f46
def evening_Net_3 (x0 : Int) (x1 : Int) (j6 : Int × Int × (List Int) × Bool) (c8 : (List (List (List Int)))) (c9 : Int) (c11 : (List (List Int))) (c12 : Int) : Nat → (List Int) → Int → Option (((List Int)))
  | 0, _, _ => none
  | f + 1, c14, c15 =>
    if (decide (c15 < x0)) = true then
    (evening_field_mul (j6.1, j6.2.1, j6.2.2.1) c9 c15).bind fun v17 =>
    (evening_field_add (j6.1, j6.2.1, j6.2.2.1) v17 c12).bind fun v18 =>
    if (capOk 8 (c14.length + 1)) = true then
    evening_Net_3 x0 x1 j6 c8 c9 c11 c12 f (c14 ++ [(wr .i64 ((wr .i64 (c15 * x1)) + v18))]) (wr .i64 (c15 + 1))
    else none
    else
    some c14
def evening_Net_2 (x0 : Int) (x1 : Int) (j6 : Int × Int × (List Int) × Bool) (c8 : (List (List (List Int)))) (c9 : Int) : Nat → (List (List Int)) → Int → Option (((List (List Int))))
  | 0, _, _ => none
  | f + 1, c11, c12 =>
    if (decide (c12 < x1)) = true then
    (evening_Net_3 x0 x1 j6 c8 c9 c11 c12 100000 [] 0).bind fun r21 =>
    if (capOk 24 (c11.length + 1)) = true then
    evening_Net_2 x0 x1 j6 c8 c9 f (c11 ++ [r21]) (wr .i64 (c12 + 1))
    else none
    else
    some c11
def evening_Net_1 (x0 : Int) (x1 : Int) (j6 : Int × Int × (List Int) × Bool) : Nat → (List (List (List Int))) → Int → Option (((List (List (List Int)))))
  | 0, _, _ => none
  | f + 1, c8, c9 =>
    if (decide (c9 < x1)) = true then
    (evening_Net_2 x0 x1 j6 c8 c9 100000 [] 0).bind fun r24 =>
    if (capOk 24 (c8.length + 1)) = true then
    evening_Net_1 x0 x1 j6 f (c8 ++ [r24]) (wr .i64 (c9 + 1))
    else none
    else
    some c8
def evening_Net (x0 : Int) (x1 : Int) : Option ((List (List (List Int))) × Int) :=
  (evening_fieldOf x1).bind fun v1 =>
  (if (!v1.2) = true then some (v1.1.1, v1.1.2.1, v1.1.2.2, true) else if (decide (x0 < 1)) = true then some (v1.1.1, v1.1.2.1, v1.1.2.2, true) else if (decide (x0 > x1)) = true then some (v1.1.1, v1.1.2.1, v1.1.2.2, true) else some (v1.1.1, v1.1.2.1, v1.1.2.2, (decide ((wr .i64 (x0 * x1)) > 64)))).bind fun j6 =>
  if j6.2.2.2 = true then
  some ([], 90)
  else
  (evening_Net_1 x0 x1 j6 100000 [] 0).bind fun r27 =>
  some (r27, 0)
def cs_evening_Net : Cs (Int × Int × Unit) := (csC cdI (csC cdI csN))
set_option maxHeartbeats 4000000 in
set_option maxRecDepth 100000 in
theorem evening_Net_3_ok (x0 : Int) (x1 : Int) (j6 : Int × Int × (List Int) × Bool) (c8 : (List (List (List Int)))) (c9 : Int) (c11 : (List (List Int))) (c12 : Int) : ∀ (f : Nat) (c14 : (List Int)) (c15 : Int) (r : ((List Int))), evening_Net_3 x0 x1 j6 c8 c9 c11 c12 f c14 c15 = some r → SemN e_evening_Net ⟨none, false⟩ (pc cb_evening_Net [1, 1, 1, 1, 0, 1, 0, 0, 1, 1, 0, 0, 1, 1, 0, 1, 0, 0, 1, 1, 0, 0, 1, 1, 0, 1, 0, 0]) f ⟨Fr 74 [(0, .v (.int .i64 x0)), (1, .v (.int .i64 x1)), (6, .pt 0 0 0), (8, hd 1 (c8.map (cdL 1 (cdL 1 cdI)).enc)), (9, .v (.int .i64 c9)), (10, hd 2 (c11.map (cdL 1 cdI).enc)), (11, .v (.int .i64 c12)), (12, hd 3 (c14.map cdI.enc)), (36, .v (.int .i64 x1)), (37, .v (.int .i64 c9)), (40, .v (.int .i64 x1)), (41, .v (.int .i64 c12)), (44, .v (.int .i64 x0)), (45, .v (.int .i64 c15))], [some ⟨3, 72, [.ag [.v (.int .i64 j6.1), .v (.int .i64 j6.2.1), .sl 1 (j6.2.2.1.map cdI.enc)]], false⟩, mk 1 49 (c8.map (cdL 1 (cdL 1 cdI)).enc), mk 1 24 (c11.map (cdL 1 cdI).enc), mk 1 3 (c14.map cdI.enc)]⟩ (fun e s => e = (.exit 4) ∧ Wk e_evening_Net s ⟨Fr 74 [(0, .v (.int .i64 x0)), (1, .v (.int .i64 x1)), (6, .pt 0 0 0), (8, hd 1 (c8.map (cdL 1 (cdL 1 cdI)).enc)), (9, .v (.int .i64 c9)), (10, hd 2 (c11.map (cdL 1 cdI).enc)), (12, hd 3 (r.map cdI.enc)), (36, .v (.int .i64 x1)), (37, .v (.int .i64 c9)), (40, .v (.int .i64 x1)), (41, .v (.int .i64 c12))], [some ⟨3, 72, [.ag [.v (.int .i64 j6.1), .v (.int .i64 j6.2.1), .sl 1 (j6.2.2.1.map cdI.enc)]], false⟩, mk 1 49 (c8.map (cdL 1 (cdL 1 cdI)).enc), mk 1 24 (c11.map (cdL 1 cdI).enc), mk 1 3 (r.map cdI.enc)]⟩) := by
  intro f
  induction f with
  | zero => intro c14 c15 r h; cases h
  | succ f ih0 =>
    intro c14 c15 r h
    have ih := fun (c14 : (List Int)) (c15 : Int) => ih0 c14 c15 r
    unfold evening_Net_3 at h
    refine SemN.succ ?_
    refine Sem.seq ?_
    refine Sem.runS (s1 := ⟨Fr 74 [(0, .v (.int .i64 x0)), (1, .v (.int .i64 x1)), (6, .pt 0 0 0), (8, hd 1 (c8.map (cdL 1 (cdL 1 cdI)).enc)), (9, .v (.int .i64 c9)), (10, hd 2 (c11.map (cdL 1 cdI).enc)), (11, .v (.int .i64 c12)), (12, hd 3 (c14.map cdI.enc)), (36, .v (.int .i64 x1)), (37, .v (.int .i64 c9)), (40, .v (.int .i64 x1)), (41, .v (.int .i64 c12)), (44, .v (.int .i64 x0)), (45, .v (.int .i64 c15)), (46, .v (.bool (decide (c15 < x0))))], [some ⟨3, 72, [.ag [.v (.int .i64 j6.1), .v (.int .i64 j6.2.1), .sl 1 (j6.2.2.1.map cdI.enc)]], false⟩, mk 1 49 (c8.map (cdL 1 (cdL 1 cdI)).enc), mk 1 24 (c11.map (cdL 1 cdI).enc), mk 1 3 (c14.map cdI.enc)]⟩) ?_ ?_
    · refine RunS.segF (n := 74) e_evening_Net_ok 1 [(0, .v (.int .i64 x0)), (1, .v (.int .i64 x1)), (6, .pt 0 0 0), (8, hd 1 (c8.map (cdL 1 (cdL 1 cdI)).enc)), (9, .v (.int .i64 c9)), (10, hd 2 (c11.map (cdL 1 cdI).enc)), (11, .v (.int .i64 c12)), (12, hd 3 (c14.map cdI.enc)), (36, .v (.int .i64 x1)), (37, .v (.int .i64 c9)), (40, .v (.int .i64 x1)), (41, .v (.int .i64 c12)), (44, .v (.int .i64 x0)), (45, .v (.int .i64 c15)), (46, .v (.bool (decide (c15 < x0))))] [some ⟨3, 72, [.ag [.v (.int .i64 j6.1), .v (.int .i64 j6.2.1), .sl 1 (j6.2.2.1.map cdI.enc)]], false⟩, mk 1 49 (c8.map (cdL 1 (cdL 1 cdI)).enc), mk 1 24 (c11.map (cdL 1 cdI).enc), mk 1 3 (c14.map cdI.enc)] (by kernel_rfl) ?_
      exact RunS.done rfl (Wk.sel2 [0, 1, 2, 3] (by kernel_rfl) (by kernel_rfl) (by kernel_rfl) ⟨⟨_, rfl, bu_c (by kernel_rfl) (by kernel_rfl)⟩, ⟨_, rfl, bu_mk⟩, ⟨_, rfl, bu_mk⟩, ⟨_, rfl, bu_mk⟩, trivial⟩ ⟨lu (by kernel_rfl) (by kernel_rfl), lu (by kernel_rfl) (by kernel_rfl), lu (by kernel_rfl) (by kernel_rfl), lu_hd (b' := 1) (by kernel_rfl) (by kernel_rfl), lu (by kernel_rfl) (by kernel_rfl), lu_hd (b' := 2) (by kernel_rfl) (by kernel_rfl), lu (by kernel_rfl) (by kernel_rfl), lu_hd (b' := 3) (by kernel_rfl) (by kernel_rfl), lu (by kernel_rfl) (by kernel_rfl), lu (by kernel_rfl) (by kernel_rfl), lu (by kernel_rfl) (by kernel_rfl), lu (by kernel_rfl) (by kernel_rfl), lu (by kernel_rfl) (by kernel_rfl), lu (by kernel_rfl) (by kernel_rfl), lu (by kernel_rfl) (by kernel_rfl), trivial⟩)
    refine Sem.seq ?_
    refine Sem.cond (b := (decide (c15 < x0))) (by kernel_rfl) (fun hb16 => ?_) (fun hb16 => ?_)
    · rw [if_pos hb16] at h
      refine Sem.skip ?_
      refine Sem.seq ?_
      refine Sem.block ?_
      refine Sem.seq ?_
      refine Sem.runS (s1 := ⟨Fr 74 [(0, .v (.int .i64 x0)), (1, .v (.int .i64 x1)), (6, .pt 0 0 0), (8, hd 1 (c8.map (cdL 1 (cdL 1 cdI)).enc)), (9, .v (.int .i64 c9)), (10, hd 2 (c11.map (cdL 1 cdI).enc)), (11, .v (.int .i64 c12)), (12, hd 3 (c14.map cdI.enc)), (13, .v (.int .i64 c15)), (36, .v (.int .i64 x1)), (37, .v (.int .i64 c9)), (40, .v (.int .i64 x1)), (41, .v (.int .i64 c12)), (44, .v (.int .i64 x0)), (45, .v (.int .i64 c15))], [some ⟨3, 72, [.ag [.v (.int .i64 j6.1), .v (.int .i64 j6.2.1), .sl 1 (j6.2.2.1.map cdI.enc)]], false⟩, mk 1 49 (c8.map (cdL 1 (cdL 1 cdI)).enc), mk 1 24 (c11.map (cdL 1 cdI).enc), mk 1 3 (c14.map cdI.enc)]⟩) ?_ ?_
      · refine RunS.segF (n := 74) e_evening_Net_ok 2 [(0, .v (.int .i64 x0)), (1, .v (.int .i64 x1)), (6, .pt 0 0 0), (8, hd 1 (c8.map (cdL 1 (cdL 1 cdI)).enc)), (9, .v (.int .i64 c9)), (10, hd 2 (c11.map (cdL 1 cdI).enc)), (11, .v (.int .i64 c12)), (12, hd 3 (c14.map cdI.enc)), (13, .v (.int .i64 c15)), (36, .v (.int .i64 x1)), (37, .v (.int .i64 c9)), (40, .v (.int .i64 x1)), (41, .v (.int .i64 c12)), (44, .v (.int .i64 x0)), (45, .v (.int .i64 c15))] [some ⟨3, 72, [.ag [.v (.int .i64 j6.1), .v (.int .i64 j6.2.1), .sl 1 (j6.2.2.1.map cdI.enc)]], false⟩, mk 1 49 (c8.map (cdL 1 (cdL 1 cdI)).enc), mk 1 24 (c11.map (cdL 1 cdI).enc), mk 1 3 (c14.map cdI.enc)] (by kernel_rfl) ?_
        exact RunS.done rfl (Wk.sel2 [0, 1, 2, 3] (by kernel_rfl) (by kernel_rfl) (by kernel_rfl) ⟨⟨_, rfl, bu_c (by kernel_rfl) (by kernel_rfl)⟩, ⟨_, rfl, bu_mk⟩, ⟨_, rfl, bu_mk⟩, ⟨_, rfl, bu_mk⟩, trivial⟩ ⟨lu (by kernel_rfl) (by kernel_rfl), lu (by kernel_rfl) (by kernel_rfl), lu (by kernel_rfl) (by kernel_rfl), lu_hd (b' := 1) (by kernel_rfl) (by kernel_rfl), lu (by kernel_rfl) (by kernel_rfl), lu_hd (b' := 2) (by kernel_rfl) (by kernel_rfl), lu (by kernel_rfl) (by kernel_rfl), lu_hd (b' := 3) (by kernel_rfl) (by kernel_rfl), lu (by kernel_rfl) (by kernel_rfl), lu (by kernel_rfl) (by kernel_rfl), lu (by kernel_rfl) (by kernel_rfl), lu (by kernel_rfl) (by kernel_rfl), lu (by kernel_rfl) (by kernel_rfl), lu (by kernel_rfl) (by kernel_rfl), lu (by kernel_rfl) (by kernel_rfl), trivial⟩)
      obtain ⟨v17, hv17, h⟩ := Option.bind_eq_some_iff.1 h
      obtain ⟨v18, hv18, h⟩ := Option.bind_eq_some_iff.1 h
      by_cases hk19 : (capOk 8 (c14.length + 1)) = true
      case neg => rw [if_neg hk19] at h; cases h
      rw [if_pos hk19] at h
      refine Sem.runDS e_evening_Net_ok (s1 := ⟨Fr 74 [(0, .v (.int .i64 x0)), (1, .v (.int .i64 x1)), (6, .pt 0 0 0), (8, hd 1 (c8.map (cdL 1 (cdL 1 cdI)).enc)), (9, .v (.int .i64 c9)), (10, hd 2 (c11.map (cdL 1 cdI).enc)), (11, .v (.int .i64 c12)), (12, hd 3 ((c14 ++ [(wr .i64 ((wr .i64 (c15 * x1)) + v18))]).map cdI.enc)), (36, .v (.int .i64 x1)), (37, .v (.int .i64 c9)), (40, .v (.int .i64 x1)), (41, .v (.int .i64 c12)), (44, .v (.int .i64 x0)), (45, .v (.int .i64 c15))], [some ⟨3, 72, [.ag [.v (.int .i64 j6.1), .v (.int .i64 j6.2.1), .sl 1 (j6.2.2.1.map cdI.enc)]], false⟩, mk 1 49 (c8.map (cdL 1 (cdL 1 cdI)).enc), mk 1 24 (c11.map (cdL 1 cdI).enc), mk 1 3 ((c14 ++ [(wr .i64 ((wr .i64 (c15 * x1)) + v18))]).map cdI.enc)]⟩) (by kernel_rfl) ?_ ?_
      · refine RunDS.segF (n := 74) e_evening_Net_ok 8 [(0, .v (.int .i64 x0)), (1, .v (.int .i64 x1)), (6, .pt 0 0 0), (8, hd 1 (c8.map (cdL 1 (cdL 1 cdI)).enc)), (9, .v (.int .i64 c9)), (10, hd 2 (c11.map (cdL 1 cdI).enc)), (11, .v (.int .i64 c12)), (36, .v (.int .i64 x1)), (37, .v (.int .i64 c9)), (40, .v (.int .i64 x1)), (41, .v (.int .i64 c12)), (44, .v (.int .i64 x0)), (45, .v (.int .i64 c15)), (48, hd 3 (c14.map cdI.enc)), (51, .v (.int .i64 (wr .i64 (c15 * x1)))), (52, .ag [.v (.int .i64 j6.1), .v (.int .i64 j6.2.1), .sl 1 (j6.2.2.1.map cdI.enc)]), (53, .ag [.v (.int .i64 j6.1), .v (.int .i64 j6.2.1), .sl 1 (j6.2.2.1.map cdI.enc)]), (54, .v (.int .i64 c9)), (55, .v (.int .i64 c15))] [some ⟨3, 72, [.ag [.v (.int .i64 j6.1), .v (.int .i64 j6.2.1), .sl 1 (j6.2.2.1.map cdI.enc)]], false⟩, mk 1 49 (c8.map (cdL 1 (cdL 1 cdI)).enc), mk 1 24 (c11.map (cdL 1 cdI).enc), mk 1 3 (c14.map cdI.enc)] (by kernel_rfl) (by kernel_rfl) ?_
        refine RunDS.call e_evening_Net_ok (fid := 58) (s := cs_evening_field_mul) (F := fun a => evening_field_mul a.1 a.2.1 a.2.2.1) (er := er_evening_field_mul) (xs := [.ag [.v (.int .i64 j6.1), .v (.int .i64 j6.2.1), .sl 1 (j6.2.2.1.map cdI.enc)], .v (.int .i64 c9), .v (.int .i64 c15)]) (a := ((j6.1, j6.2.1, j6.2.2.1), c9, c15, ())) rfl (wantedA_none rfl) (by kernel_rfl) (by kernel_rfl) (by kernel_rfl) (Sns.cons (Sn.enc (c := (cdG3 cdI cdI (cdL 1 cdI) (fun _ => rfl) (fun _ => rfl) (fun _ => rfl))) (v := (j6.1, j6.2.1, j6.2.2.1))) (Sns.cons (Sn.enc (c := cdI) (v := c9)) (Sns.cons (Sn.enc (c := cdI) (v := c15)) Sns.nil))) (by kernel_rfl) hv17 ?_
        refine RunDS.segF (n := 74) e_evening_Net_ok 1 [(0, .v (.int .i64 x0)), (1, .v (.int .i64 x1)), (6, .pt 0 0 0), (8, hd 1 (c8.map (cdL 1 (cdL 1 cdI)).enc)), (9, .v (.int .i64 c9)), (10, hd 2 (c11.map (cdL 1 cdI).enc)), (11, .v (.int .i64 c12)), (36, .v (.int .i64 x1)), (37, .v (.int .i64 c9)), (40, .v (.int .i64 x1)), (41, .v (.int .i64 c12)), (44, .v (.int .i64 x0)), (45, .v (.int .i64 c15)), (48, hd 3 (c14.map cdI.enc)), (51, .v (.int .i64 (wr .i64 (c15 * x1)))), (52, .ag [.v (.int .i64 j6.1), .v (.int .i64 j6.2.1), .sl 1 (j6.2.2.1.map cdI.enc)]), (56, .v (.int .i64 v17)), (57, .v (.int .i64 c12))] [some ⟨3, 72, [.ag [.v (.int .i64 j6.1), .v (.int .i64 j6.2.1), .sl 1 (j6.2.2.1.map cdI.enc)]], false⟩, mk 1 49 (c8.map (cdL 1 (cdL 1 cdI)).enc), mk 1 24 (c11.map (cdL 1 cdI).enc), mk 1 3 (c14.map cdI.enc)] (by kernel_rfl) (by kernel_rfl) ?_
        refine RunDS.call e_evening_Net_ok (fid := 57) (s := cs_evening_field_add) (F := fun a => evening_field_add a.1 a.2.1 a.2.2.1) (er := er_evening_field_add) (xs := [.ag [.v (.int .i64 j6.1), .v (.int .i64 j6.2.1), .sl 1 (j6.2.2.1.map cdI.enc)], .v (.int .i64 v17), .v (.int .i64 c12)]) (a := ((j6.1, j6.2.1, j6.2.2.1), v17, c12, ())) rfl (wantedA_none rfl) (by kernel_rfl) (by kernel_rfl) (by kernel_rfl) (Sns.cons (Sn.enc (c := (cdG3 cdI cdI (cdL 1 cdI) (fun _ => rfl) (fun _ => rfl) (fun _ => rfl))) (v := (j6.1, j6.2.1, j6.2.2.1))) (Sns.cons (Sn.enc (c := cdI) (v := v17)) (Sns.cons (Sn.enc (c := cdI) (v := c12)) Sns.nil))) (by kernel_rfl) hv18 ?_
        refine RunDS.segF (n := 74) e_evening_Net_ok 2 [(0, .v (.int .i64 x0)), (1, .v (.int .i64 x1)), (6, .pt 0 0 0), (8, hd 1 (c8.map (cdL 1 (cdL 1 cdI)).enc)), (9, .v (.int .i64 c9)), (10, hd 2 (c11.map (cdL 1 cdI).enc)), (11, .v (.int .i64 c12)), (36, .v (.int .i64 x1)), (37, .v (.int .i64 c9)), (40, .v (.int .i64 x1)), (41, .v (.int .i64 c12)), (44, .v (.int .i64 x0)), (45, .v (.int .i64 c15)), (48, hd 3 (c14.map cdI.enc)), (60, hd 4 ([(wr .i64 ((wr .i64 (c15 * x1)) + v18))].map cdI.enc))] [some ⟨3, 72, [.ag [.v (.int .i64 j6.1), .v (.int .i64 j6.2.1), .sl 1 (j6.2.2.1.map cdI.enc)]], false⟩, mk 1 49 (c8.map (cdL 1 (cdL 1 cdI)).enc), mk 1 24 (c11.map (cdL 1 cdI).enc), mk 1 3 (c14.map cdI.enc), mk 1 3 ([(wr .i64 ((wr .i64 (c15 * x1)) + v18))].map cdI.enc)] (by kernel_rfl) (by kernel_rfl) ?_
        refine RunDS.tail rfl rfl ?_
        refine RunS.one e_evening_Net_ok 0 rfl (op_w (wantedA_none rfl) rfl (by kernel_rfl) (by kernel_rfl) (w_append (a := hd 3 (c14.map cdI.enc)) (b := hd 4 ([(wr .i64 ((wr .i64 (c15 * x1)) + v18))].map cdI.enc)) (by kernel_rfl) (by kernel_rfl) (append_B (c := cdI) (xs := c14) (vs := [(wr .i64 ((wr .i64 (c15 * x1)) + v18))]) (k := 1) (bytes := 8) (el := 3) (by kernel_rfl) (by kernel_rfl) (elems_hd (t := 3) (by kernel_rfl)) (List.cons_ne_nil _ _) (by kernel_rfl) hk19))) ?_
        refine RunS.segF (n := 74) e_evening_Net_ok 1 [(0, .v (.int .i64 x0)), (1, .v (.int .i64 x1)), (6, .pt 0 0 0), (8, hd 1 (c8.map (cdL 1 (cdL 1 cdI)).enc)), (9, .v (.int .i64 c9)), (10, hd 2 (c11.map (cdL 1 cdI).enc)), (11, .v (.int .i64 c12)), (12, hd 5 ((c14 ++ [(wr .i64 ((wr .i64 (c15 * x1)) + v18))]).map cdI.enc)), (36, .v (.int .i64 x1)), (37, .v (.int .i64 c9)), (40, .v (.int .i64 x1)), (41, .v (.int .i64 c12)), (44, .v (.int .i64 x0)), (45, .v (.int .i64 c15))] [some ⟨3, 72, [.ag [.v (.int .i64 j6.1), .v (.int .i64 j6.2.1), .sl 1 (j6.2.2.1.map cdI.enc)]], false⟩, mk 1 49 (c8.map (cdL 1 (cdL 1 cdI)).enc), mk 1 24 (c11.map (cdL 1 cdI).enc), none, mk 1 3 ([(wr .i64 ((wr .i64 (c15 * x1)) + v18))].map cdI.enc), mk 1 3 ((c14 ++ [(wr .i64 ((wr .i64 (c15 * x1)) + v18))]).map cdI.enc)] (by kernel_rfl) ?_
        exact RunS.done rfl (Wk.sel2 [0, 1, 2, 5] (by kernel_rfl) (by kernel_rfl) (by kernel_rfl) ⟨⟨_, rfl, bu_c (by kernel_rfl) (by kernel_rfl)⟩, ⟨_, rfl, bu_mk⟩, ⟨_, rfl, bu_mk⟩, ⟨_, rfl, bu_mk⟩, trivial⟩ ⟨lu (by kernel_rfl) (by kernel_rfl), lu (by kernel_rfl) (by kernel_rfl), lu (by kernel_rfl) (by kernel_rfl), lu_hd (b' := 1) (by kernel_rfl) (by kernel_rfl), lu (by kernel_rfl) (by kernel_rfl), lu_hd (b' := 2) (by kernel_rfl) (by kernel_rfl), lu (by kernel_rfl) (by kernel_rfl), lu_hd (b' := 5) (by kernel_rfl) (by kernel_rfl), lu (by kernel_rfl) (by kernel_rfl), lu (by kernel_rfl) (by kernel_rfl), lu (by kernel_rfl) (by kernel_rfl), lu (by kernel_rfl) (by kernel_rfl), lu (by kernel_rfl) (by kernel_rfl), lu (by kernel_rfl) (by kernel_rfl), trivial⟩)
      refine Sem.runS (s1 := ⟨Fr 74 [(0, .v (.int .i64 x0)), (1, .v (.int .i64 x1)), (6, .pt 0 0 0), (8, hd 1 (c8.map (cdL 1 (cdL 1 cdI)).enc)), (9, .v (.int .i64 c9)), (10, hd 2 (c11.map (cdL 1 cdI).enc)), (11, .v (.int .i64 c12)), (12, hd 3 ((c14 ++ [(wr .i64 ((wr .i64 (c15 * x1)) + v18))]).map cdI.enc)), (36, .v (.int .i64 x1)), (37, .v (.int .i64 c9)), (40, .v (.int .i64 x1)), (41, .v (.int .i64 c12)), (44, .v (.int .i64 x0)), (45, .v (.int .i64 (wr .i64 (c15 + 1))))], [some ⟨3, 72, [.ag [.v (.int .i64 j6.1), .v (.int .i64 j6.2.1), .sl 1 (j6.2.2.1.map cdI.enc)]], false⟩, mk 1 49 (c8.map (cdL 1 (cdL 1 cdI)).enc), mk 1 24 (c11.map (cdL 1 cdI).enc), mk 1 3 ((c14 ++ [(wr .i64 ((wr .i64 (c15 * x1)) + v18))]).map cdI.enc)]⟩) ?_ ?_
      · refine RunS.segF (n := 74) e_evening_Net_ok 2 [(0, .v (.int .i64 x0)), (1, .v (.int .i64 x1)), (6, .pt 0 0 0), (8, hd 1 (c8.map (cdL 1 (cdL 1 cdI)).enc)), (9, .v (.int .i64 c9)), (10, hd 2 (c11.map (cdL 1 cdI).enc)), (11, .v (.int .i64 c12)), (12, hd 3 ((c14 ++ [(wr .i64 ((wr .i64 (c15 * x1)) + v18))]).map cdI.enc)), (36, .v (.int .i64 x1)), (37, .v (.int .i64 c9)), (40, .v (.int .i64 x1)), (41, .v (.int .i64 c12)), (44, .v (.int .i64 x0)), (45, .v (.int .i64 (wr .i64 (c15 + 1))))] [some ⟨3, 72, [.ag [.v (.int .i64 j6.1), .v (.int .i64 j6.2.1), .sl 1 (j6.2.2.1.map cdI.enc)]], false⟩, mk 1 49 (c8.map (cdL 1 (cdL 1 cdI)).enc), mk 1 24 (c11.map (cdL 1 cdI).enc), mk 1 3 ((c14 ++ [(wr .i64 ((wr .i64 (c15 * x1)) + v18))]).map cdI.enc)] (by kernel_rfl) ?_
        exact RunS.done rfl (Wk.sel2 [0, 1, 2, 3] (by kernel_rfl) (by kernel_rfl) (by kernel_rfl) ⟨⟨_, rfl, bu_c (by kernel_rfl) (by kernel_rfl)⟩, ⟨_, rfl, bu_mk⟩, ⟨_, rfl, bu_mk⟩, ⟨_, rfl, bu_mk⟩, trivial⟩ ⟨lu (by kernel_rfl) (by kernel_rfl), lu (by kernel_rfl) (by kernel_rfl), lu (by kernel_rfl) (by kernel_rfl), lu_hd (b' := 1) (by kernel_rfl) (by kernel_rfl), lu (by kernel_rfl) (by kernel_rfl), lu_hd (b' := 2) (by kernel_rfl) (by kernel_rfl), lu (by kernel_rfl) (by kernel_rfl), lu_hd (b' := 3) (by kernel_rfl) (by kernel_rfl), lu (by kernel_rfl) (by kernel_rfl), lu (by kernel_rfl) (by kernel_rfl), lu (by kernel_rfl) (by kernel_rfl), lu (by kernel_rfl) (by kernel_rfl), lu (by kernel_rfl) (by kernel_rfl), lu (by kernel_rfl) (by kernel_rfl), trivial⟩)
      exact SemN.wk (s1 := ⟨Fr 74 [(0, .v (.int .i64 x0)), (1, .v (.int .i64 x1)), (6, .pt 0 0 0), (8, hd 1 (c8.map (cdL 1 (cdL 1 cdI)).enc)), (9, .v (.int .i64 c9)), (10, hd 2 (c11.map (cdL 1 cdI).enc)), (11, .v (.int .i64 c12)), (12, hd 3 ((c14 ++ [(wr .i64 ((wr .i64 (c15 * x1)) + v18))]).map cdI.enc)), (36, .v (.int .i64 x1)), (37, .v (.int .i64 c9)), (40, .v (.int .i64 x1)), (41, .v (.int .i64 c12)), (44, .v (.int .i64 x0)), (45, .v (.int .i64 (wr .i64 (c15 + 1))))], [some ⟨3, 72, [.ag [.v (.int .i64 j6.1), .v (.int .i64 j6.2.1), .sl 1 (j6.2.2.1.map cdI.enc)]], false⟩, mk 1 49 (c8.map (cdL 1 (cdL 1 cdI)).enc), mk 1 24 (c11.map (cdL 1 cdI).enc), mk 1 3 ((c14 ++ [(wr .i64 ((wr .i64 (c15 * x1)) + v18))]).map cdI.enc)]⟩) (Wk.sel2 [0, 1, 2, 3] (by kernel_rfl) (by kernel_rfl) (by kernel_rfl) ⟨⟨_, rfl, bu_c (by kernel_rfl) (by kernel_rfl)⟩, ⟨_, rfl, bu_mk⟩, ⟨_, rfl, bu_mk⟩, ⟨_, rfl, bu_mk⟩, trivial⟩ ⟨lu (by kernel_rfl) (by kernel_rfl), lu (by kernel_rfl) (by kernel_rfl), lu (by kernel_rfl) (by kernel_rfl), lu_hd (b' := 1) (by kernel_rfl) (by kernel_rfl), lu (by kernel_rfl) (by kernel_rfl), lu_hd (b' := 2) (by kernel_rfl) (by kernel_rfl), lu (by kernel_rfl) (by kernel_rfl), lu_hd (b' := 3) (by kernel_rfl) (by kernel_rfl), lu (by kernel_rfl) (by kernel_rfl), lu (by kernel_rfl) (by kernel_rfl), lu (by kernel_rfl) (by kernel_rfl), lu (by kernel_rfl) (by kernel_rfl), lu (by kernel_rfl) (by kernel_rfl), lu (by kernel_rfl) (by kernel_rfl), trivial⟩) (ih (c14 ++ [(wr .i64 ((wr .i64 (c15 * x1)) + v18))]) (wr .i64 (c15 + 1)) h)
    · rw [if_f hb16] at h
      refine Sem.exit ?_
      have hq := Option.some.inj h; subst hq
      exact ⟨rfl, (Wk.sel2 [0, 1, 2, 3] (by kernel_rfl) (by kernel_rfl) (by kernel_rfl) ⟨⟨_, rfl, bu_c (by kernel_rfl) (by kernel_rfl)⟩, ⟨_, rfl, bu_mk⟩, ⟨_, rfl, bu_mk⟩, ⟨_, rfl, bu_mk⟩, trivial⟩ ⟨lu (by kernel_rfl) (by kernel_rfl), lu (by kernel_rfl) (by kernel_rfl), lu (by kernel_rfl) (by kernel_rfl), lu_hd (b' := 1) (by kernel_rfl) (by kernel_rfl), lu (by kernel_rfl) (by kernel_rfl), lu_hd (b' := 2) (by kernel_rfl) (by kernel_rfl), lu_hd (b' := 3) (by kernel_rfl) (by kernel_rfl), lu (by kernel_rfl) (by kernel_rfl), lu (by kernel_rfl) (by kernel_rfl), lu (by kernel_rfl) (by kernel_rfl), lu (by kernel_rfl) (by kernel_rfl), trivial⟩)⟩
set_option maxHeartbeats 4000000 in
set_option maxRecDepth 100000 in
theorem evening_Net_2_ok (x0 : Int) (x1 : Int) (j6 : Int × Int × (List Int) × Bool) (c8 : (List (List (List Int)))) (c9 : Int) : ∀ (f : Nat) (c11 : (List (List Int))) (c12 : Int) (r : ((List (List Int)))), evening_Net_2 x0 x1 j6 c8 c9 f c11 c12 = some r → SemN e_evening_Net ⟨none, false⟩ (pc cb_evening_Net [1, 1, 1, 1, 0, 1, 0, 0, 1, 1, 0, 0, 1, 1, 0, 1, 0, 0]) f ⟨Fr 74 [(0, .v (.int .i64 x0)), (1, .v (.int .i64 x1)), (6, .pt 0 0 0), (8, hd 1 (c8.map (cdL 1 (cdL 1 cdI)).enc)), (9, .v (.int .i64 c9)), (10, hd 2 (c11.map (cdL 1 cdI).enc)), (36, .v (.int .i64 x1)), (37, .v (.int .i64 c9)), (40, .v (.int .i64 x1)), (41, .v (.int .i64 c12))], [some ⟨3, 72, [.ag [.v (.int .i64 j6.1), .v (.int .i64 j6.2.1), .sl 1 (j6.2.2.1.map cdI.enc)]], false⟩, mk 1 49 (c8.map (cdL 1 (cdL 1 cdI)).enc), mk 1 24 (c11.map (cdL 1 cdI).enc)]⟩ (fun e s => e = (.exit 2) ∧ Wk e_evening_Net s ⟨Fr 74 [(0, .v (.int .i64 x0)), (1, .v (.int .i64 x1)), (6, .pt 0 0 0), (8, hd 1 (c8.map (cdL 1 (cdL 1 cdI)).enc)), (10, hd 2 (r.map (cdL 1 cdI).enc)), (36, .v (.int .i64 x1)), (37, .v (.int .i64 c9))], [some ⟨3, 72, [.ag [.v (.int .i64 j6.1), .v (.int .i64 j6.2.1), .sl 1 (j6.2.2.1.map cdI.enc)]], false⟩, mk 1 49 (c8.map (cdL 1 (cdL 1 cdI)).enc), mk 1 24 (r.map (cdL 1 cdI).enc)]⟩) := by
  intro f
  induction f with
  | zero => intro c11 c12 r h; cases h
  | succ f ih0 =>
    intro c11 c12 r h
    have ih := fun (c11 : (List (List Int))) (c12 : Int) => ih0 c11 c12 r
    unfold evening_Net_2 at h
    refine SemN.succ ?_
    refine Sem.seq ?_
    refine Sem.runS (s1 := ⟨Fr 74 [(0, .v (.int .i64 x0)), (1, .v (.int .i64 x1)), (6, .pt 0 0 0), (8, hd 1 (c8.map (cdL 1 (cdL 1 cdI)).enc)), (9, .v (.int .i64 c9)), (10, hd 2 (c11.map (cdL 1 cdI).enc)), (36, .v (.int .i64 x1)), (37, .v (.int .i64 c9)), (40, .v (.int .i64 x1)), (41, .v (.int .i64 c12)), (42, .v (.bool (decide (c12 < x1))))], [some ⟨3, 72, [.ag [.v (.int .i64 j6.1), .v (.int .i64 j6.2.1), .sl 1 (j6.2.2.1.map cdI.enc)]], false⟩, mk 1 49 (c8.map (cdL 1 (cdL 1 cdI)).enc), mk 1 24 (c11.map (cdL 1 cdI).enc)]⟩) ?_ ?_
    · refine RunS.segF (n := 74) e_evening_Net_ok 1 [(0, .v (.int .i64 x0)), (1, .v (.int .i64 x1)), (6, .pt 0 0 0), (8, hd 1 (c8.map (cdL 1 (cdL 1 cdI)).enc)), (9, .v (.int .i64 c9)), (10, hd 2 (c11.map (cdL 1 cdI).enc)), (36, .v (.int .i64 x1)), (37, .v (.int .i64 c9)), (40, .v (.int .i64 x1)), (41, .v (.int .i64 c12)), (42, .v (.bool (decide (c12 < x1))))] [some ⟨3, 72, [.ag [.v (.int .i64 j6.1), .v (.int .i64 j6.2.1), .sl 1 (j6.2.2.1.map cdI.enc)]], false⟩, mk 1 49 (c8.map (cdL 1 (cdL 1 cdI)).enc), mk 1 24 (c11.map (cdL 1 cdI).enc)] (by kernel_rfl) ?_
      exact RunS.done rfl (Wk.sel2 [0, 1, 2] (by kernel_rfl) (by kernel_rfl) (by kernel_rfl) ⟨⟨_, rfl, bu_c (by kernel_rfl) (by kernel_rfl)⟩, ⟨_, rfl, bu_mk⟩, ⟨_, rfl, bu_mk⟩, trivial⟩ ⟨lu (by kernel_rfl) (by kernel_rfl), lu (by kernel_rfl) (by kernel_rfl), lu (by kernel_rfl) (by kernel_rfl), lu_hd (b' := 1) (by kernel_rfl) (by kernel_rfl), lu (by kernel_rfl) (by kernel_rfl), lu_hd (b' := 2) (by kernel_rfl) (by kernel_rfl), lu (by kernel_rfl) (by kernel_rfl), lu (by kernel_rfl) (by kernel_rfl), lu (by kernel_rfl) (by kernel_rfl), lu (by kernel_rfl) (by kernel_rfl), lu (by kernel_rfl) (by kernel_rfl), trivial⟩)
    refine Sem.seq ?_
    refine Sem.cond (b := (decide (c12 < x1))) (by kernel_rfl) (fun hb13 => ?_) (fun hb13 => ?_)
    · rw [if_pos hb13] at h
      refine Sem.skip ?_
      refine Sem.seq ?_
      refine Sem.block ?_
      refine Sem.seq ?_
      refine Sem.runS (s1 := ⟨Fr 74 [(0, .v (.int .i64 x0)), (1, .v (.int .i64 x1)), (6, .pt 0 0 0), (8, hd 1 (c8.map (cdL 1 (cdL 1 cdI)).enc)), (9, .v (.int .i64 c9)), (10, hd 2 (c11.map (cdL 1 cdI).enc)), (11, .v (.int .i64 c12)), (36, .v (.int .i64 x1)), (37, .v (.int .i64 c9)), (40, .v (.int .i64 x1)), (41, .v (.int .i64 c12))], [some ⟨3, 72, [.ag [.v (.int .i64 j6.1), .v (.int .i64 j6.2.1), .sl 1 (j6.2.2.1.map cdI.enc)]], false⟩, mk 1 49 (c8.map (cdL 1 (cdL 1 cdI)).enc), mk 1 24 (c11.map (cdL 1 cdI).enc)]⟩) ?_ ?_
      · refine RunS.segF (n := 74) e_evening_Net_ok 2 [(0, .v (.int .i64 x0)), (1, .v (.int .i64 x1)), (6, .pt 0 0 0), (8, hd 1 (c8.map (cdL 1 (cdL 1 cdI)).enc)), (9, .v (.int .i64 c9)), (10, hd 2 (c11.map (cdL 1 cdI).enc)), (11, .v (.int .i64 c12)), (36, .v (.int .i64 x1)), (37, .v (.int .i64 c9)), (40, .v (.int .i64 x1)), (41, .v (.int .i64 c12))] [some ⟨3, 72, [.ag [.v (.int .i64 j6.1), .v (.int .i64 j6.2.1), .sl 1 (j6.2.2.1.map cdI.enc)]], false⟩, mk 1 49 (c8.map (cdL 1 (cdL 1 cdI)).enc), mk 1 24 (c11.map (cdL 1 cdI).enc)] (by kernel_rfl) ?_
        exact RunS.done rfl (Wk.sel2 [0, 1, 2] (by kernel_rfl) (by kernel_rfl) (by kernel_rfl) ⟨⟨_, rfl, bu_c (by kernel_rfl) (by kernel_rfl)⟩, ⟨_, rfl, bu_mk⟩, ⟨_, rfl, bu_mk⟩, trivial⟩ ⟨lu (by kernel_rfl) (by kernel_rfl), lu (by kernel_rfl) (by kernel_rfl), lu (by kernel_rfl) (by kernel_rfl), lu_hd (b' := 1) (by kernel_rfl) (by kernel_rfl), lu (by kernel_rfl) (by kernel_rfl), lu_hd (b' := 2) (by kernel_rfl) (by kernel_rfl), lu (by kernel_rfl) (by kernel_rfl), lu (by kernel_rfl) (by kernel_rfl), lu (by kernel_rfl) (by kernel_rfl), lu (by kernel_rfl) (by kernel_rfl), lu (by kernel_rfl) (by kernel_rfl), trivial⟩)
      refine Sem.seq ?_
      refine Sem.runS (s1 := ⟨Fr 74 [(0, .v (.int .i64 x0)), (1, .v (.int .i64 x1)), (6, .pt 0 0 0), (8, hd 1 (c8.map (cdL 1 (cdL 1 cdI)).enc)), (9, .v (.int .i64 c9)), (10, hd 2 (c11.map (cdL 1 cdI).enc)), (11, .v (.int .i64 c12)), (12, .e0), (36, .v (.int .i64 x1)), (37, .v (.int .i64 c9)), (40, .v (.int .i64 x1)), (41, .v (.int .i64 c12))], [some ⟨3, 72, [.ag [.v (.int .i64 j6.1), .v (.int .i64 j6.2.1), .sl 1 (j6.2.2.1.map cdI.enc)]], false⟩, mk 1 49 (c8.map (cdL 1 (cdL 1 cdI)).enc), mk 1 24 (c11.map (cdL 1 cdI).enc)]⟩) ?_ ?_
      · refine RunS.segF (n := 74) e_evening_Net_ok 1 [(0, .v (.int .i64 x0)), (1, .v (.int .i64 x1)), (6, .pt 0 0 0), (8, hd 1 (c8.map (cdL 1 (cdL 1 cdI)).enc)), (9, .v (.int .i64 c9)), (10, hd 2 (c11.map (cdL 1 cdI).enc)), (11, .v (.int .i64 c12)), (12, .e0), (36, .v (.int .i64 x1)), (37, .v (.int .i64 c9)), (40, .v (.int .i64 x1)), (41, .v (.int .i64 c12))] [some ⟨3, 72, [.ag [.v (.int .i64 j6.1), .v (.int .i64 j6.2.1), .sl 1 (j6.2.2.1.map cdI.enc)]], false⟩, mk 1 49 (c8.map (cdL 1 (cdL 1 cdI)).enc), mk 1 24 (c11.map (cdL 1 cdI).enc)] (by kernel_rfl) ?_
        exact RunS.done rfl (Wk.sel2 [0, 1, 2] (by kernel_rfl) (by kernel_rfl) (by kernel_rfl) ⟨⟨_, rfl, bu_c (by kernel_rfl) (by kernel_rfl)⟩, ⟨_, rfl, bu_mk⟩, ⟨_, rfl, bu_mk⟩, trivial⟩ ⟨lu (by kernel_rfl) (by kernel_rfl), lu (by kernel_rfl) (by kernel_rfl), lu (by kernel_rfl) (by kernel_rfl), lu_hd (b' := 1) (by kernel_rfl) (by kernel_rfl), lu (by kernel_rfl) (by kernel_rfl), lu_hd (b' := 2) (by kernel_rfl) (by kernel_rfl), lu (by kernel_rfl) (by kernel_rfl), lu (by kernel_rfl) (by kernel_rfl), lu (by kernel_rfl) (by kernel_rfl), lu (by kernel_rfl) (by kernel_rfl), lu (by kernel_rfl) (by kernel_rfl), lu (by kernel_rfl) (by kernel_rfl), trivial⟩)
      refine Sem.seq ?_
      refine Sem.seq ?_
      refine Sem.runS (s1 := ⟨Fr 74 [(0, .v (.int .i64 x0)), (1, .v (.int .i64 x1)), (6, .pt 0 0 0), (8, hd 1 (c8.map (cdL 1 (cdL 1 cdI)).enc)), (9, .v (.int .i64 c9)), (10, hd 2 (c11.map (cdL 1 cdI).enc)), (11, .v (.int .i64 c12)), (12, .e0), (36, .v (.int .i64 x1)), (37, .v (.int .i64 c9)), (40, .v (.int .i64 x1)), (41, .v (.int .i64 c12)), (44, .v (.int .i64 x0)), (45, .v (.int .i64 0))], [some ⟨3, 72, [.ag [.v (.int .i64 j6.1), .v (.int .i64 j6.2.1), .sl 1 (j6.2.2.1.map cdI.enc)]], false⟩, mk 1 49 (c8.map (cdL 1 (cdL 1 cdI)).enc), mk 1 24 (c11.map (cdL 1 cdI).enc)]⟩) ?_ ?_
      · refine RunS.segF (n := 74) e_evening_Net_ok 2 [(0, .v (.int .i64 x0)), (1, .v (.int .i64 x1)), (6, .pt 0 0 0), (8, hd 1 (c8.map (cdL 1 (cdL 1 cdI)).enc)), (9, .v (.int .i64 c9)), (10, hd 2 (c11.map (cdL 1 cdI).enc)), (11, .v (.int .i64 c12)), (12, .e0), (36, .v (.int .i64 x1)), (37, .v (.int .i64 c9)), (40, .v (.int .i64 x1)), (41, .v (.int .i64 c12)), (44, .v (.int .i64 x0)), (45, .v (.int .i64 0))] [some ⟨3, 72, [.ag [.v (.int .i64 j6.1), .v (.int .i64 j6.2.1), .sl 1 (j6.2.2.1.map cdI.enc)]], false⟩, mk 1 49 (c8.map (cdL 1 (cdL 1 cdI)).enc), mk 1 24 (c11.map (cdL 1 cdI).enc)] (by kernel_rfl) ?_
        exact RunS.done rfl (Wk.sel2 [0, 1, 2] (by kernel_rfl) (by kernel_rfl) (by kernel_rfl) ⟨⟨_, rfl, bu_c (by kernel_rfl) (by kernel_rfl)⟩, ⟨_, rfl, bu_mk⟩, ⟨_, rfl, bu_mk⟩, trivial⟩ ⟨lu (by kernel_rfl) (by kernel_rfl), lu (by kernel_rfl) (by kernel_rfl), lu (by kernel_rfl) (by kernel_rfl), lu_hd (b' := 1) (by kernel_rfl) (by kernel_rfl), lu (by kernel_rfl) (by kernel_rfl), lu_hd (b' := 2) (by kernel_rfl) (by kernel_rfl), lu (by kernel_rfl) (by kernel_rfl), lu (by kernel_rfl) (by kernel_rfl), lu (by kernel_rfl) (by kernel_rfl), lu (by kernel_rfl) (by kernel_rfl), lu (by kernel_rfl) (by kernel_rfl), lu (by kernel_rfl) (by kernel_rfl), lu (by kernel_rfl) (by kernel_rfl), lu (by kernel_rfl) (by kernel_rfl), trivial⟩)
      refine Sem.block ?_
      obtain ⟨r21, hr21, h⟩ := Option.bind_eq_some_iff.1 h
      refine Sem.loop (n := 100000) ?_
      refine Sem.cutN (SemN.wk (s1 := ⟨Fr 74 [(0, .v (.int .i64 x0)), (1, .v (.int .i64 x1)), (6, .pt 0 0 0), (8, hd 1 (c8.map (cdL 1 (cdL 1 cdI)).enc)), (9, .v (.int .i64 c9)), (10, hd 2 (c11.map (cdL 1 cdI).enc)), (11, .v (.int .i64 c12)), (12, hd 3 ([].map cdI.enc)), (36, .v (.int .i64 x1)), (37, .v (.int .i64 c9)), (40, .v (.int .i64 x1)), (41, .v (.int .i64 c12)), (44, .v (.int .i64 x0)), (45, .v (.int .i64 0))], [some ⟨3, 72, [.ag [.v (.int .i64 j6.1), .v (.int .i64 j6.2.1), .sl 1 (j6.2.2.1.map cdI.enc)]], false⟩, mk 1 49 (c8.map (cdL 1 (cdL 1 cdI)).enc), mk 1 24 (c11.map (cdL 1 cdI).enc), mk 1 3 ([].map cdI.enc)]⟩) (Wk.trans (s1 := ⟨Fr 74 [(0, .v (.int .i64 x0)), (1, .v (.int .i64 x1)), (6, .pt 0 0 0), (8, hd 1 (c8.map (cdL 1 (cdL 1 cdI)).enc)), (9, .v (.int .i64 c9)), (10, hd 2 (c11.map (cdL 1 cdI).enc)), (11, .v (.int .i64 c12)), (12, hd 3 ([].map cdI.enc)), (36, .v (.int .i64 x1)), (37, .v (.int .i64 c9)), (40, .v (.int .i64 x1)), (41, .v (.int .i64 c12)), (44, .v (.int .i64 x0)), (45, .v (.int .i64 0))], [some ⟨3, 72, [.ag [.v (.int .i64 j6.1), .v (.int .i64 j6.2.1), .sl 1 (j6.2.2.1.map cdI.enc)]], false⟩, mk 1 49 (c8.map (cdL 1 (cdL 1 cdI)).enc), mk 1 24 (c11.map (cdL 1 cdI).enc), mk 1 3 ([].map cdI.enc)]⟩) Wk.none (Wk.sel2 [0, 1, 2, 3] (by kernel_rfl) (by kernel_rfl) (by kernel_rfl) ⟨⟨_, rfl, bu_c (by kernel_rfl) (by kernel_rfl)⟩, ⟨_, rfl, bu_mk⟩, ⟨_, rfl, bu_mk⟩, ⟨_, rfl, bu_none⟩, trivial⟩ ⟨lu (by kernel_rfl) (by kernel_rfl), lu (by kernel_rfl) (by kernel_rfl), lu (by kernel_rfl) (by kernel_rfl), lu_hd (b' := 1) (by kernel_rfl) (by kernel_rfl), lu (by kernel_rfl) (by kernel_rfl), lu_hd (b' := 2) (by kernel_rfl) (by kernel_rfl), lu (by kernel_rfl) (by kernel_rfl), lu (by kernel_rfl) (by kernel_rfl), lu (by kernel_rfl) (by kernel_rfl), lu (by kernel_rfl) (by kernel_rfl), lu (by kernel_rfl) (by kernel_rfl), lu (by kernel_rfl) (by kernel_rfl), lu (by kernel_rfl) (by kernel_rfl), lu (by kernel_rfl) (by kernel_rfl), trivial⟩)) (evening_Net_3_ok x0 x1 j6 c8 c9 c11 c12 _ [] 0 _ hr21)) ?_
      by_cases hk22 : (capOk 24 (c11.length + 1)) = true
      case neg => rw [if_neg hk22] at h; cases h
      rw [if_pos hk22] at h
      refine Sem.runS (s1 := ⟨Fr 74 [(0, .v (.int .i64 x0)), (1, .v (.int .i64 x1)), (6, .pt 0 0 0), (8, hd 1 (c8.map (cdL 1 (cdL 1 cdI)).enc)), (9, .v (.int .i64 c9)), (10, hd 2 ((c11 ++ [r21]).map (cdL 1 cdI).enc)), (36, .v (.int .i64 x1)), (37, .v (.int .i64 c9)), (40, .v (.int .i64 x1)), (41, .v (.int .i64 c12))], [some ⟨3, 72, [.ag [.v (.int .i64 j6.1), .v (.int .i64 j6.2.1), .sl 1 (j6.2.2.1.map cdI.enc)]], false⟩, mk 1 49 (c8.map (cdL 1 (cdL 1 cdI)).enc), mk 1 24 ((c11 ++ [r21]).map (cdL 1 cdI).enc)]⟩) ?_ ?_
      · refine RunS.segF (n := 74) e_evening_Net_ok 2 [(0, .v (.int .i64 x0)), (1, .v (.int .i64 x1)), (6, .pt 0 0 0), (8, hd 1 (c8.map (cdL 1 (cdL 1 cdI)).enc)), (9, .v (.int .i64 c9)), (36, .v (.int .i64 x1)), (37, .v (.int .i64 c9)), (40, .v (.int .i64 x1)), (41, .v (.int .i64 c12)), (63, hd 2 (c11.map (cdL 1 cdI).enc)), (64, hd 3 (r21.map cdI.enc))] [some ⟨3, 72, [.ag [.v (.int .i64 j6.1), .v (.int .i64 j6.2.1), .sl 1 (j6.2.2.1.map cdI.enc)]], false⟩, mk 1 49 (c8.map (cdL 1 (cdL 1 cdI)).enc), mk 1 24 (c11.map (cdL 1 cdI).enc), mk 1 3 (r21.map cdI.enc)] (by kernel_rfl) ?_
        refine RunS.wk (s1 := ⟨Fr 74 [(0, .v (.int .i64 x0)), (1, .v (.int .i64 x1)), (6, .pt 0 0 0), (8, hd 1 (c8.map (cdL 1 (cdL 1 cdI)).enc)), (9, .v (.int .i64 c9)), (36, .v (.int .i64 x1)), (37, .v (.int .i64 c9)), (40, .v (.int .i64 x1)), (41, .v (.int .i64 c12)), (63, hd 2 (c11.map (cdL 1 cdI).enc)), (64, .sl 1 (r21.map cdI.enc))], [some ⟨3, 72, [.ag [.v (.int .i64 j6.1), .v (.int .i64 j6.2.1), .sl 1 (j6.2.2.1.map cdI.enc)]], false⟩, mk 1 49 (c8.map (cdL 1 (cdL 1 cdI)).enc), mk 1 24 (c11.map (cdL 1 cdI).enc), none]⟩) (Wk.frzG 3 (.inl (by kernel_rfl)) ⟨.inr (.inr ⟨_, _, _, _, rfl, rfl, ⟨.inl rfl, trivial⟩⟩), .inr (.inl rfl), .inr (.inl rfl), .inl rfl, trivial⟩ ⟨⟨.v (.int .i64 x0), (by kernel_rfl), .inl rfl⟩, ⟨.v (.int .i64 x1), (by kernel_rfl), .inl rfl⟩, ⟨.pt 0 0 0, (by kernel_rfl), .inl rfl⟩, ⟨hd 1 (c8.map (cdL 1 (cdL 1 cdI)).enc), (by kernel_rfl), .inl rfl⟩, ⟨.v (.int .i64 c9), (by kernel_rfl), .inl rfl⟩, ⟨.v (.int .i64 x1), (by kernel_rfl), .inl rfl⟩, ⟨.v (.int .i64 c9), (by kernel_rfl), .inl rfl⟩, ⟨.v (.int .i64 x1), (by kernel_rfl), .inl rfl⟩, ⟨.v (.int .i64 c12), (by kernel_rfl), .inl rfl⟩, ⟨hd 2 (c11.map (cdL 1 cdI).enc), (by kernel_rfl), .inl rfl⟩, ⟨hd 3 (r21.map cdI.enc), (by kernel_rfl), fz_hd (t := 3) (by kernel_rfl) enc_ok⟩, trivial⟩) ?_
        refine RunS.segF (n := 74) e_evening_Net_ok 1 [(0, .v (.int .i64 x0)), (1, .v (.int .i64 x1)), (6, .pt 0 0 0), (8, hd 1 (c8.map (cdL 1 (cdL 1 cdI)).enc)), (9, .v (.int .i64 c9)), (36, .v (.int .i64 x1)), (37, .v (.int .i64 c9)), (40, .v (.int .i64 x1)), (41, .v (.int .i64 c12)), (63, hd 2 (c11.map (cdL 1 cdI).enc)), (65, hd 4 ([r21].map (cdL 1 cdI).enc))] [some ⟨3, 72, [.ag [.v (.int .i64 j6.1), .v (.int .i64 j6.2.1), .sl 1 (j6.2.2.1.map cdI.enc)]], false⟩, mk 1 49 (c8.map (cdL 1 (cdL 1 cdI)).enc), mk 1 24 (c11.map (cdL 1 cdI).enc), none, mk 1 24 ([r21].map (cdL 1 cdI).enc)] (by kernel_rfl) ?_
        refine RunS.one e_evening_Net_ok 0 rfl (op_w (wantedA_none rfl) rfl (by kernel_rfl) (by kernel_rfl) (w_append (a := hd 2 (c11.map (cdL 1 cdI).enc)) (b := hd 4 ([r21].map (cdL 1 cdI).enc)) (by kernel_rfl) (by kernel_rfl) (append_B (c := (cdL 1 cdI)) (xs := c11) (vs := [r21]) (k := 1) (bytes := 24) (el := 24) (by kernel_rfl) (by kernel_rfl) (elems_hd (t := 24) (by kernel_rfl)) (List.cons_ne_nil _ _) (by kernel_rfl) hk22))) ?_
        refine RunS.segF (n := 74) e_evening_Net_ok 1 [(0, .v (.int .i64 x0)), (1, .v (.int .i64 x1)), (6, .pt 0 0 0), (8, hd 1 (c8.map (cdL 1 (cdL 1 cdI)).enc)), (9, .v (.int .i64 c9)), (10, hd 5 ((c11 ++ [r21]).map (cdL 1 cdI).enc)), (36, .v (.int .i64 x1)), (37, .v (.int .i64 c9)), (40, .v (.int .i64 x1)), (41, .v (.int .i64 c12))] [some ⟨3, 72, [.ag [.v (.int .i64 j6.1), .v (.int .i64 j6.2.1), .sl 1 (j6.2.2.1.map cdI.enc)]], false⟩, mk 1 49 (c8.map (cdL 1 (cdL 1 cdI)).enc), none, none, mk 1 24 ([r21].map (cdL 1 cdI).enc), mk 1 24 ((c11 ++ [r21]).map (cdL 1 cdI).enc)] (by kernel_rfl) ?_
        exact RunS.done rfl (Wk.sel2 [0, 1, 5] (by kernel_rfl) (by kernel_rfl) (by kernel_rfl) ⟨⟨_, rfl, bu_c (by kernel_rfl) (by kernel_rfl)⟩, ⟨_, rfl, bu_mk⟩, ⟨_, rfl, bu_mk⟩, trivial⟩ ⟨lu (by kernel_rfl) (by kernel_rfl), lu (by kernel_rfl) (by kernel_rfl), lu (by kernel_rfl) (by kernel_rfl), lu_hd (b' := 1) (by kernel_rfl) (by kernel_rfl), lu (by kernel_rfl) (by kernel_rfl), lu_hd (b' := 5) (by kernel_rfl) (by kernel_rfl), lu (by kernel_rfl) (by kernel_rfl), lu (by kernel_rfl) (by kernel_rfl), lu (by kernel_rfl) (by kernel_rfl), lu (by kernel_rfl) (by kernel_rfl), trivial⟩)
      refine Sem.runS (s1 := ⟨Fr 74 [(0, .v (.int .i64 x0)), (1, .v (.int .i64 x1)), (6, .pt 0 0 0), (8, hd 1 (c8.map (cdL 1 (cdL 1 cdI)).enc)), (9, .v (.int .i64 c9)), (10, hd 2 ((c11 ++ [r21]).map (cdL 1 cdI).enc)), (36, .v (.int .i64 x1)), (37, .v (.int .i64 c9)), (40, .v (.int .i64 x1)), (41, .v (.int .i64 (wr .i64 (c12 + 1))))], [some ⟨3, 72, [.ag [.v (.int .i64 j6.1), .v (.int .i64 j6.2.1), .sl 1 (j6.2.2.1.map cdI.enc)]], false⟩, mk 1 49 (c8.map (cdL 1 (cdL 1 cdI)).enc), mk 1 24 ((c11 ++ [r21]).map (cdL 1 cdI).enc)]⟩) ?_ ?_
      · refine RunS.segF (n := 74) e_evening_Net_ok 2 [(0, .v (.int .i64 x0)), (1, .v (.int .i64 x1)), (6, .pt 0 0 0), (8, hd 1 (c8.map (cdL 1 (cdL 1 cdI)).enc)), (9, .v (.int .i64 c9)), (10, hd 2 ((c11 ++ [r21]).map (cdL 1 cdI).enc)), (36, .v (.int .i64 x1)), (37, .v (.int .i64 c9)), (40, .v (.int .i64 x1)), (41, .v (.int .i64 (wr .i64 (c12 + 1))))] [some ⟨3, 72, [.ag [.v (.int .i64 j6.1), .v (.int .i64 j6.2.1), .sl 1 (j6.2.2.1.map cdI.enc)]], false⟩, mk 1 49 (c8.map (cdL 1 (cdL 1 cdI)).enc), mk 1 24 ((c11 ++ [r21]).map (cdL 1 cdI).enc)] (by kernel_rfl) ?_
        exact RunS.done rfl (Wk.sel2 [0, 1, 2] (by kernel_rfl) (by kernel_rfl) (by kernel_rfl) ⟨⟨_, rfl, bu_c (by kernel_rfl) (by kernel_rfl)⟩, ⟨_, rfl, bu_mk⟩, ⟨_, rfl, bu_mk⟩, trivial⟩ ⟨lu (by kernel_rfl) (by kernel_rfl), lu (by kernel_rfl) (by kernel_rfl), lu (by kernel_rfl) (by kernel_rfl), lu_hd (b' := 1) (by kernel_rfl) (by kernel_rfl), lu (by kernel_rfl) (by kernel_rfl), lu_hd (b' := 2) (by kernel_rfl) (by kernel_rfl), lu (by kernel_rfl) (by kernel_rfl), lu (by kernel_rfl) (by kernel_rfl), lu (by kernel_rfl) (by kernel_rfl), lu (by kernel_rfl) (by kernel_rfl), trivial⟩)
      exact SemN.wk (s1 := ⟨Fr 74 [(0, .v (.int .i64 x0)), (1, .v (.int .i64 x1)), (6, .pt 0 0 0), (8, hd 1 (c8.map (cdL 1 (cdL 1 cdI)).enc)), (9, .v (.int .i64 c9)), (10, hd 2 ((c11 ++ [r21]).map (cdL 1 cdI).enc)), (36, .v (.int .i64 x1)), (37, .v (.int .i64 c9)), (40, .v (.int .i64 x1)), (41, .v (.int .i64 (wr .i64 (c12 + 1))))], [some ⟨3, 72, [.ag [.v (.int .i64 j6.1), .v (.int .i64 j6.2.1), .sl 1 (j6.2.2.1.map cdI.enc)]], false⟩, mk 1 49 (c8.map (cdL 1 (cdL 1 cdI)).enc), mk 1 24 ((c11 ++ [r21]).map (cdL 1 cdI).enc)]⟩) (Wk.sel2 [0, 1, 2] (by kernel_rfl) (by kernel_rfl) (by kernel_rfl) ⟨⟨_, rfl, bu_c (by kernel_rfl) (by kernel_rfl)⟩, ⟨_, rfl, bu_mk⟩, ⟨_, rfl, bu_mk⟩, trivial⟩ ⟨lu (by kernel_rfl) (by kernel_rfl), lu (by kernel_rfl) (by kernel_rfl), lu (by kernel_rfl) (by kernel_rfl), lu_hd (b' := 1) (by kernel_rfl) (by kernel_rfl), lu (by kernel_rfl) (by kernel_rfl), lu_hd (b' := 2) (by kernel_rfl) (by kernel_rfl), lu (by kernel_rfl) (by kernel_rfl), lu (by kernel_rfl) (by kernel_rfl), lu (by kernel_rfl) (by kernel_rfl), lu (by kernel_rfl) (by kernel_rfl), trivial⟩) (ih (c11 ++ [r21]) (wr .i64 (c12 + 1)) h)
    · rw [if_f hb13] at h
      refine Sem.exit ?_
      have hq := Option.some.inj h; subst hq
      exact ⟨rfl, (Wk.sel2 [0, 1, 2] (by kernel_rfl) (by kernel_rfl) (by kernel_rfl) ⟨⟨_, rfl, bu_c (by kernel_rfl) (by kernel_rfl)⟩, ⟨_, rfl, bu_mk⟩, ⟨_, rfl, bu_mk⟩, trivial⟩ ⟨lu (by kernel_rfl) (by kernel_rfl), lu (by kernel_rfl) (by kernel_rfl), lu (by kernel_rfl) (by kernel_rfl), lu_hd (b' := 1) (by kernel_rfl) (by kernel_rfl), lu_hd (b' := 2) (by kernel_rfl) (by kernel_rfl), lu (by kernel_rfl) (by kernel_rfl), lu (by kernel_rfl) (by kernel_rfl), trivial⟩)⟩
set_option maxHeartbeats 4000000 in
set_option maxRecDepth 100000 in
theorem evening_Net_1_ok (x0 : Int) (x1 : Int) (j6 : Int × Int × (List Int) × Bool) : ∀ (f : Nat) (c8 : (List (List (List Int)))) (c9 : Int) (r : ((List (List (List Int))))), evening_Net_1 x0 x1 j6 f c8 c9 = some r → SemN e_evening_Net ⟨none, false⟩ (pc cb_evening_Net [1, 1, 1, 1, 0, 1, 0, 0]) f ⟨Fr 74 [(0, .v (.int .i64 x0)), (1, .v (.int .i64 x1)), (6, .pt 0 0 0), (8, hd 1 (c8.map (cdL 1 (cdL 1 cdI)).enc)), (36, .v (.int .i64 x1)), (37, .v (.int .i64 c9))], [some ⟨3, 72, [.ag [.v (.int .i64 j6.1), .v (.int .i64 j6.2.1), .sl 1 (j6.2.2.1.map cdI.enc)]], false⟩, mk 1 49 (c8.map (cdL 1 (cdL 1 cdI)).enc)]⟩ (fun e s => e = (.exit 0) ∧ Wk e_evening_Net s ⟨Fr 74 [(8, hd 0 (r.map (cdL 1 (cdL 1 cdI)).enc))], [mk 1 49 (r.map (cdL 1 (cdL 1 cdI)).enc)]⟩) := by
  intro f
  induction f with
  | zero => intro c8 c9 r h; cases h
  | succ f ih0 =>
    intro c8 c9 r h
    have ih := fun (c8 : (List (List (List Int)))) (c9 : Int) => ih0 c8 c9 r
    unfold evening_Net_1 at h
    refine SemN.succ ?_
    refine Sem.seq ?_
    refine Sem.runS (s1 := ⟨Fr 74 [(0, .v (.int .i64 x0)), (1, .v (.int .i64 x1)), (6, .pt 0 0 0), (8, hd 1 (c8.map (cdL 1 (cdL 1 cdI)).enc)), (36, .v (.int .i64 x1)), (37, .v (.int .i64 c9)), (38, .v (.bool (decide (c9 < x1))))], [some ⟨3, 72, [.ag [.v (.int .i64 j6.1), .v (.int .i64 j6.2.1), .sl 1 (j6.2.2.1.map cdI.enc)]], false⟩, mk 1 49 (c8.map (cdL 1 (cdL 1 cdI)).enc)]⟩) ?_ ?_
    · refine RunS.segF (n := 74) e_evening_Net_ok 1 [(0, .v (.int .i64 x0)), (1, .v (.int .i64 x1)), (6, .pt 0 0 0), (8, hd 1 (c8.map (cdL 1 (cdL 1 cdI)).enc)), (36, .v (.int .i64 x1)), (37, .v (.int .i64 c9)), (38, .v (.bool (decide (c9 < x1))))] [some ⟨3, 72, [.ag [.v (.int .i64 j6.1), .v (.int .i64 j6.2.1), .sl 1 (j6.2.2.1.map cdI.enc)]], false⟩, mk 1 49 (c8.map (cdL 1 (cdL 1 cdI)).enc)] (by kernel_rfl) ?_
      exact RunS.done rfl (Wk.sel2 [0, 1] (by kernel_rfl) (by kernel_rfl) (by kernel_rfl) ⟨⟨_, rfl, bu_c (by kernel_rfl) (by kernel_rfl)⟩, ⟨_, rfl, bu_mk⟩, trivial⟩ ⟨lu (by kernel_rfl) (by kernel_rfl), lu (by kernel_rfl) (by kernel_rfl), lu (by kernel_rfl) (by kernel_rfl), lu_hd (b' := 1) (by kernel_rfl) (by kernel_rfl), lu (by kernel_rfl) (by kernel_rfl), lu (by kernel_rfl) (by kernel_rfl), lu (by kernel_rfl) (by kernel_rfl), trivial⟩)
    refine Sem.seq ?_
    refine Sem.cond (b := (decide (c9 < x1))) (by kernel_rfl) (fun hb10 => ?_) (fun hb10 => ?_)
    · rw [if_pos hb10] at h
      refine Sem.skip ?_
      refine Sem.seq ?_
      refine Sem.block ?_
      refine Sem.seq ?_
      refine Sem.runS (s1 := ⟨Fr 74 [(0, .v (.int .i64 x0)), (1, .v (.int .i64 x1)), (6, .pt 0 0 0), (8, hd 1 (c8.map (cdL 1 (cdL 1 cdI)).enc)), (9, .v (.int .i64 c9)), (36, .v (.int .i64 x1)), (37, .v (.int .i64 c9))], [some ⟨3, 72, [.ag [.v (.int .i64 j6.1), .v (.int .i64 j6.2.1), .sl 1 (j6.2.2.1.map cdI.enc)]], false⟩, mk 1 49 (c8.map (cdL 1 (cdL 1 cdI)).enc)]⟩) ?_ ?_
      · refine RunS.segF (n := 74) e_evening_Net_ok 2 [(0, .v (.int .i64 x0)), (1, .v (.int .i64 x1)), (6, .pt 0 0 0), (8, hd 1 (c8.map (cdL 1 (cdL 1 cdI)).enc)), (9, .v (.int .i64 c9)), (36, .v (.int .i64 x1)), (37, .v (.int .i64 c9))] [some ⟨3, 72, [.ag [.v (.int .i64 j6.1), .v (.int .i64 j6.2.1), .sl 1 (j6.2.2.1.map cdI.enc)]], false⟩, mk 1 49 (c8.map (cdL 1 (cdL 1 cdI)).enc)] (by kernel_rfl) ?_
        exact RunS.done rfl (Wk.sel2 [0, 1] (by kernel_rfl) (by kernel_rfl) (by kernel_rfl) ⟨⟨_, rfl, bu_c (by kernel_rfl) (by kernel_rfl)⟩, ⟨_, rfl, bu_mk⟩, trivial⟩ ⟨lu (by kernel_rfl) (by kernel_rfl), lu (by kernel_rfl) (by kernel_rfl), lu (by kernel_rfl) (by kernel_rfl), lu_hd (b' := 1) (by kernel_rfl) (by kernel_rfl), lu (by kernel_rfl) (by kernel_rfl), lu (by kernel_rfl) (by kernel_rfl), lu (by kernel_rfl) (by kernel_rfl), trivial⟩)
      refine Sem.seq ?_
      refine Sem.runS (s1 := ⟨Fr 74 [(0, .v (.int .i64 x0)), (1, .v (.int .i64 x1)), (6, .pt 0 0 0), (8, hd 1 (c8.map (cdL 1 (cdL 1 cdI)).enc)), (9, .v (.int .i64 c9)), (10, .e0), (36, .v (.int .i64 x1)), (37, .v (.int .i64 c9))], [some ⟨3, 72, [.ag [.v (.int .i64 j6.1), .v (.int .i64 j6.2.1), .sl 1 (j6.2.2.1.map cdI.enc)]], false⟩, mk 1 49 (c8.map (cdL 1 (cdL 1 cdI)).enc)]⟩) ?_ ?_
      · refine RunS.segF (n := 74) e_evening_Net_ok 1 [(0, .v (.int .i64 x0)), (1, .v (.int .i64 x1)), (6, .pt 0 0 0), (8, hd 1 (c8.map (cdL 1 (cdL 1 cdI)).enc)), (9, .v (.int .i64 c9)), (10, .e0), (36, .v (.int .i64 x1)), (37, .v (.int .i64 c9))] [some ⟨3, 72, [.ag [.v (.int .i64 j6.1), .v (.int .i64 j6.2.1), .sl 1 (j6.2.2.1.map cdI.enc)]], false⟩, mk 1 49 (c8.map (cdL 1 (cdL 1 cdI)).enc)] (by kernel_rfl) ?_
        exact RunS.done rfl (Wk.sel2 [0, 1] (by kernel_rfl) (by kernel_rfl) (by kernel_rfl) ⟨⟨_, rfl, bu_c (by kernel_rfl) (by kernel_rfl)⟩, ⟨_, rfl, bu_mk⟩, trivial⟩ ⟨lu (by kernel_rfl) (by kernel_rfl), lu (by kernel_rfl) (by kernel_rfl), lu (by kernel_rfl) (by kernel_rfl), lu_hd (b' := 1) (by kernel_rfl) (by kernel_rfl), lu (by kernel_rfl) (by kernel_rfl), lu (by kernel_rfl) (by kernel_rfl), lu (by kernel_rfl) (by kernel_rfl), lu (by kernel_rfl) (by kernel_rfl), trivial⟩)
      refine Sem.seq ?_
      refine Sem.seq ?_
      refine Sem.runS (s1 := ⟨Fr 74 [(0, .v (.int .i64 x0)), (1, .v (.int .i64 x1)), (6, .pt 0 0 0), (8, hd 1 (c8.map (cdL 1 (cdL 1 cdI)).enc)), (9, .v (.int .i64 c9)), (10, .e0), (36, .v (.int .i64 x1)), (37, .v (.int .i64 c9)), (40, .v (.int .i64 x1)), (41, .v (.int .i64 0))], [some ⟨3, 72, [.ag [.v (.int .i64 j6.1), .v (.int .i64 j6.2.1), .sl 1 (j6.2.2.1.map cdI.enc)]], false⟩, mk 1 49 (c8.map (cdL 1 (cdL 1 cdI)).enc)]⟩) ?_ ?_
      · refine RunS.segF (n := 74) e_evening_Net_ok 2 [(0, .v (.int .i64 x0)), (1, .v (.int .i64 x1)), (6, .pt 0 0 0), (8, hd 1 (c8.map (cdL 1 (cdL 1 cdI)).enc)), (9, .v (.int .i64 c9)), (10, .e0), (36, .v (.int .i64 x1)), (37, .v (.int .i64 c9)), (40, .v (.int .i64 x1)), (41, .v (.int .i64 0))] [some ⟨3, 72, [.ag [.v (.int .i64 j6.1), .v (.int .i64 j6.2.1), .sl 1 (j6.2.2.1.map cdI.enc)]], false⟩, mk 1 49 (c8.map (cdL 1 (cdL 1 cdI)).enc)] (by kernel_rfl) ?_
        exact RunS.done rfl (Wk.sel2 [0, 1] (by kernel_rfl) (by kernel_rfl) (by kernel_rfl) ⟨⟨_, rfl, bu_c (by kernel_rfl) (by kernel_rfl)⟩, ⟨_, rfl, bu_mk⟩, trivial⟩ ⟨lu (by kernel_rfl) (by kernel_rfl), lu (by kernel_rfl) (by kernel_rfl), lu (by kernel_rfl) (by kernel_rfl), lu_hd (b' := 1) (by kernel_rfl) (by kernel_rfl), lu (by kernel_rfl) (by kernel_rfl), lu (by kernel_rfl) (by kernel_rfl), lu (by kernel_rfl) (by kernel_rfl), lu (by kernel_rfl) (by kernel_rfl), lu (by kernel_rfl) (by kernel_rfl), lu (by kernel_rfl) (by kernel_rfl), trivial⟩)
      refine Sem.block ?_
      obtain ⟨r24, hr24, h⟩ := Option.bind_eq_some_iff.1 h
      refine Sem.loop (n := 100000) ?_
      refine Sem.cutN (SemN.wk (s1 := ⟨Fr 74 [(0, .v (.int .i64 x0)), (1, .v (.int .i64 x1)), (6, .pt 0 0 0), (8, hd 1 (c8.map (cdL 1 (cdL 1 cdI)).enc)), (9, .v (.int .i64 c9)), (10, hd 2 ([].map (cdL 1 cdI).enc)), (36, .v (.int .i64 x1)), (37, .v (.int .i64 c9)), (40, .v (.int .i64 x1)), (41, .v (.int .i64 0))], [some ⟨3, 72, [.ag [.v (.int .i64 j6.1), .v (.int .i64 j6.2.1), .sl 1 (j6.2.2.1.map cdI.enc)]], false⟩, mk 1 49 (c8.map (cdL 1 (cdL 1 cdI)).enc), mk 1 24 ([].map (cdL 1 cdI).enc)]⟩) (Wk.trans (s1 := ⟨Fr 74 [(0, .v (.int .i64 x0)), (1, .v (.int .i64 x1)), (6, .pt 0 0 0), (8, hd 1 (c8.map (cdL 1 (cdL 1 cdI)).enc)), (9, .v (.int .i64 c9)), (10, hd 2 ([].map (cdL 1 cdI).enc)), (36, .v (.int .i64 x1)), (37, .v (.int .i64 c9)), (40, .v (.int .i64 x1)), (41, .v (.int .i64 0))], [some ⟨3, 72, [.ag [.v (.int .i64 j6.1), .v (.int .i64 j6.2.1), .sl 1 (j6.2.2.1.map cdI.enc)]], false⟩, mk 1 49 (c8.map (cdL 1 (cdL 1 cdI)).enc), mk 1 24 ([].map (cdL 1 cdI).enc)]⟩) Wk.none (Wk.sel2 [0, 1, 2] (by kernel_rfl) (by kernel_rfl) (by kernel_rfl) ⟨⟨_, rfl, bu_c (by kernel_rfl) (by kernel_rfl)⟩, ⟨_, rfl, bu_mk⟩, ⟨_, rfl, bu_none⟩, trivial⟩ ⟨lu (by kernel_rfl) (by kernel_rfl), lu (by kernel_rfl) (by kernel_rfl), lu (by kernel_rfl) (by kernel_rfl), lu_hd (b' := 1) (by kernel_rfl) (by kernel_rfl), lu (by kernel_rfl) (by kernel_rfl), lu (by kernel_rfl) (by kernel_rfl), lu (by kernel_rfl) (by kernel_rfl), lu (by kernel_rfl) (by kernel_rfl), lu (by kernel_rfl) (by kernel_rfl), lu (by kernel_rfl) (by kernel_rfl), trivial⟩)) (evening_Net_2_ok x0 x1 j6 c8 c9 _ [] 0 _ hr24)) ?_
      by_cases hk25 : (capOk 24 (c8.length + 1)) = true
      case neg => rw [if_neg hk25] at h; cases h
      rw [if_pos hk25] at h
      refine Sem.runS (s1 := ⟨Fr 74 [(0, .v (.int .i64 x0)), (1, .v (.int .i64 x1)), (6, .pt 0 0 0), (8, hd 1 ((c8 ++ [r24]).map (cdL 1 (cdL 1 cdI)).enc)), (36, .v (.int .i64 x1)), (37, .v (.int .i64 c9))], [some ⟨3, 72, [.ag [.v (.int .i64 j6.1), .v (.int .i64 j6.2.1), .sl 1 (j6.2.2.1.map cdI.enc)]], false⟩, mk 1 49 ((c8 ++ [r24]).map (cdL 1 (cdL 1 cdI)).enc)]⟩) ?_ ?_
      · refine RunS.segF (n := 74) e_evening_Net_ok 2 [(0, .v (.int .i64 x0)), (1, .v (.int .i64 x1)), (6, .pt 0 0 0), (36, .v (.int .i64 x1)), (37, .v (.int .i64 c9)), (68, hd 1 (c8.map (cdL 1 (cdL 1 cdI)).enc)), (69, hd 2 (r24.map (cdL 1 cdI).enc))] [some ⟨3, 72, [.ag [.v (.int .i64 j6.1), .v (.int .i64 j6.2.1), .sl 1 (j6.2.2.1.map cdI.enc)]], false⟩, mk 1 49 (c8.map (cdL 1 (cdL 1 cdI)).enc), mk 1 24 (r24.map (cdL 1 cdI).enc)] (by kernel_rfl) ?_
        refine RunS.wk (s1 := ⟨Fr 74 [(0, .v (.int .i64 x0)), (1, .v (.int .i64 x1)), (6, .pt 0 0 0), (36, .v (.int .i64 x1)), (37, .v (.int .i64 c9)), (68, hd 1 (c8.map (cdL 1 (cdL 1 cdI)).enc)), (69, .sl 1 (r24.map (cdL 1 cdI).enc))], [some ⟨3, 72, [.ag [.v (.int .i64 j6.1), .v (.int .i64 j6.2.1), .sl 1 (j6.2.2.1.map cdI.enc)]], false⟩, mk 1 49 (c8.map (cdL 1 (cdL 1 cdI)).enc), none]⟩) (Wk.frzG 2 (.inl (by kernel_rfl)) ⟨.inr (.inr ⟨_, _, _, _, rfl, rfl, ⟨.inl rfl, trivial⟩⟩), .inr (.inl rfl), .inl rfl, trivial⟩ ⟨⟨.v (.int .i64 x0), (by kernel_rfl), .inl rfl⟩, ⟨.v (.int .i64 x1), (by kernel_rfl), .inl rfl⟩, ⟨.pt 0 0 0, (by kernel_rfl), .inl rfl⟩, ⟨.v (.int .i64 x1), (by kernel_rfl), .inl rfl⟩, ⟨.v (.int .i64 c9), (by kernel_rfl), .inl rfl⟩, ⟨hd 1 (c8.map (cdL 1 (cdL 1 cdI)).enc), (by kernel_rfl), .inl rfl⟩, ⟨hd 2 (r24.map (cdL 1 cdI).enc), (by kernel_rfl), fz_hd (t := 24) (by kernel_rfl) enc_ok⟩, trivial⟩) ?_
        refine RunS.segF (n := 74) e_evening_Net_ok 1 [(0, .v (.int .i64 x0)), (1, .v (.int .i64 x1)), (6, .pt 0 0 0), (36, .v (.int .i64 x1)), (37, .v (.int .i64 c9)), (68, hd 1 (c8.map (cdL 1 (cdL 1 cdI)).enc)), (70, hd 3 ([r24].map (cdL 1 (cdL 1 cdI)).enc))] [some ⟨3, 72, [.ag [.v (.int .i64 j6.1), .v (.int .i64 j6.2.1), .sl 1 (j6.2.2.1.map cdI.enc)]], false⟩, mk 1 49 (c8.map (cdL 1 (cdL 1 cdI)).enc), none, mk 1 49 ([r24].map (cdL 1 (cdL 1 cdI)).enc)] (by kernel_rfl) ?_
        refine RunS.one e_evening_Net_ok 0 rfl (op_w (wantedA_none rfl) rfl (by kernel_rfl) (by kernel_rfl) (w_append (a := hd 1 (c8.map (cdL 1 (cdL 1 cdI)).enc)) (b := hd 3 ([r24].map (cdL 1 (cdL 1 cdI)).enc)) (by kernel_rfl) (by kernel_rfl) (append_B (c := (cdL 1 (cdL 1 cdI))) (xs := c8) (vs := [r24]) (k := 1) (bytes := 24) (el := 49) (by kernel_rfl) (by kernel_rfl) (elems_hd (t := 49) (by kernel_rfl)) (List.cons_ne_nil _ _) (by kernel_rfl) hk25))) ?_
        refine RunS.segF (n := 74) e_evening_Net_ok 1 [(0, .v (.int .i64 x0)), (1, .v (.int .i64 x1)), (6, .pt 0 0 0), (8, hd 4 ((c8 ++ [r24]).map (cdL 1 (cdL 1 cdI)).enc)), (36, .v (.int .i64 x1)), (37, .v (.int .i64 c9))] [some ⟨3, 72, [.ag [.v (.int .i64 j6.1), .v (.int .i64 j6.2.1), .sl 1 (j6.2.2.1.map cdI.enc)]], false⟩, none, none, mk 1 49 ([r24].map (cdL 1 (cdL 1 cdI)).enc), mk 1 49 ((c8 ++ [r24]).map (cdL 1 (cdL 1 cdI)).enc)] (by kernel_rfl) ?_
        exact RunS.done rfl (Wk.sel2 [0, 4] (by kernel_rfl) (by kernel_rfl) (by kernel_rfl) ⟨⟨_, rfl, bu_c (by kernel_rfl) (by kernel_rfl)⟩, ⟨_, rfl, bu_mk⟩, trivial⟩ ⟨lu (by kernel_rfl) (by kernel_rfl), lu (by kernel_rfl) (by kernel_rfl), lu (by kernel_rfl) (by kernel_rfl), lu_hd (b' := 4) (by kernel_rfl) (by kernel_rfl), lu (by kernel_rfl) (by kernel_rfl), lu (by kernel_rfl) (by kernel_rfl), trivial⟩)
      refine Sem.runS (s1 := ⟨Fr 74 [(0, .v (.int .i64 x0)), (1, .v (.int .i64 x1)), (6, .pt 0 0 0), (8, hd 1 ((c8 ++ [r24]).map (cdL 1 (cdL 1 cdI)).enc)), (36, .v (.int .i64 x1)), (37, .v (.int .i64 (wr .i64 (c9 + 1))))], [some ⟨3, 72, [.ag [.v (.int .i64 j6.1), .v (.int .i64 j6.2.1), .sl 1 (j6.2.2.1.map cdI.enc)]], false⟩, mk 1 49 ((c8 ++ [r24]).map (cdL 1 (cdL 1 cdI)).enc)]⟩) ?_ ?_
      · refine RunS.segF (n := 74) e_evening_Net_ok 2 [(0, .v (.int .i64 x0)), (1, .v (.int .i64 x1)), (6, .pt 0 0 0), (8, hd 1 ((c8 ++ [r24]).map (cdL 1 (cdL 1 cdI)).enc)), (36, .v (.int .i64 x1)), (37, .v (.int .i64 (wr .i64 (c9 + 1))))] [some ⟨3, 72, [.ag [.v (.int .i64 j6.1), .v (.int .i64 j6.2.1), .sl 1 (j6.2.2.1.map cdI.enc)]], false⟩, mk 1 49 ((c8 ++ [r24]).map (cdL 1 (cdL 1 cdI)).enc)] (by kernel_rfl) ?_
        exact RunS.done rfl (Wk.sel2 [0, 1] (by kernel_rfl) (by kernel_rfl) (by kernel_rfl) ⟨⟨_, rfl, bu_c (by kernel_rfl) (by kernel_rfl)⟩, ⟨_, rfl, bu_mk⟩, trivial⟩ ⟨lu (by kernel_rfl) (by kernel_rfl), lu (by kernel_rfl) (by kernel_rfl), lu (by kernel_rfl) (by kernel_rfl), lu_hd (b' := 1) (by kernel_rfl) (by kernel_rfl), lu (by kernel_rfl) (by kernel_rfl), lu (by kernel_rfl) (by kernel_rfl), trivial⟩)
      exact SemN.wk (s1 := ⟨Fr 74 [(0, .v (.int .i64 x0)), (1, .v (.int .i64 x1)), (6, .pt 0 0 0), (8, hd 1 ((c8 ++ [r24]).map (cdL 1 (cdL 1 cdI)).enc)), (36, .v (.int .i64 x1)), (37, .v (.int .i64 (wr .i64 (c9 + 1))))], [some ⟨3, 72, [.ag [.v (.int .i64 j6.1), .v (.int .i64 j6.2.1), .sl 1 (j6.2.2.1.map cdI.enc)]], false⟩, mk 1 49 ((c8 ++ [r24]).map (cdL 1 (cdL 1 cdI)).enc)]⟩) (Wk.sel2 [0, 1] (by kernel_rfl) (by kernel_rfl) (by kernel_rfl) ⟨⟨_, rfl, bu_c (by kernel_rfl) (by kernel_rfl)⟩, ⟨_, rfl, bu_mk⟩, trivial⟩ ⟨lu (by kernel_rfl) (by kernel_rfl), lu (by kernel_rfl) (by kernel_rfl), lu (by kernel_rfl) (by kernel_rfl), lu_hd (b' := 1) (by kernel_rfl) (by kernel_rfl), lu (by kernel_rfl) (by kernel_rfl), lu (by kernel_rfl) (by kernel_rfl), trivial⟩) (ih (c8 ++ [r24]) (wr .i64 (c9 + 1)) h)
    · rw [if_f hb10] at h
      refine Sem.exit ?_
      have hq := Option.some.inj h; subst hq
      exact ⟨rfl, (Wk.sel2 [1] (by kernel_rfl) (by kernel_rfl) (by kernel_rfl) ⟨⟨_, rfl, bu_mk⟩, trivial⟩ ⟨lu_hd (b' := 1) (by kernel_rfl) (by kernel_rfl), trivial⟩)⟩
end Go.Proofs.YthofgamegondnaaDoor

namespace Go.Proofs.YthofgamegondnaaDoor
open Go.RowKit
def flatF : AV → Bool
  | .v _ => true
  | .st _ => true
  | .e0 => true
  | .sl _ _ => true
  | .pe _ _ => true
  | .rf _ _ _ _ => true
  | .pt _ _ _ => true
  | _ => false
def ownFz : AV → Bool
  | .ag cs => cs.all flatF
  | .tp cs => cs.all flatF
  | x => flatF x
def noRfH : Hp → Bool
  | [] => true
  | none :: r => noRfH r
  | some B :: r => !B.fz && B.es.all noRf && noRfH r
theorem noRfH_at : ∀ {h : Hp}, noRfH h = true → ∀ (b : Nat) (B : Blk), h[b]? = some (some B) → B.fz = false ∧ B.es.all noRf = true
  | [], _, b, B, hb => by simp at hb
  | none :: r, h, 0, B, hb => by simp at hb
  | none :: r, h, b + 1, B, hb => noRfH_at (h := r) h b B (by simpa using hb)
  | some C :: r, h, 0, B, hb => by
    simp at hb; subst hb
    simp only [noRfH, Bool.and_eq_true, Bool.not_eq_true'] at h
    exact h.1
  | some C :: r, h, b + 1, B, hb => by
    simp only [noRfH, Bool.and_eq_true] at h
    exact noRfH_at h.2 b B (by simpa using hb)
section
variable {w w' : World} {Z Z' : Nat → Prop} {R R' : List RI} {h h' : Hp}
theorem noRf_any {R2 : List RI} {x : AV} {u : Value} (hf : noRf x = true) (hv : VR w Z R x u) : VR w Z R2 x u := by
  cases hv with
  | v h => exact .v h
  | st h hn => exact .st h hn
  | e0 => exact .e0
  | sl hn hl hc hm ha hx => exact .sl hn hl hc hm ha hx
  | pe hs h3 h1 hu hx => exact .pe hs h3 h1 hu hx
  | _ => simp [noRf] at hf
theorem sh1_vrZ {n : Nat} (hn : R.length = n) {x : AV} {u : Value} (hf : flatF x = true) (hv : VR w Z R' x u) : VR w Z (R ++ R') (sh1 n x) u := by
  have hg : ∀ {b : Nat} {r : RI}, R'[b]? = some r → (R ++ R')[n + b]? = some r := fun {b r} hr => by
    rw [List.getElem?_append_right (by omega), ← hn, Nat.add_sub_cancel_left]; exact hr
  cases hv with
  | v h => exact .v h
  | st h hn => exact .st h hn
  | e0 => exact .e0
  | sl hn hl hc hm ha hx => exact .sl hn hl hc hm ha hx
  | pe hs h3 h1 hu hx => exact .pe hs h3 h1 hu hx
  | rf hr h0 h1 h2 hm => exact .rf (hg hr) h0 h1 h2 hm
  | pt hr => exact .pt (hg hr)
  | _ => simp [flatF] at hf
theorem shN_vrZ {n : Nat} (hn : R.length = n) {x : AV} {u : Value} (hf : ownFz x = true) (hv : VR w Z R' x u) : VR w Z (R ++ R') (shN n x) u := by
  have hl : ∀ {cs : List AV} {us : List Value}, cs.all flatF = true → (∀ (i : Nat) (x : AV) (u : Value), cs[i]? = some x → us[i]? = some u → VR w Z R' x u) → ∀ (i : Nat) (x : AV) (u : Value), (cs.map (sh1 n))[i]? = some x → us[i]? = some u → VR w Z (R ++ R') x u := fun {cs us} hc hx i x u hi hu => by
    rw [List.getElem?_map] at hi
    obtain ⟨y, hy, rfl⟩ := Option.map_eq_some_iff.1 hi
    exact sh1_vrZ hn (List.all_eq_true.1 hc y (List.mem_of_getElem? hy)) (hx i y u hy hu)
  cases hv with
  | ag h1 h2 hx => exact .ag (by simpa using h1) h2 (hl hf hx)
  | tp h1 hx => exact .tp (by simpa using h1) (hl hf hx)
  | v h => exact sh1_vrZ hn rfl (.v h)
  | st h hn' => exact sh1_vrZ hn rfl (.st h hn')
  | e0 => exact sh1_vrZ hn rfl .e0
  | sl q1 q2 q3 q4 q5 q6 => exact sh1_vrZ hn rfl (.sl q1 q2 q3 q4 q5 q6)
  | pe q1 q2 q3 q4 q5 => exact sh1_vrZ hn rfl (.pe q1 q2 q3 q4 q5)
  | rf hr h0 h1 h2 hm => exact sh1_vrZ hn rfl (.rf hr h0 h1 h2 hm)
  | pt hr => exact sh1_vrZ hn rfl (.pt hr)
  | _ => simp [ownFz, flatF] at hf
/-- What a call made stands beside what was there; what it froze is frozen. -/
theorem HR.joinZ (hh : HR w Z R h) (st : StepW w Z [] [] w' Z' R' h') (hh' : HR w' Z' R' h') (hf : noRfH h' = true) : HR w' Z' (R ++ R') (h ++ h') ∧ Step w Z R h w' Z' (R ++ R') (h ++ h') := by
  have hold : ∀ c, c < w.heap.size → w'.heap[c]? = w.heap[c]? := fun c hc => st.block c hc fun ⟨b, B, r, hb, _⟩ => by simp at hb
  have hr : ∀ (i : Nat) (x : RI), R[i]? = some x → (R ++ R')[i]? = some x := fun i x hx => by
    rw [List.getElem?_append_left (List.getElem?_eq_some_iff.1 hx).1]; exact hx
  have hnew : ∀ c, own R' h' c → w.heap.size ≤ c := fun c hc => (st.own_ c hc).resolve_left fun ⟨b, B, r, hb, _⟩ => by simp at hb
  have hzn : ∀ c, Z' c → Z c ∨ w.heap.size ≤ c := fun c hc => (st.z' c hc).elim .inl fun h2 => h2.elim (fun ⟨b, B, r, hb, _⟩ => by simp at hb) .inr
  have hlen := hh.len
  have hat : ∀ (b : Nat) (B : Blk), (h ++ h')[b]? = some (some B) → (b < h.length ∧ h[b]? = some (some B) ∧ (R ++ R')[b]? = R[b]?) ∨ (∃ j, b = h.length + j ∧ h'[j]? = some (some B) ∧ (R ++ R')[b]? = R'[j]?) := fun b B hb => by
    by_cases hlt : b < h.length
    · rw [List.getElem?_append_left hlt] at hb
      exact .inl ⟨hlt, hb, List.getElem?_append_left (by omega)⟩
    · rw [List.getElem?_append_right (by omega)] at hb
      exact .inr ⟨b - h.length, by omega, hb, by rw [List.getElem?_append_right (by omega), hlen]⟩
  have hRb : ∀ (b : Nat) (B : Blk) (r : RI), h[b]? = some (some B) → R[b]? = some r → r.c < w.heap.size := fun b B r h1 h2 => hh.rltL h1 h2
  have hRn : ∀ (j : Nat) (B : Blk) (r : RI), h'[j]? = some (some B) → R'[j]? = some r → w.heap.size ≤ r.c := fun j B r h1 h2 => hnew _ ⟨j, B, r, h1, (noRfH_at hf j B h1).1, h2, rfl⟩
  refine ⟨⟨by simp [hh.len, hh'.len], fun b B hB => ?_, fun b b' B B' r r' hB hfz hB' hfz' h1 h2 e => ?_, hh'.zlt⟩, ⟨st.os, st.tape, st.output, st.size, fun c hc _ => hold c hc, fun c hc => ?_, st.z, fun c hc => (hzn c hc).elim .inl (fun h => .inr (.inr h)), hr⟩⟩
  · rcases hat b B hB with ⟨hlt, hb, hRR⟩ | ⟨j, rfl, hb, hRR⟩
    · obtain ⟨r, arr, us, g1, g2, g3, g4, g5, g6, g7, g8, g9, g10⟩ := hh.blk b B hb
      have hlt' := hRb b B r hb g1
      exact ⟨r, arr, us, hRR.trans g1, g2, (hold _ hlt').trans g3, g4, g5, g6, fun h => st.z _ (g7 h), fun h hz' => (hzn _ hz').elim (g8 h) (fun h2 => by omega), ⟨g9.len, fun i x u hx hu => (g9.at_ i x u hx hu).mono (fun c hc => hold c (hh.zlt c hc)) st.z hr⟩, g10⟩
    · obtain ⟨r, arr, us, g1, g2, g3, g4, g5, g6, g7, g8, g9, g10⟩ := hh'.blk j B hb
      obtain ⟨f1, f2⟩ := noRfH_at hf j B hb
      exact ⟨r, arr, us, hRR.trans g1, g2, g3, g4, g5, g6, g7, g8, ⟨g9.len, fun i x u hx hu => noRf_any (List.all_eq_true.1 f2 x (List.mem_of_getElem? hx)) (g9.at_ i x u hx hu)⟩, g10⟩
  · rcases hat b B hB with ⟨_, hb, hRR⟩ | ⟨j, rfl, hb, hRR⟩ <;> rcases hat b' B' hB' with ⟨_, hb', hRR'⟩ | ⟨j', rfl, hb', hRR'⟩ <;> rw [hRR] at h1 <;> rw [hRR'] at h2
    · exact hh.inj b b' B B' r r' hb hfz hb' hfz' h1 h2 e
    · have := hRb b B r hb h1; have := hRn j' B' r' hb' h2; omega
    · have := hRb b' B' r' hb' h2; have := hRn j B r hb h1; omega
    · rw [hh'.inj j j' B B' r r' hb hfz hb' hfz' h1 h2 e]
  · obtain ⟨b, B, r, h1, h2, h3, rfl⟩ := hc
    rcases hat b B h1 with ⟨_, hb, hRR⟩ | ⟨j, rfl, hb, hRR⟩ <;> rw [hRR] at h3
    · exact .inl ⟨b, B, r, hb, h2, h3, rfl⟩
    · exact .inr (hRn j B r hb h3)
end
section
variable {E : Env} {ops : Array Oper} {rest rest' : List Oper} {K : St → Prop} {n : Nat} {l : List (Nat × AV)} {hp : Hp} {xs : List AV} {Out : AV → Hp → Prop}
theorem RunS.callZ (hP : E.P = E0.P) (hG : E.G = E0.G) {d : Nat} {f : Operand} {args : Array Operand} {tys : Array TypeId} {ty : TypeId} {pos : String} {af : Array Edge} {g : Option (Nat × Bool)} {fid : FuncId} (hs : SOk fid xs Out) (hr : rest = ⟨some d, .call ⟨.value f, args, tys⟩, ty, pos, af, g⟩ :: rest') (hw : wantedA ops (Fr n l) ⟨some d, .call ⟨.value f, args, tys⟩, ty, pos, af, g⟩ = some true)
    (hf : opA E (Fr n l) f = some (.fn fid [] [])) (ha : opds (opA E (Fr n l)) args.toList = some xs) (hv : xs.all noRf2 = true) (hfl : ∀ x h', Out x h' → ownFz x = true ∧ noRfH h' = true) (k : ∀ x h', Out x h' → RunS E ops rest' ⟨Fr n ((d, shN hp.length x) :: l), hp ++ h'⟩ K) : RunS E ops rest ⟨Fr n l, hp⟩ K := by
  obtain ⟨P, fns, G, X, I⟩ := E
  simp only at hP hG
  subst hP hG
  subst hr
  intro base Q a w Z R sr q
  have hρ : ∀ o x, opA ⟨E0.P, fns, E0.G, X, I⟩ (Fr n l) o = some x → VR w Z R x (a.eval o) := fun o x e => opA_vr sr o x e
  unfold LwL
  rw [if_pos (wantedA_eq sr hw)]
  have hva : a.eval f = .func (.func fid) ([] : List Value).toArray ([] : List Value).toArray := by
    have := hρ _ _ hf
    generalize a.eval f = vf at this
    cases this with
    | fn hl hl' hx hy =>
      rename_i u1 u2
      have e1 : u1 = [] := by simpa using hl
      have e2 : u2 = [] := by simpa using hl'
      subst e1 e2; rfl
  unfold Lw
  rw [run_call (uf := []) (uc := []) rfl hva rfl hs.1 w]
  simp only [List.nil_append, List.append_nil]
  refine Ret.mono (hs.2 w Z _ sr.hh.zlt sr.gl (noRfs_vr hv (opds_vr hρ ha))) fun v w' hS => ?_
  obtain ⟨Z', R', x, h', hO, h1, h2, st⟩ := hS
  obtain ⟨f1, f2⟩ := hfl x h' hO
  obtain ⟨j1, j2⟩ := sr.hh.joinZ st h1 f2
  have hlen : R.length = hp.length := sr.hh.len
  have hx := shN_vrZ (R := R) hlen f1 h2
  have sr' := (sr.step j1 j2).put (d := some d) hx
  rw [show putA (⟨Fr n l, hp⟩ : St).fr (some d) (shN hp.length x) = Fr n ((d, shN hp.length x) :: l) from putA_Fr n l d _] at sr'
  exact k x h' hO base Q _ w' Z' (R ++ R') sr' fun s' a' w'' Z'' R'' hK sr'' st' => q s' a' w'' Z'' R'' hK sr'' (j2.w.trans st')
/-- A growing slice and something flat are handed back. -/
def OutO (ys : List AV) (e : AV) (kk : Nat) (t : TypeId) (x : AV) (h' : Hp) : Prop := x = .tp [hd 0 ys, e] ∧ h' = [mk kk t ys]
theorem RunS.callO (hP : E.P = E0.P) (hG : E.G = E0.G) {d : Nat} {f : Operand} {args : Array Operand} {tys : Array TypeId} {ty : TypeId} {pos : String} {af : Array Edge} {g : Option (Nat × Bool)} {fid : FuncId} {ys : List AV} {e : AV} {kk : Nat} {t : TypeId} (hs : SOk fid xs (OutO ys e kk t)) (hr : rest = ⟨some d, .call ⟨.value f, args, tys⟩, ty, pos, af, g⟩ :: rest') (hw : wantedA ops (Fr n l) ⟨some d, .call ⟨.value f, args, tys⟩, ty, pos, af, g⟩ = some true)
    (hf : opA E (Fr n l) f = some (.fn fid [] [])) (ha : opds (opA E (Fr n l)) args.toList = some xs) (hv : xs.all noRf2 = true) (hy : ys.all noRf = true) (he : isFlat e = true) (k : RunS E ops rest' ⟨Fr n ((d, .tp [hd hp.length ys, e]) :: l), hp ++ [mk kk t ys]⟩ K) : RunS E ops rest ⟨Fr n l, hp⟩ K := by
  have he' : sh1 hp.length e = e := by cases e <;> first | rfl | (simp [isFlat] at he)
  have he2 : flatF e = true := by cases e <;> first | rfl | (simp [isFlat] at he)
  refine RunS.callZ hP hG hs hr hw hf ha hv (fun x h' hO => ?_) fun x h' hO => ?_
  · obtain ⟨rfl, rfl⟩ := hO
    cases ys with
    | nil => exact ⟨(by show (true && (flatF e && true)) = true; rw [he2]; rfl), rfl⟩
    | cons y ys => exact ⟨(by show (true && (flatF e && true)) = true; rw [he2]; rfl), (by show (!false && (y :: ys).all noRf && true) = true; rw [hy]; rfl)⟩
  · obtain ⟨rfl, rfl⟩ := hO
    have e1 : shN hp.length (.tp [hd 0 ys, e]) = .tp [hd hp.length ys, e] := by
      cases ys with
      | nil => show AV.tp [.e0, sh1 hp.length e] = _; rw [he']; rfl
      | cons y ys => show AV.tp [.rf (hp.length + 0) 0 _ _, sh1 hp.length e] = _; rw [he']; rfl
    rw [e1]
    exact k
theorem noRf_map {α : Type} {c : Cd α} (hc : ∀ x, noRf (c.enc x) = true) (xs : List α) : (xs.map c.enc).all noRf = true := by
  rw [List.all_eq_true]
  intro x hx
  obtain ⟨y, _, rfl⟩ := List.mem_map.1 hx
  exact hc y
end
end Go.Proofs.YthofgamegondnaaDoor

namespace Go.Proofs.YthofgamegondnaaDoor
open Go.RowKit
set_option maxHeartbeats 4000000 in
set_option maxRecDepth 100000 in
theorem evening_Net_semO (x0 : Int) (x1 : Int) (r : (List (List (List Int))) × Int) (h : evening_Net x0 x1 = some r) : Sem e_evening_Net ⟨none, false⟩ cb_evening_Net ⟨Fr 74 (pairs0 0 (cs_evening_Net.enc (x0, x1, ()))), []⟩ fun e s' => (e = .normal ∨ e = .ret) ∧ ∃ xs, resA e_evening_Net.P s'.fr s'.hp Tryd.f46.results.toList = some xs ∧ OutO (r.1.map (cdL 1 (cdL 1 cdI)).enc) (cdI.enc r.2) 1 49 (retA xs) s'.hp := by
  unfold evening_Net at h
  refine Sem.wkQ (Sem.wk (s1 := ⟨Fr 74 [(0, .v (.int .i64 x0)), (1, .v (.int .i64 x1))], []⟩) (Wk.fr (by kernel_rfl)) ?_)
  refine Sem.seq ?_
  refine Sem.runS (s1 := ⟨Fr 74 [(0, .v (.int .i64 x0)), (1, .v (.int .i64 x1))], []⟩) ?_ ?_
  · refine RunS.segF (n := 74) e_evening_Net_ok 2 [(0, .v (.int .i64 x0)), (1, .v (.int .i64 x1))] [] (by kernel_rfl) ?_
    exact RunS.done rfl (Wk.fr (by kernel_rfl))
  refine Sem.seq ?_
  obtain ⟨v1, hv1, h⟩ := Option.bind_eq_some_iff.1 h
  refine Sem.runS (s1 := ⟨Fr 74 [(0, .v (.int .i64 x0)), (1, .v (.int .i64 x1)), (6, .pt 0 0 0), (7, .v (.bool v1.2))], [some ⟨3, 72, [.ag [.v (.int .i64 v1.1.1), .v (.int .i64 v1.1.2.1), .sl 1 (v1.1.2.2.map cdI.enc)]], false⟩]⟩) ?_ ?_
  · refine RunS.segF (n := 74) e_evening_Net_ok 1 [(0, .v (.int .i64 x0)), (1, .v (.int .i64 x1)), (15, .v (.int .i64 x1))] [] (by kernel_rfl) ?_
    refine RunS.call e_evening_Net_ok (fid := 56) (s := cs_evening_fieldOf) (F := fun a => evening_fieldOf a.1) (er := er_evening_fieldOf) (xs := [.v (.int .i64 x1)]) (a := (x1, ())) rfl (wantedA_none rfl) (by kernel_rfl) (by kernel_rfl) (by kernel_rfl) (by kernel_rfl) (Sns.cons (Sn.enc (c := cdI) (v := x1)) Sns.nil) (.inl (by kernel_rfl)) hv1 ?_
    refine RunS.segF (n := 74) e_evening_Net_ok 6 [(0, .v (.int .i64 x0)), (1, .v (.int .i64 x1)), (6, .pt 0 0 0), (7, .v (.bool v1.2))] [some ⟨3, 72, [.ag [.v (.int .i64 v1.1.1), .v (.int .i64 v1.1.2.1), .sl 1 (v1.1.2.2.map cdI.enc)]], false⟩] (by kernel_rfl) ?_
    exact RunS.done rfl (Wk.sel2 [0] (by kernel_rfl) (by kernel_rfl) (by kernel_rfl) ⟨⟨_, rfl, bu_c (by kernel_rfl) (by kernel_rfl)⟩, trivial⟩ ⟨lu (by kernel_rfl) (by kernel_rfl), lu (by kernel_rfl) (by kernel_rfl), lu (by kernel_rfl) (by kernel_rfl), lu (by kernel_rfl) (by kernel_rfl), trivial⟩)
  refine Sem.seq ?_
  refine Sem.seq ?_
  obtain ⟨j6, hj6, h⟩ := Option.bind_eq_some_iff.1 h
  refine Sem.runS (s1 := ⟨Fr 74 [(0, .v (.int .i64 x0)), (1, .v (.int .i64 x1)), (6, .pt 0 0 0), (35, .v (.bool j6.2.2.2))], [some ⟨3, 72, [.ag [.v (.int .i64 j6.1), .v (.int .i64 j6.2.1), .sl 1 (j6.2.2.1.map cdI.enc)]], false⟩]⟩) ?_ ?_
  · refine RunS.segF (n := 74) e_evening_Net_ok 3 [(0, .v (.int .i64 x0)), (1, .v (.int .i64 x1)), (6, .pt 0 0 0), (21, .v (.bool (!v1.2)))] [some ⟨3, 72, [.ag [.v (.int .i64 v1.1.1), .v (.int .i64 v1.1.2.1), .sl 1 (v1.1.2.2.map cdI.enc)]], false⟩] (by kernel_rfl) ?_
    rcases Bool.eq_false_or_eq_true (!v1.2) with hc28 | hc28
    · rw [if_pos hc28] at hj6
      rw [hc28]
      refine RunS.segF (n := 74) e_evening_Net_ok 14 [(0, .v (.int .i64 x0)), (1, .v (.int .i64 x1)), (6, .pt 0 0 0), (35, .v (.bool true))] [some ⟨3, 72, [.ag [.v (.int .i64 v1.1.1), .v (.int .i64 v1.1.2.1), .sl 1 (v1.1.2.2.map cdI.enc)]], false⟩] (by kernel_rfl) ?_
      have hq := Option.some.inj hj6; subst hq
      exact RunS.done rfl (Wk.sel2 [0] (by kernel_rfl) (by kernel_rfl) (by kernel_rfl) ⟨⟨_, rfl, bu_c (by kernel_rfl) (by kernel_rfl)⟩, trivial⟩ ⟨lu (by kernel_rfl) (by kernel_rfl), lu (by kernel_rfl) (by kernel_rfl), lu (by kernel_rfl) (by kernel_rfl), lu (by kernel_rfl) (by kernel_rfl), trivial⟩)
    · rw [if_f hc28] at hj6
      rw [hc28]
      refine RunS.segF (n := 74) e_evening_Net_ok 4 [(0, .v (.int .i64 x0)), (1, .v (.int .i64 x1)), (6, .pt 0 0 0), (25, .v (.bool (decide (x0 < 1))))] [some ⟨3, 72, [.ag [.v (.int .i64 v1.1.1), .v (.int .i64 v1.1.2.1), .sl 1 (v1.1.2.2.map cdI.enc)]], false⟩] (by kernel_rfl) ?_
      rcases Bool.eq_false_or_eq_true (decide (x0 < 1)) with hc29 | hc29
      · rw [if_pos hc29] at hj6
        rw [hc29]
        refine RunS.segF (n := 74) e_evening_Net_ok 10 [(0, .v (.int .i64 x0)), (1, .v (.int .i64 x1)), (6, .pt 0 0 0), (35, .v (.bool true))] [some ⟨3, 72, [.ag [.v (.int .i64 v1.1.1), .v (.int .i64 v1.1.2.1), .sl 1 (v1.1.2.2.map cdI.enc)]], false⟩] (by kernel_rfl) ?_
        have hq := Option.some.inj hj6; subst hq
        exact RunS.done rfl (Wk.sel2 [0] (by kernel_rfl) (by kernel_rfl) (by kernel_rfl) ⟨⟨_, rfl, bu_c (by kernel_rfl) (by kernel_rfl)⟩, trivial⟩ ⟨lu (by kernel_rfl) (by kernel_rfl), lu (by kernel_rfl) (by kernel_rfl), lu (by kernel_rfl) (by kernel_rfl), lu (by kernel_rfl) (by kernel_rfl), trivial⟩)
      · rw [if_f hc29] at hj6
        rw [hc29]
        refine RunS.segF (n := 74) e_evening_Net_ok 5 [(0, .v (.int .i64 x0)), (1, .v (.int .i64 x1)), (6, .pt 0 0 0), (30, .v (.bool (decide (x0 > x1))))] [some ⟨3, 72, [.ag [.v (.int .i64 v1.1.1), .v (.int .i64 v1.1.2.1), .sl 1 (v1.1.2.2.map cdI.enc)]], false⟩] (by kernel_rfl) ?_
        rcases Bool.eq_false_or_eq_true (decide (x0 > x1)) with hc30 | hc30
        · rw [if_pos hc30] at hj6
          rw [hc30]
          refine RunS.segF (n := 74) e_evening_Net_ok 5 [(0, .v (.int .i64 x0)), (1, .v (.int .i64 x1)), (6, .pt 0 0 0), (35, .v (.bool true))] [some ⟨3, 72, [.ag [.v (.int .i64 v1.1.1), .v (.int .i64 v1.1.2.1), .sl 1 (v1.1.2.2.map cdI.enc)]], false⟩] (by kernel_rfl) ?_
          have hq := Option.some.inj hj6; subst hq
          exact RunS.done rfl (Wk.sel2 [0] (by kernel_rfl) (by kernel_rfl) (by kernel_rfl) ⟨⟨_, rfl, bu_c (by kernel_rfl) (by kernel_rfl)⟩, trivial⟩ ⟨lu (by kernel_rfl) (by kernel_rfl), lu (by kernel_rfl) (by kernel_rfl), lu (by kernel_rfl) (by kernel_rfl), lu (by kernel_rfl) (by kernel_rfl), trivial⟩)
        · rw [if_f hc30] at hj6
          rw [hc30]
          refine RunS.segF (n := 74) e_evening_Net_ok 5 [(0, .v (.int .i64 x0)), (1, .v (.int .i64 x1)), (6, .pt 0 0 0), (35, .v (.bool (decide ((wr .i64 (x0 * x1)) > 64))))] [some ⟨3, 72, [.ag [.v (.int .i64 v1.1.1), .v (.int .i64 v1.1.2.1), .sl 1 (v1.1.2.2.map cdI.enc)]], false⟩] (by kernel_rfl) ?_
          have hq := Option.some.inj hj6; subst hq
          exact RunS.done rfl (Wk.sel2 [0] (by kernel_rfl) (by kernel_rfl) (by kernel_rfl) ⟨⟨_, rfl, bu_c (by kernel_rfl) (by kernel_rfl)⟩, trivial⟩ ⟨lu (by kernel_rfl) (by kernel_rfl), lu (by kernel_rfl) (by kernel_rfl), lu (by kernel_rfl) (by kernel_rfl), lu (by kernel_rfl) (by kernel_rfl), trivial⟩)
  refine Sem.cond (b := j6.2.2.2) (by kernel_rfl) (fun hb7 => ?_) (fun hb7 => ?_)
  · rw [if_pos hb7] at h
    refine Sem.seq ?_
    refine Sem.runS (s1 := ⟨Fr 74 [(4, .e0), (5, .v (.int .i64 90))], []⟩) ?_ ?_
    · refine RunS.segF (n := 74) e_evening_Net_ok 2 [(4, .e0), (5, .v (.int .i64 90))] [some ⟨3, 72, [.ag [.v (.int .i64 j6.1), .v (.int .i64 j6.2.1), .sl 1 (j6.2.2.1.map cdI.enc)]], false⟩] (by kernel_rfl) ?_
      exact RunS.done rfl (Wk.sel2 [] (by kernel_rfl) (by kernel_rfl) (by kernel_rfl) trivial ⟨lu (by kernel_rfl) (by kernel_rfl), lu (by kernel_rfl) (by kernel_rfl), trivial⟩)
    refine Sem.ret ?_
    have hq := Option.some.inj h; subst hq
    exact ⟨⟨Fr 74 [(4, hd 0 ([].map (cdL 1 (cdL 1 cdI)).enc)), (5, .v (.int .i64 90))], [mk 1 49 ([].map (cdL 1 (cdL 1 cdI)).enc)]⟩, (Wk.trans (s1 := ⟨Fr 74 [(4, hd 0 ([].map (cdL 1 (cdL 1 cdI)).enc)), (5, .v (.int .i64 90))], [mk 1 49 ([].map (cdL 1 (cdL 1 cdI)).enc)]⟩) Wk.none (Wk.sel2 [0] (by kernel_rfl) (by kernel_rfl) (by kernel_rfl) ⟨⟨_, rfl, bu_none⟩, trivial⟩ ⟨lu (by kernel_rfl) (by kernel_rfl), lu (by kernel_rfl) (by kernel_rfl), trivial⟩)), .inr rfl, [hd 0 ([].map (cdL 1 (cdL 1 cdI)).enc), .v (.int .i64 90)], (by kernel_rfl), ⟨(by kernel_rfl), (by kernel_rfl)⟩⟩
  · rw [if_f hb7] at h
    refine Sem.skip ?_
    refine Sem.seq ?_
    refine Sem.runS (s1 := ⟨Fr 74 [(0, .v (.int .i64 x0)), (1, .v (.int .i64 x1)), (6, .pt 0 0 0), (8, .e0)], [some ⟨3, 72, [.ag [.v (.int .i64 j6.1), .v (.int .i64 j6.2.1), .sl 1 (j6.2.2.1.map cdI.enc)]], false⟩]⟩) ?_ ?_
    · refine RunS.segF (n := 74) e_evening_Net_ok 1 [(0, .v (.int .i64 x0)), (1, .v (.int .i64 x1)), (6, .pt 0 0 0), (8, .e0)] [some ⟨3, 72, [.ag [.v (.int .i64 j6.1), .v (.int .i64 j6.2.1), .sl 1 (j6.2.2.1.map cdI.enc)]], false⟩] (by kernel_rfl) ?_
      exact RunS.done rfl (Wk.sel2 [0] (by kernel_rfl) (by kernel_rfl) (by kernel_rfl) ⟨⟨_, rfl, bu_c (by kernel_rfl) (by kernel_rfl)⟩, trivial⟩ ⟨lu (by kernel_rfl) (by kernel_rfl), lu (by kernel_rfl) (by kernel_rfl), lu (by kernel_rfl) (by kernel_rfl), lu (by kernel_rfl) (by kernel_rfl), trivial⟩)
    refine Sem.seq ?_
    refine Sem.seq ?_
    refine Sem.runS (s1 := ⟨Fr 74 [(0, .v (.int .i64 x0)), (1, .v (.int .i64 x1)), (6, .pt 0 0 0), (8, .e0), (36, .v (.int .i64 x1)), (37, .v (.int .i64 0))], [some ⟨3, 72, [.ag [.v (.int .i64 j6.1), .v (.int .i64 j6.2.1), .sl 1 (j6.2.2.1.map cdI.enc)]], false⟩]⟩) ?_ ?_
    · refine RunS.segF (n := 74) e_evening_Net_ok 2 [(0, .v (.int .i64 x0)), (1, .v (.int .i64 x1)), (6, .pt 0 0 0), (8, .e0), (36, .v (.int .i64 x1)), (37, .v (.int .i64 0))] [some ⟨3, 72, [.ag [.v (.int .i64 j6.1), .v (.int .i64 j6.2.1), .sl 1 (j6.2.2.1.map cdI.enc)]], false⟩] (by kernel_rfl) ?_
      exact RunS.done rfl (Wk.sel2 [0] (by kernel_rfl) (by kernel_rfl) (by kernel_rfl) ⟨⟨_, rfl, bu_c (by kernel_rfl) (by kernel_rfl)⟩, trivial⟩ ⟨lu (by kernel_rfl) (by kernel_rfl), lu (by kernel_rfl) (by kernel_rfl), lu (by kernel_rfl) (by kernel_rfl), lu (by kernel_rfl) (by kernel_rfl), lu (by kernel_rfl) (by kernel_rfl), lu (by kernel_rfl) (by kernel_rfl), trivial⟩)
    refine Sem.block ?_
    obtain ⟨r27, hr27, h⟩ := Option.bind_eq_some_iff.1 h
    refine Sem.loop (n := 100000) ?_
    refine Sem.cutN (SemN.wk (s1 := ⟨Fr 74 [(0, .v (.int .i64 x0)), (1, .v (.int .i64 x1)), (6, .pt 0 0 0), (8, hd 1 ([].map (cdL 1 (cdL 1 cdI)).enc)), (36, .v (.int .i64 x1)), (37, .v (.int .i64 0))], [some ⟨3, 72, [.ag [.v (.int .i64 j6.1), .v (.int .i64 j6.2.1), .sl 1 (j6.2.2.1.map cdI.enc)]], false⟩, mk 1 49 ([].map (cdL 1 (cdL 1 cdI)).enc)]⟩) (Wk.trans (s1 := ⟨Fr 74 [(0, .v (.int .i64 x0)), (1, .v (.int .i64 x1)), (6, .pt 0 0 0), (8, hd 1 ([].map (cdL 1 (cdL 1 cdI)).enc)), (36, .v (.int .i64 x1)), (37, .v (.int .i64 0))], [some ⟨3, 72, [.ag [.v (.int .i64 j6.1), .v (.int .i64 j6.2.1), .sl 1 (j6.2.2.1.map cdI.enc)]], false⟩, mk 1 49 ([].map (cdL 1 (cdL 1 cdI)).enc)]⟩) Wk.none (Wk.sel2 [0, 1] (by kernel_rfl) (by kernel_rfl) (by kernel_rfl) ⟨⟨_, rfl, bu_c (by kernel_rfl) (by kernel_rfl)⟩, ⟨_, rfl, bu_none⟩, trivial⟩ ⟨lu (by kernel_rfl) (by kernel_rfl), lu (by kernel_rfl) (by kernel_rfl), lu (by kernel_rfl) (by kernel_rfl), lu (by kernel_rfl) (by kernel_rfl), lu (by kernel_rfl) (by kernel_rfl), lu (by kernel_rfl) (by kernel_rfl), trivial⟩)) (evening_Net_1_ok x0 x1 j6 _ [] 0 _ hr27)) ?_
    refine Sem.seq ?_
    refine Sem.runS (s1 := ⟨Fr 74 [(4, hd 0 (r27.map (cdL 1 (cdL 1 cdI)).enc)), (5, .v (.int .i64 0))], [mk 1 49 (r27.map (cdL 1 (cdL 1 cdI)).enc)]⟩) ?_ ?_
    · refine RunS.segF (n := 74) e_evening_Net_ok 3 [(4, hd 0 (r27.map (cdL 1 (cdL 1 cdI)).enc)), (5, .v (.int .i64 0))] [mk 1 49 (r27.map (cdL 1 (cdL 1 cdI)).enc)] (by kernel_rfl) ?_
      exact RunS.done rfl (Wk.sel2 [0] (by kernel_rfl) (by kernel_rfl) (by kernel_rfl) ⟨⟨_, rfl, bu_mk⟩, trivial⟩ ⟨lu_hd (b' := 0) (by kernel_rfl) (by kernel_rfl), lu (by kernel_rfl) (by kernel_rfl), trivial⟩)
    refine Sem.ret ?_
    have hq := Option.some.inj h; subst hq
    exact ⟨⟨Fr 74 [(4, hd 0 (r27.map (cdL 1 (cdL 1 cdI)).enc)), (5, .v (.int .i64 0))], [mk 1 49 (r27.map (cdL 1 (cdL 1 cdI)).enc)]⟩, (Wk.sel2 [0] (by kernel_rfl) (by kernel_rfl) (by kernel_rfl) ⟨⟨_, rfl, bu_mk⟩, trivial⟩ ⟨lu_hd (b' := 0) (by kernel_rfl) (by kernel_rfl), lu (by kernel_rfl) (by kernel_rfl), trivial⟩), .inr rfl, [hd 0 (r27.map (cdL 1 (cdL 1 cdI)).enc), .v (.int .i64 0)], (by kernel_rfl), ⟨(by kernel_rfl), (by kernel_rfl)⟩⟩
theorem s_evening_Net (x0 : Int) (x1 : Int) (r : (List (List (List Int))) × Int) (h : evening_Net x0 x1 = some r) : SOk 46 (cs_evening_Net.enc (x0, x1, ())) (OutO (r.1.map (cdL 1 (cdL 1 cdI)).enc) (cdI.enc r.2) 1 49) :=
  sok_of_sem e_evening_Net_ok rfl rfl (fn := Tryd.f46) (c := cb_evening_Net) (by kernel_rfl) (by kernel_rfl) ⟨Tryd.call46⟩ (by show 2 ≤ 74; decide) (evening_Net_semO x0 x1 r h)
end Go.Proofs.YthofgamegondnaaDoor

namespace Go.Proofs.YthofgamegondnaaDoor
open Go.RowKit
/- trestle/evening.Plane -/
noncomputable def e_evening_Plane : Env := (E0.withX 74 t_evening_span)
theorem e_evening_Plane_ok : EnvOk e_evening_Plane := (EnvOk.withX E0_ok x_evening_span.1 x_evening_span.2)
noncomputable def cb_evening_Plane : Code := codeOf Tryd.f36
def evening_Plane_1 (x0 : Int) (v1 : (List (List (List Int))) × Int) : Nat → (List (List Int)) → Int → Option (((List (List Int))))
  | 0, _, _ => none
  | f + 1, c3, c4 =>
    if (decide (c4 < x0)) = true then
    (evening_span (wr .i64 (c4 * x0)) x0).bind fun v6 =>
    if (capOk 24 (c3.length + 1)) = true then
    evening_Plane_1 x0 v1 f (c3 ++ [v6]) (wr .i64 (c4 + 1))
    else none
    else
    some c3
def evening_Plane (x0 : Int) : Option ((List (List (List Int))) × Int) :=
  (evening_Net x0 x0).bind fun v1 =>
  if (v1.2 != 0) = true then
  some ([], v1.2)
  else
  (evening_Plane_1 x0 v1 100000 [] 0).bind fun r9 =>
  if (capOk 24 (v1.1.length + 1)) = true then
  some ((v1.1 ++ [r9]), 0)
  else none
def cs_evening_Plane : Cs (Int × Unit) := (csC cdI csN)
def er_evening_Plane (r : (List (List (List Int))) × Int) : AV := .tp [(cdL 1 (cdL 1 (cdL 1 cdI))).enc r.1, cdI.enc r.2]
set_option maxHeartbeats 4000000 in
set_option maxRecDepth 100000 in
theorem evening_Plane_1_ok (x0 : Int) (v1 : (List (List (List Int))) × Int) : ∀ (f : Nat) (c3 : (List (List Int))) (c4 : Int) (r : ((List (List Int)))), evening_Plane_1 x0 v1 f c3 c4 = some r → SemN e_evening_Plane ⟨none, false⟩ (pc cb_evening_Plane [1, 1, 1, 1, 0, 1, 0, 0]) f ⟨Fr 34 [(0, .v (.int .i64 x0)), (4, hd 0 (v1.1.map (cdL 1 (cdL 1 cdI)).enc)), (6, hd 1 (c3.map (cdL 1 cdI).enc)), (17, .v (.int .i64 x0)), (18, .v (.int .i64 c4))], [mk 1 49 (v1.1.map (cdL 1 (cdL 1 cdI)).enc), mk 1 24 (c3.map (cdL 1 cdI).enc)]⟩ (fun e s => e = (.exit 0) ∧ Wk e_evening_Plane s ⟨Fr 34 [(4, hd 0 (v1.1.map (cdL 1 (cdL 1 cdI)).enc)), (6, hd 1 (r.map (cdL 1 cdI).enc))], [mk 1 49 (v1.1.map (cdL 1 (cdL 1 cdI)).enc), mk 1 24 (r.map (cdL 1 cdI).enc)]⟩) := by
  intro f
  induction f with
  | zero => intro c3 c4 r h; cases h
  | succ f ih0 =>
    intro c3 c4 r h
    have ih := fun (c3 : (List (List Int))) (c4 : Int) => ih0 c3 c4 r
    unfold evening_Plane_1 at h
    refine SemN.succ ?_
    refine Sem.seq ?_
    refine Sem.runS (s1 := ⟨Fr 34 [(0, .v (.int .i64 x0)), (4, hd 0 (v1.1.map (cdL 1 (cdL 1 cdI)).enc)), (6, hd 1 (c3.map (cdL 1 cdI).enc)), (17, .v (.int .i64 x0)), (18, .v (.int .i64 c4)), (19, .v (.bool (decide (c4 < x0))))], [mk 1 49 (v1.1.map (cdL 1 (cdL 1 cdI)).enc), mk 1 24 (c3.map (cdL 1 cdI).enc)]⟩) ?_ ?_
    · refine RunS.segF (n := 34) e_evening_Plane_ok 1 [(0, .v (.int .i64 x0)), (4, hd 0 (v1.1.map (cdL 1 (cdL 1 cdI)).enc)), (6, hd 1 (c3.map (cdL 1 cdI).enc)), (17, .v (.int .i64 x0)), (18, .v (.int .i64 c4)), (19, .v (.bool (decide (c4 < x0))))] [mk 1 49 (v1.1.map (cdL 1 (cdL 1 cdI)).enc), mk 1 24 (c3.map (cdL 1 cdI).enc)] (by kernel_rfl) ?_
      exact RunS.done rfl (Wk.sel2 [0, 1] (by kernel_rfl) (by kernel_rfl) (by kernel_rfl) ⟨⟨_, rfl, bu_mk⟩, ⟨_, rfl, bu_mk⟩, trivial⟩ ⟨lu (by kernel_rfl) (by kernel_rfl), lu_hd (b' := 0) (by kernel_rfl) (by kernel_rfl), lu_hd (b' := 1) (by kernel_rfl) (by kernel_rfl), lu (by kernel_rfl) (by kernel_rfl), lu (by kernel_rfl) (by kernel_rfl), lu (by kernel_rfl) (by kernel_rfl), trivial⟩)
    refine Sem.seq ?_
    refine Sem.cond (b := (decide (c4 < x0))) (by kernel_rfl) (fun hb5 => ?_) (fun hb5 => ?_)
    · rw [if_pos hb5] at h
      refine Sem.skip ?_
      refine Sem.seq ?_
      refine Sem.block ?_
      refine Sem.seq ?_
      refine Sem.runS (s1 := ⟨Fr 34 [(0, .v (.int .i64 x0)), (4, hd 0 (v1.1.map (cdL 1 (cdL 1 cdI)).enc)), (6, hd 1 (c3.map (cdL 1 cdI).enc)), (7, .v (.int .i64 c4)), (17, .v (.int .i64 x0)), (18, .v (.int .i64 c4))], [mk 1 49 (v1.1.map (cdL 1 (cdL 1 cdI)).enc), mk 1 24 (c3.map (cdL 1 cdI).enc)]⟩) ?_ ?_
      · refine RunS.segF (n := 34) e_evening_Plane_ok 2 [(0, .v (.int .i64 x0)), (4, hd 0 (v1.1.map (cdL 1 (cdL 1 cdI)).enc)), (6, hd 1 (c3.map (cdL 1 cdI).enc)), (7, .v (.int .i64 c4)), (17, .v (.int .i64 x0)), (18, .v (.int .i64 c4))] [mk 1 49 (v1.1.map (cdL 1 (cdL 1 cdI)).enc), mk 1 24 (c3.map (cdL 1 cdI).enc)] (by kernel_rfl) ?_
        exact RunS.done rfl (Wk.sel2 [0, 1] (by kernel_rfl) (by kernel_rfl) (by kernel_rfl) ⟨⟨_, rfl, bu_mk⟩, ⟨_, rfl, bu_mk⟩, trivial⟩ ⟨lu (by kernel_rfl) (by kernel_rfl), lu_hd (b' := 0) (by kernel_rfl) (by kernel_rfl), lu_hd (b' := 1) (by kernel_rfl) (by kernel_rfl), lu (by kernel_rfl) (by kernel_rfl), lu (by kernel_rfl) (by kernel_rfl), lu (by kernel_rfl) (by kernel_rfl), trivial⟩)
      obtain ⟨v6, hv6, h⟩ := Option.bind_eq_some_iff.1 h
      by_cases hk7 : (capOk 24 (c3.length + 1)) = true
      case neg => rw [if_neg hk7] at h; cases h
      rw [if_pos hk7] at h
      refine Sem.runS (s1 := ⟨Fr 34 [(0, .v (.int .i64 x0)), (4, hd 0 (v1.1.map (cdL 1 (cdL 1 cdI)).enc)), (6, hd 1 ((c3 ++ [v6]).map (cdL 1 cdI).enc)), (17, .v (.int .i64 x0)), (18, .v (.int .i64 c4))], [mk 1 49 (v1.1.map (cdL 1 (cdL 1 cdI)).enc), mk 1 24 ((c3 ++ [v6]).map (cdL 1 cdI).enc)]⟩) ?_ ?_
      · refine RunS.segF (n := 34) e_evening_Plane_ok 5 [(0, .v (.int .i64 x0)), (4, hd 0 (v1.1.map (cdL 1 (cdL 1 cdI)).enc)), (17, .v (.int .i64 x0)), (18, .v (.int .i64 c4)), (21, hd 1 (c3.map (cdL 1 cdI).enc)), (24, .v (.int .i64 (wr .i64 (c4 * x0)))), (25, .v (.int .i64 x0))] [mk 1 49 (v1.1.map (cdL 1 (cdL 1 cdI)).enc), mk 1 24 (c3.map (cdL 1 cdI).enc)] (by kernel_rfl) ?_
        refine RunS.call e_evening_Plane_ok (fid := 74) (s := cs_evening_span) (F := fun a => evening_span a.1 a.2.1) (er := er_evening_span) (xs := [.v (.int .i64 (wr .i64 (c4 * x0))), .v (.int .i64 x0)]) (a := ((wr .i64 (c4 * x0)), x0, ())) rfl (wantedA_none rfl) (by kernel_rfl) (by kernel_rfl) (by kernel_rfl) (by kernel_rfl) (Sns.cons (Sn.enc (c := cdI) (v := (wr .i64 (c4 * x0)))) (Sns.cons (Sn.enc (c := cdI) (v := x0)) Sns.nil)) (.inl (by kernel_rfl)) hv6 ?_
        refine RunS.segF (n := 34) e_evening_Plane_ok 1 [(0, .v (.int .i64 x0)), (4, hd 0 (v1.1.map (cdL 1 (cdL 1 cdI)).enc)), (17, .v (.int .i64 x0)), (18, .v (.int .i64 c4)), (21, hd 1 (c3.map (cdL 1 cdI).enc)), (27, hd 2 ([v6].map (cdL 1 cdI).enc))] [mk 1 49 (v1.1.map (cdL 1 (cdL 1 cdI)).enc), mk 1 24 (c3.map (cdL 1 cdI).enc), mk 1 24 ([v6].map (cdL 1 cdI).enc)] (by kernel_rfl) ?_
        refine RunS.one e_evening_Plane_ok 0 rfl (op_w (wantedA_none rfl) rfl (by kernel_rfl) (by kernel_rfl) (w_append (a := hd 1 (c3.map (cdL 1 cdI).enc)) (b := hd 2 ([v6].map (cdL 1 cdI).enc)) (by kernel_rfl) (by kernel_rfl) (append_B (c := (cdL 1 cdI)) (xs := c3) (vs := [v6]) (k := 1) (bytes := 24) (el := 24) (by kernel_rfl) (by kernel_rfl) (elems_hd (t := 24) (by kernel_rfl)) (List.cons_ne_nil _ _) (by kernel_rfl) hk7))) ?_
        refine RunS.segF (n := 34) e_evening_Plane_ok 1 [(0, .v (.int .i64 x0)), (4, hd 0 (v1.1.map (cdL 1 (cdL 1 cdI)).enc)), (6, hd 3 ((c3 ++ [v6]).map (cdL 1 cdI).enc)), (17, .v (.int .i64 x0)), (18, .v (.int .i64 c4))] [mk 1 49 (v1.1.map (cdL 1 (cdL 1 cdI)).enc), none, mk 1 24 ([v6].map (cdL 1 cdI).enc), mk 1 24 ((c3 ++ [v6]).map (cdL 1 cdI).enc)] (by kernel_rfl) ?_
        exact RunS.done rfl (Wk.sel2 [0, 3] (by kernel_rfl) (by kernel_rfl) (by kernel_rfl) ⟨⟨_, rfl, bu_mk⟩, ⟨_, rfl, bu_mk⟩, trivial⟩ ⟨lu (by kernel_rfl) (by kernel_rfl), lu_hd (b' := 0) (by kernel_rfl) (by kernel_rfl), lu_hd (b' := 3) (by kernel_rfl) (by kernel_rfl), lu (by kernel_rfl) (by kernel_rfl), lu (by kernel_rfl) (by kernel_rfl), trivial⟩)
      refine Sem.runS (s1 := ⟨Fr 34 [(0, .v (.int .i64 x0)), (4, hd 0 (v1.1.map (cdL 1 (cdL 1 cdI)).enc)), (6, hd 1 ((c3 ++ [v6]).map (cdL 1 cdI).enc)), (17, .v (.int .i64 x0)), (18, .v (.int .i64 (wr .i64 (c4 + 1))))], [mk 1 49 (v1.1.map (cdL 1 (cdL 1 cdI)).enc), mk 1 24 ((c3 ++ [v6]).map (cdL 1 cdI).enc)]⟩) ?_ ?_
      · refine RunS.segF (n := 34) e_evening_Plane_ok 2 [(0, .v (.int .i64 x0)), (4, hd 0 (v1.1.map (cdL 1 (cdL 1 cdI)).enc)), (6, hd 1 ((c3 ++ [v6]).map (cdL 1 cdI).enc)), (17, .v (.int .i64 x0)), (18, .v (.int .i64 (wr .i64 (c4 + 1))))] [mk 1 49 (v1.1.map (cdL 1 (cdL 1 cdI)).enc), mk 1 24 ((c3 ++ [v6]).map (cdL 1 cdI).enc)] (by kernel_rfl) ?_
        exact RunS.done rfl (Wk.sel2 [0, 1] (by kernel_rfl) (by kernel_rfl) (by kernel_rfl) ⟨⟨_, rfl, bu_mk⟩, ⟨_, rfl, bu_mk⟩, trivial⟩ ⟨lu (by kernel_rfl) (by kernel_rfl), lu_hd (b' := 0) (by kernel_rfl) (by kernel_rfl), lu_hd (b' := 1) (by kernel_rfl) (by kernel_rfl), lu (by kernel_rfl) (by kernel_rfl), lu (by kernel_rfl) (by kernel_rfl), trivial⟩)
      exact SemN.wk (s1 := ⟨Fr 34 [(0, .v (.int .i64 x0)), (4, hd 0 (v1.1.map (cdL 1 (cdL 1 cdI)).enc)), (6, hd 1 ((c3 ++ [v6]).map (cdL 1 cdI).enc)), (17, .v (.int .i64 x0)), (18, .v (.int .i64 (wr .i64 (c4 + 1))))], [mk 1 49 (v1.1.map (cdL 1 (cdL 1 cdI)).enc), mk 1 24 ((c3 ++ [v6]).map (cdL 1 cdI).enc)]⟩) (Wk.sel2 [0, 1] (by kernel_rfl) (by kernel_rfl) (by kernel_rfl) ⟨⟨_, rfl, bu_mk⟩, ⟨_, rfl, bu_mk⟩, trivial⟩ ⟨lu (by kernel_rfl) (by kernel_rfl), lu_hd (b' := 0) (by kernel_rfl) (by kernel_rfl), lu_hd (b' := 1) (by kernel_rfl) (by kernel_rfl), lu (by kernel_rfl) (by kernel_rfl), lu (by kernel_rfl) (by kernel_rfl), trivial⟩) (ih (c3 ++ [v6]) (wr .i64 (c4 + 1)) h)
    · rw [if_f hb5] at h
      refine Sem.exit ?_
      have hq := Option.some.inj h; subst hq
      exact ⟨rfl, (Wk.sel2 [0, 1] (by kernel_rfl) (by kernel_rfl) (by kernel_rfl) ⟨⟨_, rfl, bu_mk⟩, ⟨_, rfl, bu_mk⟩, trivial⟩ ⟨lu_hd (b' := 0) (by kernel_rfl) (by kernel_rfl), lu_hd (b' := 1) (by kernel_rfl) (by kernel_rfl), trivial⟩)⟩
set_option maxHeartbeats 4000000 in
set_option maxRecDepth 100000 in
theorem evening_Plane_sem (x0 : Int) (r : (List (List (List Int))) × Int) (h : evening_Plane x0 = some r) : Sem e_evening_Plane ⟨none, false⟩ cb_evening_Plane ⟨Fr 34 (pairs0 0 (cs_evening_Plane.enc (x0, ()))), []⟩ fun e s' => (e = .normal ∨ e = .ret) ∧ ∃ xs, resA e_evening_Plane.P s'.fr s'.hp Tryd.f36.results.toList = some xs ∧ retA xs = er_evening_Plane r := by
  unfold evening_Plane at h
  refine Sem.wkQ (Sem.wk (s1 := ⟨Fr 34 [(0, .v (.int .i64 x0))], []⟩) (Wk.fr (by kernel_rfl)) ?_)
  refine Sem.seq ?_
  refine Sem.runS (s1 := ⟨Fr 34 [(0, .v (.int .i64 x0))], []⟩) ?_ ?_
  · refine RunS.segF (n := 34) e_evening_Plane_ok 2 [(0, .v (.int .i64 x0))] [] (by kernel_rfl) ?_
    exact RunS.done rfl (Wk.fr (by kernel_rfl))
  refine Sem.seq ?_
  obtain ⟨v1, hv1, h⟩ := Option.bind_eq_some_iff.1 h
  refine Sem.runS (s1 := ⟨Fr 34 [(0, .v (.int .i64 x0)), (4, hd 0 (v1.1.map (cdL 1 (cdL 1 cdI)).enc)), (5, .v (.int .i64 v1.2))], [mk 1 49 (v1.1.map (cdL 1 (cdL 1 cdI)).enc)]⟩) ?_ ?_
  · refine RunS.segF (n := 34) e_evening_Plane_ok 2 [(0, .v (.int .i64 x0)), (9, .v (.int .i64 x0)), (10, .v (.int .i64 x0))] [] (by kernel_rfl) ?_
    refine RunS.callO rfl rfl (s_evening_Net x0 x0 _ hv1) rfl (wantedA_none rfl) (by kernel_rfl) (by kernel_rfl) (by kernel_rfl) (noRf_map (c := (cdL 1 (cdL 1 cdI))) (fun _ => rfl) _) (by kernel_rfl) ?_
    refine RunS.segF (n := 34) e_evening_Plane_ok 5 [(0, .v (.int .i64 x0)), (4, hd 0 (v1.1.map (cdL 1 (cdL 1 cdI)).enc)), (5, .v (.int .i64 v1.2))] [mk 1 49 (v1.1.map (cdL 1 (cdL 1 cdI)).enc)] (by kernel_rfl) ?_
    exact RunS.done rfl (Wk.sel2 [0] (by kernel_rfl) (by kernel_rfl) (by kernel_rfl) ⟨⟨_, rfl, bu_mk⟩, trivial⟩ ⟨lu (by kernel_rfl) (by kernel_rfl), lu_hd (b' := 0) (by kernel_rfl) (by kernel_rfl), lu (by kernel_rfl) (by kernel_rfl), trivial⟩)
  refine Sem.seq ?_
  refine Sem.seq ?_
  refine Sem.runS (s1 := ⟨Fr 34 [(0, .v (.int .i64 x0)), (4, hd 0 (v1.1.map (cdL 1 (cdL 1 cdI)).enc)), (5, .v (.int .i64 v1.2)), (15, .v (.bool (v1.2 != 0)))], [mk 1 49 (v1.1.map (cdL 1 (cdL 1 cdI)).enc)]⟩) ?_ ?_
  · refine RunS.segF (n := 34) e_evening_Plane_ok 2 [(0, .v (.int .i64 x0)), (4, hd 0 (v1.1.map (cdL 1 (cdL 1 cdI)).enc)), (5, .v (.int .i64 v1.2)), (15, .v (.bool (v1.2 != 0)))] [mk 1 49 (v1.1.map (cdL 1 (cdL 1 cdI)).enc)] (by kernel_rfl) ?_
    exact RunS.done rfl (Wk.sel2 [0] (by kernel_rfl) (by kernel_rfl) (by kernel_rfl) ⟨⟨_, rfl, bu_mk⟩, trivial⟩ ⟨lu (by kernel_rfl) (by kernel_rfl), lu_hd (b' := 0) (by kernel_rfl) (by kernel_rfl), lu (by kernel_rfl) (by kernel_rfl), lu (by kernel_rfl) (by kernel_rfl), trivial⟩)
  refine Sem.cond (b := (v1.2 != 0)) (by kernel_rfl) (fun hb2 => ?_) (fun hb2 => ?_)
  · rw [if_pos hb2] at h
    refine Sem.seq ?_
    refine Sem.runS (s1 := ⟨Fr 34 [(2, .e0), (3, .v (.int .i64 v1.2))], []⟩) ?_ ?_
    · refine RunS.segF (n := 34) e_evening_Plane_ok 3 [(2, .e0), (3, .v (.int .i64 v1.2))] [mk 1 49 (v1.1.map (cdL 1 (cdL 1 cdI)).enc)] (by kernel_rfl) ?_
      exact RunS.done rfl (Wk.sel2 [] (by kernel_rfl) (by kernel_rfl) (by kernel_rfl) trivial ⟨lu (by kernel_rfl) (by kernel_rfl), lu (by kernel_rfl) (by kernel_rfl), trivial⟩)
    refine Sem.ret ?_
    have hq := Option.some.inj h; subst hq
    exact ⟨⟨Fr 34 [(2, .sl 1 ([].map (cdL 1 (cdL 1 cdI)).enc)), (3, .v (.int .i64 v1.2))], []⟩, (Wk.trans (s1 := ⟨Fr 34 [(2, .e0), (3, .v (.int .i64 v1.2))], []⟩) (Wk.fr (by kernel_rfl)) (Wk.trans (s1 := ⟨Fr 34 [(2, .e0), (3, .v (.int .i64 v1.2))], [none]⟩) Wk.none (Wk.trans (s1 := ⟨Fr 34 [(2, .sl 1 ([].map (cdL 1 (cdL 1 cdI)).enc)), (3, .v (.int .i64 v1.2))], [none]⟩) (Wk.frzG 0 (.inr (by kernel_rfl)) ⟨.inl rfl, trivial⟩ ⟨⟨.e0, (by kernel_rfl), fz_e0⟩, ⟨.v (.int .i64 v1.2), (by kernel_rfl), .inl rfl⟩, trivial⟩) (Wk.sel2 [] (by kernel_rfl) (by kernel_rfl) (by kernel_rfl) trivial ⟨lu (by kernel_rfl) (by kernel_rfl), lu (by kernel_rfl) (by kernel_rfl), trivial⟩)))), .inr rfl, [.sl 1 ([].map (cdL 1 (cdL 1 cdI)).enc), .v (.int .i64 v1.2)], (by kernel_rfl), (by kernel_rfl)⟩
  · rw [if_f hb2] at h
    refine Sem.skip ?_
    refine Sem.seq ?_
    refine Sem.runS (s1 := ⟨Fr 34 [(0, .v (.int .i64 x0)), (4, hd 0 (v1.1.map (cdL 1 (cdL 1 cdI)).enc)), (6, .e0)], [mk 1 49 (v1.1.map (cdL 1 (cdL 1 cdI)).enc)]⟩) ?_ ?_
    · refine RunS.segF (n := 34) e_evening_Plane_ok 1 [(0, .v (.int .i64 x0)), (4, hd 0 (v1.1.map (cdL 1 (cdL 1 cdI)).enc)), (6, .e0)] [mk 1 49 (v1.1.map (cdL 1 (cdL 1 cdI)).enc)] (by kernel_rfl) ?_
      exact RunS.done rfl (Wk.sel2 [0] (by kernel_rfl) (by kernel_rfl) (by kernel_rfl) ⟨⟨_, rfl, bu_mk⟩, trivial⟩ ⟨lu (by kernel_rfl) (by kernel_rfl), lu_hd (b' := 0) (by kernel_rfl) (by kernel_rfl), lu (by kernel_rfl) (by kernel_rfl), trivial⟩)
    refine Sem.seq ?_
    refine Sem.seq ?_
    refine Sem.runS (s1 := ⟨Fr 34 [(0, .v (.int .i64 x0)), (4, hd 0 (v1.1.map (cdL 1 (cdL 1 cdI)).enc)), (6, .e0), (17, .v (.int .i64 x0)), (18, .v (.int .i64 0))], [mk 1 49 (v1.1.map (cdL 1 (cdL 1 cdI)).enc)]⟩) ?_ ?_
    · refine RunS.segF (n := 34) e_evening_Plane_ok 2 [(0, .v (.int .i64 x0)), (4, hd 0 (v1.1.map (cdL 1 (cdL 1 cdI)).enc)), (6, .e0), (17, .v (.int .i64 x0)), (18, .v (.int .i64 0))] [mk 1 49 (v1.1.map (cdL 1 (cdL 1 cdI)).enc)] (by kernel_rfl) ?_
      exact RunS.done rfl (Wk.sel2 [0] (by kernel_rfl) (by kernel_rfl) (by kernel_rfl) ⟨⟨_, rfl, bu_mk⟩, trivial⟩ ⟨lu (by kernel_rfl) (by kernel_rfl), lu_hd (b' := 0) (by kernel_rfl) (by kernel_rfl), lu (by kernel_rfl) (by kernel_rfl), lu (by kernel_rfl) (by kernel_rfl), lu (by kernel_rfl) (by kernel_rfl), trivial⟩)
    refine Sem.block ?_
    obtain ⟨r9, hr9, h⟩ := Option.bind_eq_some_iff.1 h
    refine Sem.loop (n := 100000) ?_
    refine Sem.cutN (SemN.wk (s1 := ⟨Fr 34 [(0, .v (.int .i64 x0)), (4, hd 0 (v1.1.map (cdL 1 (cdL 1 cdI)).enc)), (6, hd 1 ([].map (cdL 1 cdI).enc)), (17, .v (.int .i64 x0)), (18, .v (.int .i64 0))], [mk 1 49 (v1.1.map (cdL 1 (cdL 1 cdI)).enc), mk 1 24 ([].map (cdL 1 cdI).enc)]⟩) (Wk.trans (s1 := ⟨Fr 34 [(0, .v (.int .i64 x0)), (4, hd 0 (v1.1.map (cdL 1 (cdL 1 cdI)).enc)), (6, hd 1 ([].map (cdL 1 cdI).enc)), (17, .v (.int .i64 x0)), (18, .v (.int .i64 0))], [mk 1 49 (v1.1.map (cdL 1 (cdL 1 cdI)).enc), mk 1 24 ([].map (cdL 1 cdI).enc)]⟩) Wk.none (Wk.sel2 [0, 1] (by kernel_rfl) (by kernel_rfl) (by kernel_rfl) ⟨⟨_, rfl, bu_mk⟩, ⟨_, rfl, bu_none⟩, trivial⟩ ⟨lu (by kernel_rfl) (by kernel_rfl), lu_hd (b' := 0) (by kernel_rfl) (by kernel_rfl), lu (by kernel_rfl) (by kernel_rfl), lu (by kernel_rfl) (by kernel_rfl), lu (by kernel_rfl) (by kernel_rfl), trivial⟩)) (evening_Plane_1_ok x0 v1 _ [] 0 _ hr9)) ?_
    refine Sem.seq ?_
    by_cases hk10 : (capOk 24 (v1.1.length + 1)) = true
    case neg => rw [if_neg hk10] at h; cases h
    rw [if_pos hk10] at h
    refine Sem.runS (s1 := ⟨Fr 34 [(2, hd 0 ((v1.1 ++ [r9]).map (cdL 1 (cdL 1 cdI)).enc)), (3, .v (.int .i64 0))], [mk 1 49 ((v1.1 ++ [r9]).map (cdL 1 (cdL 1 cdI)).enc)]⟩) ?_ ?_
    · refine RunS.segF (n := 34) e_evening_Plane_ok 2 [(30, hd 0 (v1.1.map (cdL 1 (cdL 1 cdI)).enc)), (31, hd 1 (r9.map (cdL 1 cdI).enc))] [mk 1 49 (v1.1.map (cdL 1 (cdL 1 cdI)).enc), mk 1 24 (r9.map (cdL 1 cdI).enc)] (by kernel_rfl) ?_
      refine RunS.wk (s1 := ⟨Fr 34 [(30, hd 0 (v1.1.map (cdL 1 (cdL 1 cdI)).enc)), (31, .sl 1 (r9.map (cdL 1 cdI).enc))], [mk 1 49 (v1.1.map (cdL 1 (cdL 1 cdI)).enc), none]⟩) (Wk.frzG 1 (.inl (by kernel_rfl)) ⟨.inr (.inl rfl), .inl rfl, trivial⟩ ⟨⟨hd 0 (v1.1.map (cdL 1 (cdL 1 cdI)).enc), (by kernel_rfl), .inl rfl⟩, ⟨hd 1 (r9.map (cdL 1 cdI).enc), (by kernel_rfl), fz_hd (t := 24) (by kernel_rfl) enc_ok⟩, trivial⟩) ?_
      refine RunS.segF (n := 34) e_evening_Plane_ok 1 [(30, hd 0 (v1.1.map (cdL 1 (cdL 1 cdI)).enc)), (32, hd 2 ([r9].map (cdL 1 (cdL 1 cdI)).enc))] [mk 1 49 (v1.1.map (cdL 1 (cdL 1 cdI)).enc), none, mk 1 49 ([r9].map (cdL 1 (cdL 1 cdI)).enc)] (by kernel_rfl) ?_
      refine RunS.one e_evening_Plane_ok 0 rfl (op_w (wantedA_none rfl) rfl (by kernel_rfl) (by kernel_rfl) (w_append (a := hd 0 (v1.1.map (cdL 1 (cdL 1 cdI)).enc)) (b := hd 2 ([r9].map (cdL 1 (cdL 1 cdI)).enc)) (by kernel_rfl) (by kernel_rfl) (append_B (c := (cdL 1 (cdL 1 cdI))) (xs := v1.1) (vs := [r9]) (k := 1) (bytes := 24) (el := 49) (by kernel_rfl) (by kernel_rfl) (elems_hd (t := 49) (by kernel_rfl)) (List.cons_ne_nil _ _) (by kernel_rfl) hk10))) ?_
      refine RunS.segF (n := 34) e_evening_Plane_ok 2 [(2, hd 3 ((v1.1 ++ [r9]).map (cdL 1 (cdL 1 cdI)).enc)), (3, .v (.int .i64 0))] [none, none, mk 1 49 ([r9].map (cdL 1 (cdL 1 cdI)).enc), mk 1 49 ((v1.1 ++ [r9]).map (cdL 1 (cdL 1 cdI)).enc)] (by kernel_rfl) ?_
      exact RunS.done rfl (Wk.sel2 [3] (by kernel_rfl) (by kernel_rfl) (by kernel_rfl) ⟨⟨_, rfl, bu_mk⟩, trivial⟩ ⟨lu_hd (b' := 3) (by kernel_rfl) (by kernel_rfl), lu (by kernel_rfl) (by kernel_rfl), trivial⟩)
    refine Sem.ret ?_
    have hq := Option.some.inj h; subst hq
    exact ⟨⟨Fr 34 [(2, .sl 1 ((v1.1 ++ [r9]).map (cdL 1 (cdL 1 cdI)).enc)), (3, .v (.int .i64 0))], []⟩, (Wk.trans (s1 := ⟨Fr 34 [(2, .sl 1 ((v1.1 ++ [r9]).map (cdL 1 (cdL 1 cdI)).enc)), (3, .v (.int .i64 0))], [none]⟩) (Wk.frzG 0 (.inl (by kernel_rfl)) ⟨.inl rfl, trivial⟩ ⟨⟨hd 0 ((v1.1 ++ [r9]).map (cdL 1 (cdL 1 cdI)).enc), (by kernel_rfl), fz_hd (t := 49) (by kernel_rfl) enc_ok⟩, ⟨.v (.int .i64 0), (by kernel_rfl), .inl rfl⟩, trivial⟩) (Wk.sel2 [] (by kernel_rfl) (by kernel_rfl) (by kernel_rfl) trivial ⟨lu (by kernel_rfl) (by kernel_rfl), lu (by kernel_rfl) (by kernel_rfl), trivial⟩)), .inr rfl, [.sl 1 ((v1.1 ++ [r9]).map (cdL 1 (cdL 1 cdI)).enc), .v (.int .i64 0)], (by kernel_rfl), (by kernel_rfl)⟩
def t_evening_Plane : List AV → Option AV := told cs_evening_Plane (fun a => evening_Plane a.1) er_evening_Plane
theorem x_evening_Plane : XOk 36 t_evening_Plane := by
  refine EnvOk.x (E := e_evening_Plane) (contract_ok e_evening_Plane_ok (fn := Tryd.f36) (c := cb_evening_Plane) ?h1 ?h2 ⟨Tryd.call36⟩ cs_evening_Plane (fun a => evening_Plane a.1) er_evening_Plane (fun a => (by show 1 ≤ 34; decide)) ?h3 ?h4) rfl rfl
  case h1 => kernel_rfl
  case h2 => kernel_rfl
  case h3 => intro b; kernel_rfl
  case h4 => exact fun a b h => evening_Plane_sem a.1 b h
end Go.Proofs.YthofgamegondnaaDoor

namespace Go.Proofs.YthofgamegondnaaDoor
open Go.RowKit
/- trestle/evening.Kirkman -/
noncomputable def e_evening_Kirkman : Env := E0
theorem e_evening_Kirkman_ok : EnvOk e_evening_Kirkman := E0_ok
noncomputable def cb_evening_Kirkman : Code := codeOf Tryd.f37

noncomputable def e_evening_Kirkman_k1 : Env := E0
theorem e_evening_Kirkman_k1_ok : EnvOk e_evening_Kirkman_k1 := E0_ok
noncomputable def cb_evening_Kirkman_k1 : Code := codeOf Tryd.f75
def evening_Kirkman_k1 (y0 : (List (List (List Int)))) (y1 : Int) : Option (Int) :=
  some (y1.tmod 7)
set_option maxHeartbeats 4000000 in
set_option maxRecDepth 100000 in
theorem evening_Kirkman_k1_sem (y0 : (List (List (List Int)))) (y1 : Int) (r : Int) (h : evening_Kirkman_k1 y0 y1 = some r) : SemY e_evening_Kirkman_k1 ⟨none, false⟩ cb_evening_Kirkman_k1 ⟨Fr 5 (pairs0 0 [.v (.int .i64 y1)]), [mk 1 49 (y0.map (cdL 1 (cdL 1 cdI)).enc)]⟩ fun x s' => (x = .normal ∨ x = .ret) ∧ ∃ ys, resA e_evening_Kirkman_k1.P s'.fr s'.hp Tryd.f75.results.toList = some ys ∧ (retA ys = .v (.int .i64 r) ∧ s'.hp = [mk 1 49 (y0.map (cdL 1 (cdL 1 cdI)).enc)]) := by
  unfold evening_Kirkman_k1 at h
  refine SemY.seq ?_
  refine SemY.region ?_
  refine RunY.segF (n := 5) e_evening_Kirkman_k1_ok 1 [(0, .v (.int .i64 y1))] [mk 1 49 (y0.map (cdL 1 (cdL 1 cdI)).enc)] (by kernel_rfl) ?_
  refine RunY.done rfl (SemY.fr (l' := [(0, .v (.int .i64 y1))]) (by kernel_rfl) ?_)
  refine SemY.seq ?_
  refine SemY.region ?_
  refine RunY.segF (n := 5) e_evening_Kirkman_k1_ok 3 [(2, .v (.int .i64 (y1.tmod 7)))] [mk 1 49 (y0.map (cdL 1 (cdL 1 cdI)).enc)] (by kernel_rfl) ?_
  refine RunY.done rfl (SemY.fr (l' := [(2, .v (.int .i64 (y1.tmod 7)))]) (by kernel_rfl) ?_)
  refine SemY.ret ?_
  have hq := Option.some.inj h; subst hq
  exact ⟨.inr rfl, [.v (.int .i64 (y1.tmod 7))], (by kernel_rfl), (by kernel_rfl), (by kernel_rfl)⟩

noncomputable def e_evening_Kirkman_k2 : Env := E0
theorem e_evening_Kirkman_k2_ok : EnvOk e_evening_Kirkman_k2 := E0_ok
noncomputable def cb_evening_Kirkman_k2 : Code := codeOf Tryd.f76
def evening_Kirkman_k2 (y0 : (List (List (List Int)))) (y1 : Int) : Option (Int) :=
  some (wr .i64 (7 + (y1.tmod 7)))
set_option maxHeartbeats 4000000 in
set_option maxRecDepth 100000 in
theorem evening_Kirkman_k2_sem (y0 : (List (List (List Int)))) (y1 : Int) (r : Int) (h : evening_Kirkman_k2 y0 y1 = some r) : SemY e_evening_Kirkman_k2 ⟨none, false⟩ cb_evening_Kirkman_k2 ⟨Fr 6 (pairs0 0 [.v (.int .i64 y1)]), [mk 1 49 (y0.map (cdL 1 (cdL 1 cdI)).enc)]⟩ fun x s' => (x = .normal ∨ x = .ret) ∧ ∃ ys, resA e_evening_Kirkman_k2.P s'.fr s'.hp Tryd.f76.results.toList = some ys ∧ (retA ys = .v (.int .i64 r) ∧ s'.hp = [mk 1 49 (y0.map (cdL 1 (cdL 1 cdI)).enc)]) := by
  unfold evening_Kirkman_k2 at h
  refine SemY.seq ?_
  refine SemY.region ?_
  refine RunY.segF (n := 6) e_evening_Kirkman_k2_ok 1 [(0, .v (.int .i64 y1))] [mk 1 49 (y0.map (cdL 1 (cdL 1 cdI)).enc)] (by kernel_rfl) ?_
  refine RunY.done rfl (SemY.fr (l' := [(0, .v (.int .i64 y1))]) (by kernel_rfl) ?_)
  refine SemY.seq ?_
  refine SemY.region ?_
  refine RunY.segF (n := 6) e_evening_Kirkman_k2_ok 4 [(2, .v (.int .i64 (wr .i64 (7 + (y1.tmod 7)))))] [mk 1 49 (y0.map (cdL 1 (cdL 1 cdI)).enc)] (by kernel_rfl) ?_
  refine RunY.done rfl (SemY.fr (l' := [(2, .v (.int .i64 (wr .i64 (7 + (y1.tmod 7)))))]) (by kernel_rfl) ?_)
  refine SemY.ret ?_
  have hq := Option.some.inj h; subst hq
  exact ⟨.inr rfl, [.v (.int .i64 (wr .i64 (7 + (y1.tmod 7))))], (by kernel_rfl), (by kernel_rfl), (by kernel_rfl)⟩

noncomputable def e_evening_Kirkman_k3 : Env := E0
theorem e_evening_Kirkman_k3_ok : EnvOk e_evening_Kirkman_k3 := E0_ok
noncomputable def cb_evening_Kirkman_k3 : Code := codeOf Tryd.f75
def evening_Kirkman_k3 (y0 : (List (List (List Int)))) (y1 : (List Int)) (y2 : Int) : Option (Int) :=
  some (y2.tmod 7)
set_option maxHeartbeats 4000000 in
set_option maxRecDepth 100000 in
theorem evening_Kirkman_k3_sem (y0 : (List (List (List Int)))) (y1 : (List Int)) (y2 : Int) (r : Int) (h : evening_Kirkman_k3 y0 y1 y2 = some r) : SemY e_evening_Kirkman_k3 ⟨none, false⟩ cb_evening_Kirkman_k3 ⟨Fr 5 (pairs0 0 [.v (.int .i64 y2)]), [mk 1 49 (y0.map (cdL 1 (cdL 1 cdI)).enc), mk 1 3 (y1.map cdI.enc)]⟩ fun x s' => (x = .normal ∨ x = .ret) ∧ ∃ ys, resA e_evening_Kirkman_k3.P s'.fr s'.hp Tryd.f75.results.toList = some ys ∧ (retA ys = .v (.int .i64 r) ∧ s'.hp = [mk 1 49 (y0.map (cdL 1 (cdL 1 cdI)).enc), mk 1 3 (y1.map cdI.enc)]) := by
  unfold evening_Kirkman_k3 at h
  refine SemY.seq ?_
  refine SemY.region ?_
  refine RunY.segF (n := 5) e_evening_Kirkman_k3_ok 1 [(0, .v (.int .i64 y2))] [mk 1 49 (y0.map (cdL 1 (cdL 1 cdI)).enc), mk 1 3 (y1.map cdI.enc)] (by kernel_rfl) ?_
  refine RunY.done rfl (SemY.fr (l' := [(0, .v (.int .i64 y2))]) (by kernel_rfl) ?_)
  refine SemY.seq ?_
  refine SemY.region ?_
  refine RunY.segF (n := 5) e_evening_Kirkman_k3_ok 3 [(2, .v (.int .i64 (y2.tmod 7)))] [mk 1 49 (y0.map (cdL 1 (cdL 1 cdI)).enc), mk 1 3 (y1.map cdI.enc)] (by kernel_rfl) ?_
  refine RunY.done rfl (SemY.fr (l' := [(2, .v (.int .i64 (y2.tmod 7)))]) (by kernel_rfl) ?_)
  refine SemY.ret ?_
  have hq := Option.some.inj h; subst hq
  exact ⟨.inr rfl, [.v (.int .i64 (y2.tmod 7))], (by kernel_rfl), (by kernel_rfl), (by kernel_rfl)⟩

noncomputable def e_evening_Kirkman_k4 : Env := E0
theorem e_evening_Kirkman_k4_ok : EnvOk e_evening_Kirkman_k4 := E0_ok
noncomputable def cb_evening_Kirkman_k4 : Code := codeOf Tryd.f76
def evening_Kirkman_k4 (y0 : (List (List (List Int)))) (y1 : (List Int)) (y2 : Int) : Option (Int) :=
  some (wr .i64 (7 + (y2.tmod 7)))
set_option maxHeartbeats 4000000 in
set_option maxRecDepth 100000 in
theorem evening_Kirkman_k4_sem (y0 : (List (List (List Int)))) (y1 : (List Int)) (y2 : Int) (r : Int) (h : evening_Kirkman_k4 y0 y1 y2 = some r) : SemY e_evening_Kirkman_k4 ⟨none, false⟩ cb_evening_Kirkman_k4 ⟨Fr 6 (pairs0 0 [.v (.int .i64 y2)]), [mk 1 49 (y0.map (cdL 1 (cdL 1 cdI)).enc), mk 1 3 (y1.map cdI.enc)]⟩ fun x s' => (x = .normal ∨ x = .ret) ∧ ∃ ys, resA e_evening_Kirkman_k4.P s'.fr s'.hp Tryd.f76.results.toList = some ys ∧ (retA ys = .v (.int .i64 r) ∧ s'.hp = [mk 1 49 (y0.map (cdL 1 (cdL 1 cdI)).enc), mk 1 3 (y1.map cdI.enc)]) := by
  unfold evening_Kirkman_k4 at h
  refine SemY.seq ?_
  refine SemY.region ?_
  refine RunY.segF (n := 6) e_evening_Kirkman_k4_ok 1 [(0, .v (.int .i64 y2))] [mk 1 49 (y0.map (cdL 1 (cdL 1 cdI)).enc), mk 1 3 (y1.map cdI.enc)] (by kernel_rfl) ?_
  refine RunY.done rfl (SemY.fr (l' := [(0, .v (.int .i64 y2))]) (by kernel_rfl) ?_)
  refine SemY.seq ?_
  refine SemY.region ?_
  refine RunY.segF (n := 6) e_evening_Kirkman_k4_ok 4 [(2, .v (.int .i64 (wr .i64 (7 + (y2.tmod 7)))))] [mk 1 49 (y0.map (cdL 1 (cdL 1 cdI)).enc), mk 1 3 (y1.map cdI.enc)] (by kernel_rfl) ?_
  refine RunY.done rfl (SemY.fr (l' := [(2, .v (.int .i64 (wr .i64 (7 + (y2.tmod 7)))))]) (by kernel_rfl) ?_)
  refine SemY.ret ?_
  have hq := Option.some.inj h; subst hq
  exact ⟨.inr rfl, [.v (.int .i64 (wr .i64 (7 + (y2.tmod 7))))], (by kernel_rfl), (by kernel_rfl), (by kernel_rfl)⟩

noncomputable def e_evening_Kirkman_k5 : Env := E0
theorem e_evening_Kirkman_k5_ok : EnvOk e_evening_Kirkman_k5 := E0_ok
noncomputable def cb_evening_Kirkman_k5 : Code := codeOf Tryd.f75
def evening_Kirkman_k5 (y0 : (List (List (List Int)))) (y1 : (List Int)) (y2 : (List Int)) (y3 : Int) : Option (Int) :=
  some (y3.tmod 7)
set_option maxHeartbeats 4000000 in
set_option maxRecDepth 100000 in
theorem evening_Kirkman_k5_sem (y0 : (List (List (List Int)))) (y1 : (List Int)) (y2 : (List Int)) (y3 : Int) (r : Int) (h : evening_Kirkman_k5 y0 y1 y2 y3 = some r) : SemY e_evening_Kirkman_k5 ⟨none, false⟩ cb_evening_Kirkman_k5 ⟨Fr 5 (pairs0 0 [.v (.int .i64 y3)]), [mk 1 49 (y0.map (cdL 1 (cdL 1 cdI)).enc), mk 1 3 (y1.map cdI.enc), mk 1 3 (y2.map cdI.enc)]⟩ fun x s' => (x = .normal ∨ x = .ret) ∧ ∃ ys, resA e_evening_Kirkman_k5.P s'.fr s'.hp Tryd.f75.results.toList = some ys ∧ (retA ys = .v (.int .i64 r) ∧ s'.hp = [mk 1 49 (y0.map (cdL 1 (cdL 1 cdI)).enc), mk 1 3 (y1.map cdI.enc), mk 1 3 (y2.map cdI.enc)]) := by
  unfold evening_Kirkman_k5 at h
  refine SemY.seq ?_
  refine SemY.region ?_
  refine RunY.segF (n := 5) e_evening_Kirkman_k5_ok 1 [(0, .v (.int .i64 y3))] [mk 1 49 (y0.map (cdL 1 (cdL 1 cdI)).enc), mk 1 3 (y1.map cdI.enc), mk 1 3 (y2.map cdI.enc)] (by kernel_rfl) ?_
  refine RunY.done rfl (SemY.fr (l' := [(0, .v (.int .i64 y3))]) (by kernel_rfl) ?_)
  refine SemY.seq ?_
  refine SemY.region ?_
  refine RunY.segF (n := 5) e_evening_Kirkman_k5_ok 3 [(2, .v (.int .i64 (y3.tmod 7)))] [mk 1 49 (y0.map (cdL 1 (cdL 1 cdI)).enc), mk 1 3 (y1.map cdI.enc), mk 1 3 (y2.map cdI.enc)] (by kernel_rfl) ?_
  refine RunY.done rfl (SemY.fr (l' := [(2, .v (.int .i64 (y3.tmod 7)))]) (by kernel_rfl) ?_)
  refine SemY.ret ?_
  have hq := Option.some.inj h; subst hq
  exact ⟨.inr rfl, [.v (.int .i64 (y3.tmod 7))], (by kernel_rfl), (by kernel_rfl), (by kernel_rfl)⟩

noncomputable def e_evening_Kirkman_k6 : Env := E0
theorem e_evening_Kirkman_k6_ok : EnvOk e_evening_Kirkman_k6 := E0_ok
noncomputable def cb_evening_Kirkman_k6 : Code := codeOf Tryd.f76
def evening_Kirkman_k6 (y0 : (List (List (List Int)))) (y1 : (List Int)) (y2 : (List Int)) (y3 : Int) : Option (Int) :=
  some (wr .i64 (7 + (y3.tmod 7)))
set_option maxHeartbeats 4000000 in
set_option maxRecDepth 100000 in
theorem evening_Kirkman_k6_sem (y0 : (List (List (List Int)))) (y1 : (List Int)) (y2 : (List Int)) (y3 : Int) (r : Int) (h : evening_Kirkman_k6 y0 y1 y2 y3 = some r) : SemY e_evening_Kirkman_k6 ⟨none, false⟩ cb_evening_Kirkman_k6 ⟨Fr 6 (pairs0 0 [.v (.int .i64 y3)]), [mk 1 49 (y0.map (cdL 1 (cdL 1 cdI)).enc), mk 1 3 (y1.map cdI.enc), mk 1 3 (y2.map cdI.enc)]⟩ fun x s' => (x = .normal ∨ x = .ret) ∧ ∃ ys, resA e_evening_Kirkman_k6.P s'.fr s'.hp Tryd.f76.results.toList = some ys ∧ (retA ys = .v (.int .i64 r) ∧ s'.hp = [mk 1 49 (y0.map (cdL 1 (cdL 1 cdI)).enc), mk 1 3 (y1.map cdI.enc), mk 1 3 (y2.map cdI.enc)]) := by
  unfold evening_Kirkman_k6 at h
  refine SemY.seq ?_
  refine SemY.region ?_
  refine RunY.segF (n := 6) e_evening_Kirkman_k6_ok 1 [(0, .v (.int .i64 y3))] [mk 1 49 (y0.map (cdL 1 (cdL 1 cdI)).enc), mk 1 3 (y1.map cdI.enc), mk 1 3 (y2.map cdI.enc)] (by kernel_rfl) ?_
  refine RunY.done rfl (SemY.fr (l' := [(0, .v (.int .i64 y3))]) (by kernel_rfl) ?_)
  refine SemY.seq ?_
  refine SemY.region ?_
  refine RunY.segF (n := 6) e_evening_Kirkman_k6_ok 4 [(2, .v (.int .i64 (wr .i64 (7 + (y3.tmod 7)))))] [mk 1 49 (y0.map (cdL 1 (cdL 1 cdI)).enc), mk 1 3 (y1.map cdI.enc), mk 1 3 (y2.map cdI.enc)] (by kernel_rfl) ?_
  refine RunY.done rfl (SemY.fr (l' := [(2, .v (.int .i64 (wr .i64 (7 + (y3.tmod 7)))))]) (by kernel_rfl) ?_)
  refine SemY.ret ?_
  have hq := Option.some.inj h; subst hq
  exact ⟨.inr rfl, [.v (.int .i64 (wr .i64 (7 + (y3.tmod 7))))], (by kernel_rfl), (by kernel_rfl), (by kernel_rfl)⟩

noncomputable def e_evening_Kirkman_k7 : Env := E0
theorem e_evening_Kirkman_k7_ok : EnvOk e_evening_Kirkman_k7 := E0_ok
noncomputable def cb_evening_Kirkman_k7 : Code := codeOf Tryd.f75
def evening_Kirkman_k7 (y0 : (List (List (List Int)))) (y1 : (List Int)) (y2 : (List Int)) (y3 : (List Int)) (y4 : Int) : Option (Int) :=
  some (y4.tmod 7)
set_option maxHeartbeats 4000000 in
set_option maxRecDepth 100000 in
theorem evening_Kirkman_k7_sem (y0 : (List (List (List Int)))) (y1 : (List Int)) (y2 : (List Int)) (y3 : (List Int)) (y4 : Int) (r : Int) (h : evening_Kirkman_k7 y0 y1 y2 y3 y4 = some r) : SemY e_evening_Kirkman_k7 ⟨none, false⟩ cb_evening_Kirkman_k7 ⟨Fr 5 (pairs0 0 [.v (.int .i64 y4)]), [mk 1 49 (y0.map (cdL 1 (cdL 1 cdI)).enc), mk 1 3 (y1.map cdI.enc), mk 1 3 (y2.map cdI.enc), mk 1 3 (y3.map cdI.enc)]⟩ fun x s' => (x = .normal ∨ x = .ret) ∧ ∃ ys, resA e_evening_Kirkman_k7.P s'.fr s'.hp Tryd.f75.results.toList = some ys ∧ (retA ys = .v (.int .i64 r) ∧ s'.hp = [mk 1 49 (y0.map (cdL 1 (cdL 1 cdI)).enc), mk 1 3 (y1.map cdI.enc), mk 1 3 (y2.map cdI.enc), mk 1 3 (y3.map cdI.enc)]) := by
  unfold evening_Kirkman_k7 at h
  refine SemY.seq ?_
  refine SemY.region ?_
  refine RunY.segF (n := 5) e_evening_Kirkman_k7_ok 1 [(0, .v (.int .i64 y4))] [mk 1 49 (y0.map (cdL 1 (cdL 1 cdI)).enc), mk 1 3 (y1.map cdI.enc), mk 1 3 (y2.map cdI.enc), mk 1 3 (y3.map cdI.enc)] (by kernel_rfl) ?_
  refine RunY.done rfl (SemY.fr (l' := [(0, .v (.int .i64 y4))]) (by kernel_rfl) ?_)
  refine SemY.seq ?_
  refine SemY.region ?_
  refine RunY.segF (n := 5) e_evening_Kirkman_k7_ok 3 [(2, .v (.int .i64 (y4.tmod 7)))] [mk 1 49 (y0.map (cdL 1 (cdL 1 cdI)).enc), mk 1 3 (y1.map cdI.enc), mk 1 3 (y2.map cdI.enc), mk 1 3 (y3.map cdI.enc)] (by kernel_rfl) ?_
  refine RunY.done rfl (SemY.fr (l' := [(2, .v (.int .i64 (y4.tmod 7)))]) (by kernel_rfl) ?_)
  refine SemY.ret ?_
  have hq := Option.some.inj h; subst hq
  exact ⟨.inr rfl, [.v (.int .i64 (y4.tmod 7))], (by kernel_rfl), (by kernel_rfl), (by kernel_rfl)⟩

noncomputable def e_evening_Kirkman_k8 : Env := E0
theorem e_evening_Kirkman_k8_ok : EnvOk e_evening_Kirkman_k8 := E0_ok
noncomputable def cb_evening_Kirkman_k8 : Code := codeOf Tryd.f76
def evening_Kirkman_k8 (y0 : (List (List (List Int)))) (y1 : (List Int)) (y2 : (List Int)) (y3 : (List Int)) (y4 : Int) : Option (Int) :=
  some (wr .i64 (7 + (y4.tmod 7)))
set_option maxHeartbeats 4000000 in
set_option maxRecDepth 100000 in
theorem evening_Kirkman_k8_sem (y0 : (List (List (List Int)))) (y1 : (List Int)) (y2 : (List Int)) (y3 : (List Int)) (y4 : Int) (r : Int) (h : evening_Kirkman_k8 y0 y1 y2 y3 y4 = some r) : SemY e_evening_Kirkman_k8 ⟨none, false⟩ cb_evening_Kirkman_k8 ⟨Fr 6 (pairs0 0 [.v (.int .i64 y4)]), [mk 1 49 (y0.map (cdL 1 (cdL 1 cdI)).enc), mk 1 3 (y1.map cdI.enc), mk 1 3 (y2.map cdI.enc), mk 1 3 (y3.map cdI.enc)]⟩ fun x s' => (x = .normal ∨ x = .ret) ∧ ∃ ys, resA e_evening_Kirkman_k8.P s'.fr s'.hp Tryd.f76.results.toList = some ys ∧ (retA ys = .v (.int .i64 r) ∧ s'.hp = [mk 1 49 (y0.map (cdL 1 (cdL 1 cdI)).enc), mk 1 3 (y1.map cdI.enc), mk 1 3 (y2.map cdI.enc), mk 1 3 (y3.map cdI.enc)]) := by
  unfold evening_Kirkman_k8 at h
  refine SemY.seq ?_
  refine SemY.region ?_
  refine RunY.segF (n := 6) e_evening_Kirkman_k8_ok 1 [(0, .v (.int .i64 y4))] [mk 1 49 (y0.map (cdL 1 (cdL 1 cdI)).enc), mk 1 3 (y1.map cdI.enc), mk 1 3 (y2.map cdI.enc), mk 1 3 (y3.map cdI.enc)] (by kernel_rfl) ?_
  refine RunY.done rfl (SemY.fr (l' := [(0, .v (.int .i64 y4))]) (by kernel_rfl) ?_)
  refine SemY.seq ?_
  refine SemY.region ?_
  refine RunY.segF (n := 6) e_evening_Kirkman_k8_ok 4 [(2, .v (.int .i64 (wr .i64 (7 + (y4.tmod 7)))))] [mk 1 49 (y0.map (cdL 1 (cdL 1 cdI)).enc), mk 1 3 (y1.map cdI.enc), mk 1 3 (y2.map cdI.enc), mk 1 3 (y3.map cdI.enc)] (by kernel_rfl) ?_
  refine RunY.done rfl (SemY.fr (l' := [(2, .v (.int .i64 (wr .i64 (7 + (y4.tmod 7)))))]) (by kernel_rfl) ?_)
  refine SemY.ret ?_
  have hq := Option.some.inj h; subst hq
  exact ⟨.inr rfl, [.v (.int .i64 (wr .i64 (7 + (y4.tmod 7))))], (by kernel_rfl), (by kernel_rfl), (by kernel_rfl)⟩

noncomputable def e_evening_Kirkman_k9 : Env := E0
theorem e_evening_Kirkman_k9_ok : EnvOk e_evening_Kirkman_k9 := E0_ok
noncomputable def cb_evening_Kirkman_k9 : Code := codeOf Tryd.f76
def evening_Kirkman_k9 (y0 : (List (List (List Int)))) (y1 : (List Int)) (y2 : (List Int)) (y3 : (List Int)) (y4 : (List Int)) (y5 : Int) : Option (Int) :=
  some (wr .i64 (7 + (y5.tmod 7)))
set_option maxHeartbeats 4000000 in
set_option maxRecDepth 100000 in
theorem evening_Kirkman_k9_sem (y0 : (List (List (List Int)))) (y1 : (List Int)) (y2 : (List Int)) (y3 : (List Int)) (y4 : (List Int)) (y5 : Int) (r : Int) (h : evening_Kirkman_k9 y0 y1 y2 y3 y4 y5 = some r) : SemY e_evening_Kirkman_k9 ⟨none, false⟩ cb_evening_Kirkman_k9 ⟨Fr 6 (pairs0 0 [.v (.int .i64 y5)]), [mk 1 49 (y0.map (cdL 1 (cdL 1 cdI)).enc), mk 1 3 (y1.map cdI.enc), mk 1 3 (y2.map cdI.enc), mk 1 3 (y3.map cdI.enc), mk 1 3 (y4.map cdI.enc)]⟩ fun x s' => (x = .normal ∨ x = .ret) ∧ ∃ ys, resA e_evening_Kirkman_k9.P s'.fr s'.hp Tryd.f76.results.toList = some ys ∧ (retA ys = .v (.int .i64 r) ∧ s'.hp = [mk 1 49 (y0.map (cdL 1 (cdL 1 cdI)).enc), mk 1 3 (y1.map cdI.enc), mk 1 3 (y2.map cdI.enc), mk 1 3 (y3.map cdI.enc), mk 1 3 (y4.map cdI.enc)]) := by
  unfold evening_Kirkman_k9 at h
  refine SemY.seq ?_
  refine SemY.region ?_
  refine RunY.segF (n := 6) e_evening_Kirkman_k9_ok 1 [(0, .v (.int .i64 y5))] [mk 1 49 (y0.map (cdL 1 (cdL 1 cdI)).enc), mk 1 3 (y1.map cdI.enc), mk 1 3 (y2.map cdI.enc), mk 1 3 (y3.map cdI.enc), mk 1 3 (y4.map cdI.enc)] (by kernel_rfl) ?_
  refine RunY.done rfl (SemY.fr (l' := [(0, .v (.int .i64 y5))]) (by kernel_rfl) ?_)
  refine SemY.seq ?_
  refine SemY.region ?_
  refine RunY.segF (n := 6) e_evening_Kirkman_k9_ok 4 [(2, .v (.int .i64 (wr .i64 (7 + (y5.tmod 7)))))] [mk 1 49 (y0.map (cdL 1 (cdL 1 cdI)).enc), mk 1 3 (y1.map cdI.enc), mk 1 3 (y2.map cdI.enc), mk 1 3 (y3.map cdI.enc), mk 1 3 (y4.map cdI.enc)] (by kernel_rfl) ?_
  refine RunY.done rfl (SemY.fr (l' := [(2, .v (.int .i64 (wr .i64 (7 + (y5.tmod 7)))))]) (by kernel_rfl) ?_)
  refine SemY.ret ?_
  have hq := Option.some.inj h; subst hq
  exact ⟨.inr rfl, [.v (.int .i64 (wr .i64 (7 + (y5.tmod 7))))], (by kernel_rfl), (by kernel_rfl), (by kernel_rfl)⟩
def evening_Kirkman_1  : Nat → (List (List (List Int))) → Int → Option (((List (List (List Int)))))
  | 0, _, _ => none
  | f + 1, c1, c2 =>
    if (decide (c2 < 7)) = true then
    (evening_Kirkman_k1 c1 c2).bind fun v4 =>
    (evening_Kirkman_k2 c1 c2).bind fun v5 =>
    (evening_Kirkman_k3 c1 [14, v4, v5] (wr .i64 (1 + c2))).bind fun v6 =>
    (evening_Kirkman_k3 c1 [14, v4, v5] (wr .i64 (6 + c2))).bind fun v7 =>
    (evening_Kirkman_k4 c1 [14, v4, v5] (wr .i64 (5 + c2))).bind fun v8 =>
    (evening_Kirkman_k5 c1 [14, v4, v5] [v6, v7, v8] (wr .i64 (2 + c2))).bind fun v9 =>
    (evening_Kirkman_k5 c1 [14, v4, v5] [v6, v7, v8] (wr .i64 (5 + c2))).bind fun v10 =>
    (evening_Kirkman_k6 c1 [14, v4, v5] [v6, v7, v8] (wr .i64 (3 + c2))).bind fun v11 =>
    (evening_Kirkman_k7 c1 [14, v4, v5] [v6, v7, v8] [v9, v10, v11] (wr .i64 (3 + c2))).bind fun v12 =>
    (evening_Kirkman_k7 c1 [14, v4, v5] [v6, v7, v8] [v9, v10, v11] (wr .i64 (4 + c2))).bind fun v13 =>
    (evening_Kirkman_k8 c1 [14, v4, v5] [v6, v7, v8] [v9, v10, v11] (wr .i64 (6 + c2))).bind fun v14 =>
    (evening_Kirkman_k9 c1 [14, v4, v5] [v6, v7, v8] [v9, v10, v11] [v12, v13, v14] (wr .i64 (1 + c2))).bind fun v15 =>
    (evening_Kirkman_k9 c1 [14, v4, v5] [v6, v7, v8] [v9, v10, v11] [v12, v13, v14] (wr .i64 (2 + c2))).bind fun v16 =>
    (evening_Kirkman_k9 c1 [14, v4, v5] [v6, v7, v8] [v9, v10, v11] [v12, v13, v14] (wr .i64 (4 + c2))).bind fun v17 =>
    if (capOk 24 (c1.length + 1)) = true then
    evening_Kirkman_1 f (c1 ++ [[[14, v4, v5], [v6, v7, v8], [v9, v10, v11], [v12, v13, v14], [v15, v16, v17]]]) (wr .i64 (c2 + 1))
    else none
    else
    some c1
def evening_Kirkman  : Option ((List (List (List Int)))) :=
  (evening_Kirkman_1  100000 [] 0).bind fun r20 =>
  some r20
def cs_evening_Kirkman : Cs (Unit) := csN
def er_evening_Kirkman (r : (List (List (List Int)))) : AV := (cdL 1 (cdL 1 (cdL 1 cdI))).enc r
set_option maxHeartbeats 4000000 in
set_option maxRecDepth 100000 in
theorem evening_Kirkman_1_ok  : ∀ (f : Nat) (c1 : (List (List (List Int)))) (c2 : Int) (r : ((List (List (List Int))))), evening_Kirkman_1  f c1 c2 = some r → SemN e_evening_Kirkman ⟨none, false⟩ (pc cb_evening_Kirkman [1, 1, 1, 1, 0, 1, 0, 0]) f ⟨Fr 73 [(1, .fn 75 [] []), (2, .fn 76 [] []), (3, hd 0 (c1.map (cdL 1 (cdL 1 cdI)).enc)), (5, .v (.int .i64 c2))], [mk 1 49 (c1.map (cdL 1 (cdL 1 cdI)).enc)]⟩ (fun e s => e = (.exit 0) ∧ Wk e_evening_Kirkman s ⟨Fr 73 [(3, hd 0 (r.map (cdL 1 (cdL 1 cdI)).enc))], [mk 1 49 (r.map (cdL 1 (cdL 1 cdI)).enc)]⟩) := by
  intro f
  induction f with
  | zero => intro c1 c2 r h; cases h
  | succ f ih0 =>
    intro c1 c2 r h
    have ih := fun (c1 : (List (List (List Int)))) (c2 : Int) => ih0 c1 c2 r
    unfold evening_Kirkman_1 at h
    refine SemN.succ ?_
    refine Sem.seq ?_
    refine Sem.runS (s1 := ⟨Fr 73 [(1, .fn 75 [] []), (2, .fn 76 [] []), (3, hd 0 (c1.map (cdL 1 (cdL 1 cdI)).enc)), (5, .v (.int .i64 c2)), (6, .v (.bool (decide (c2 < 7))))], [mk 1 49 (c1.map (cdL 1 (cdL 1 cdI)).enc)]⟩) ?_ ?_
    · refine RunS.segF (n := 73) e_evening_Kirkman_ok 1 [(1, .fn 75 [] []), (2, .fn 76 [] []), (3, hd 0 (c1.map (cdL 1 (cdL 1 cdI)).enc)), (5, .v (.int .i64 c2)), (6, .v (.bool (decide (c2 < 7))))] [mk 1 49 (c1.map (cdL 1 (cdL 1 cdI)).enc)] (by kernel_rfl) ?_
      exact RunS.done rfl (Wk.sel2 [0] (by kernel_rfl) (by kernel_rfl) (by kernel_rfl) ⟨⟨_, rfl, bu_mk⟩, trivial⟩ ⟨lu (by kernel_rfl) (by kernel_rfl), lu (by kernel_rfl) (by kernel_rfl), lu_hd (b' := 0) (by kernel_rfl) (by kernel_rfl), lu (by kernel_rfl) (by kernel_rfl), lu (by kernel_rfl) (by kernel_rfl), trivial⟩)
    refine Sem.seq ?_
    refine Sem.cond (b := (decide (c2 < 7))) (by kernel_rfl) (fun hb3 => ?_) (fun hb3 => ?_)
    · rw [if_pos hb3] at h
      refine Sem.skip ?_
      refine Sem.seq ?_
      refine Sem.block ?_
      refine Sem.seq ?_
      refine Sem.runS (s1 := ⟨Fr 73 [(1, .fn 75 [] []), (2, .fn 76 [] []), (3, hd 0 (c1.map (cdL 1 (cdL 1 cdI)).enc)), (4, .v (.int .i64 c2)), (5, .v (.int .i64 c2))], [mk 1 49 (c1.map (cdL 1 (cdL 1 cdI)).enc)]⟩) ?_ ?_
      · refine RunS.segF (n := 73) e_evening_Kirkman_ok 2 [(1, .fn 75 [] []), (2, .fn 76 [] []), (3, hd 0 (c1.map (cdL 1 (cdL 1 cdI)).enc)), (4, .v (.int .i64 c2)), (5, .v (.int .i64 c2))] [mk 1 49 (c1.map (cdL 1 (cdL 1 cdI)).enc)] (by kernel_rfl) ?_
        exact RunS.done rfl (Wk.sel2 [0] (by kernel_rfl) (by kernel_rfl) (by kernel_rfl) ⟨⟨_, rfl, bu_mk⟩, trivial⟩ ⟨lu (by kernel_rfl) (by kernel_rfl), lu (by kernel_rfl) (by kernel_rfl), lu_hd (b' := 0) (by kernel_rfl) (by kernel_rfl), lu (by kernel_rfl) (by kernel_rfl), lu (by kernel_rfl) (by kernel_rfl), trivial⟩)
      obtain ⟨v4, hv4, h⟩ := Option.bind_eq_some_iff.1 h
      obtain ⟨v5, hv5, h⟩ := Option.bind_eq_some_iff.1 h
      obtain ⟨v6, hv6, h⟩ := Option.bind_eq_some_iff.1 h
      obtain ⟨v7, hv7, h⟩ := Option.bind_eq_some_iff.1 h
      obtain ⟨v8, hv8, h⟩ := Option.bind_eq_some_iff.1 h
      obtain ⟨v9, hv9, h⟩ := Option.bind_eq_some_iff.1 h
      obtain ⟨v10, hv10, h⟩ := Option.bind_eq_some_iff.1 h
      obtain ⟨v11, hv11, h⟩ := Option.bind_eq_some_iff.1 h
      obtain ⟨v12, hv12, h⟩ := Option.bind_eq_some_iff.1 h
      obtain ⟨v13, hv13, h⟩ := Option.bind_eq_some_iff.1 h
      obtain ⟨v14, hv14, h⟩ := Option.bind_eq_some_iff.1 h
      obtain ⟨v15, hv15, h⟩ := Option.bind_eq_some_iff.1 h
      obtain ⟨v16, hv16, h⟩ := Option.bind_eq_some_iff.1 h
      obtain ⟨v17, hv17, h⟩ := Option.bind_eq_some_iff.1 h
      by_cases hk18 : (capOk 24 (c1.length + 1)) = true
      case neg => rw [if_neg hk18] at h; cases h
      rw [if_pos hk18] at h
      refine Sem.runS (s1 := ⟨Fr 73 [(1, .fn 75 [] []), (2, .fn 76 [] []), (3, hd 0 ((c1 ++ [[[14, v4, v5], [v6, v7, v8], [v9, v10, v11], [v12, v13, v14], [v15, v16, v17]]]).map (cdL 1 (cdL 1 cdI)).enc)), (5, .v (.int .i64 c2))], [mk 1 49 ((c1 ++ [[[14, v4, v5], [v6, v7, v8], [v9, v10, v11], [v12, v13, v14], [v15, v16, v17]]]).map (cdL 1 (cdL 1 cdI)).enc)]⟩) ?_ ?_
      · refine RunS.segF (n := 73) e_evening_Kirkman_ok 3 [(1, .fn 75 [] []), (2, .fn 76 [] []), (4, .v (.int .i64 c2)), (5, .v (.int .i64 c2)), (8, hd 0 (c1.map (cdL 1 (cdL 1 cdI)).enc)), (9, .fn 75 [] []), (10, .v (.int .i64 c2))] [mk 1 49 (c1.map (cdL 1 (cdL 1 cdI)).enc)] (by kernel_rfl) ?_
        refine RunS.inlY (fid := 75) (caps := []) (xs := [.v (.int .i64 c2)]) (fn := Tryd.f75) (Out := fun x h' => x = .v (.int .i64 v4) ∧ h' = [mk 1 49 (c1.map (cdL 1 (cdL 1 cdI)).enc)]) rfl rfl e_evening_Kirkman_k1_ok rfl rfl rfl (wantedA_none rfl) (by kernel_rfl) (by kernel_rfl) (by kernel_rfl) (by kernel_rfl) (by show 1 ≤ 5; decide) (evening_Kirkman_k1_sem c1 c2 _ hv4) ?_
        rintro x h' ⟨rfl, rfl⟩
        refine RunS.segF (n := 73) e_evening_Kirkman_ok 2 [(1, .fn 75 [] []), (2, .fn 76 [] []), (4, .v (.int .i64 c2)), (5, .v (.int .i64 c2)), (8, hd 0 (c1.map (cdL 1 (cdL 1 cdI)).enc)), (11, .v (.int .i64 v4)), (12, .fn 76 [] []), (13, .v (.int .i64 c2))] [mk 1 49 (c1.map (cdL 1 (cdL 1 cdI)).enc)] (by kernel_rfl) ?_
        refine RunS.inlY (fid := 76) (caps := []) (xs := [.v (.int .i64 c2)]) (fn := Tryd.f76) (Out := fun x h' => x = .v (.int .i64 v5) ∧ h' = [mk 1 49 (c1.map (cdL 1 (cdL 1 cdI)).enc)]) rfl rfl e_evening_Kirkman_k2_ok rfl rfl rfl (wantedA_none rfl) (by kernel_rfl) (by kernel_rfl) (by kernel_rfl) (by kernel_rfl) (by show 1 ≤ 6; decide) (evening_Kirkman_k2_sem c1 c2 _ hv5) ?_
        rintro x h' ⟨rfl, rfl⟩
        refine RunS.segF (n := 73) e_evening_Kirkman_ok 4 [(1, .fn 75 [] []), (2, .fn 76 [] []), (4, .v (.int .i64 c2)), (5, .v (.int .i64 c2)), (8, hd 0 (c1.map (cdL 1 (cdL 1 cdI)).enc)), (15, hd 1 ([14, v4, v5].map cdI.enc)), (16, .fn 75 [] []), (18, .v (.int .i64 (wr .i64 (1 + c2))))] [mk 1 49 (c1.map (cdL 1 (cdL 1 cdI)).enc), mk 1 3 ([14, v4, v5].map cdI.enc)] (by kernel_rfl) ?_
        refine RunS.inlY (fid := 75) (caps := []) (xs := [.v (.int .i64 (wr .i64 (1 + c2)))]) (fn := Tryd.f75) (Out := fun x h' => x = .v (.int .i64 v6) ∧ h' = [mk 1 49 (c1.map (cdL 1 (cdL 1 cdI)).enc), mk 1 3 ([14, v4, v5].map cdI.enc)]) rfl rfl e_evening_Kirkman_k3_ok rfl rfl rfl (wantedA_none rfl) (by kernel_rfl) (by kernel_rfl) (by kernel_rfl) (by kernel_rfl) (by show 1 ≤ 5; decide) (evening_Kirkman_k3_sem c1 [14, v4, v5] (wr .i64 (1 + c2)) _ hv6) ?_
        rintro x h' ⟨rfl, rfl⟩
        refine RunS.segF (n := 73) e_evening_Kirkman_ok 3 [(1, .fn 75 [] []), (2, .fn 76 [] []), (4, .v (.int .i64 c2)), (5, .v (.int .i64 c2)), (8, hd 0 (c1.map (cdL 1 (cdL 1 cdI)).enc)), (15, hd 1 ([14, v4, v5].map cdI.enc)), (19, .v (.int .i64 v6)), (20, .fn 75 [] []), (22, .v (.int .i64 (wr .i64 (6 + c2))))] [mk 1 49 (c1.map (cdL 1 (cdL 1 cdI)).enc), mk 1 3 ([14, v4, v5].map cdI.enc)] (by kernel_rfl) ?_
        refine RunS.inlY (fid := 75) (caps := []) (xs := [.v (.int .i64 (wr .i64 (6 + c2)))]) (fn := Tryd.f75) (Out := fun x h' => x = .v (.int .i64 v7) ∧ h' = [mk 1 49 (c1.map (cdL 1 (cdL 1 cdI)).enc), mk 1 3 ([14, v4, v5].map cdI.enc)]) rfl rfl e_evening_Kirkman_k3_ok rfl rfl rfl (wantedA_none rfl) (by kernel_rfl) (by kernel_rfl) (by kernel_rfl) (by kernel_rfl) (by show 1 ≤ 5; decide) (evening_Kirkman_k3_sem c1 [14, v4, v5] (wr .i64 (6 + c2)) _ hv7) ?_
        rintro x h' ⟨rfl, rfl⟩
        refine RunS.segF (n := 73) e_evening_Kirkman_ok 3 [(1, .fn 75 [] []), (2, .fn 76 [] []), (4, .v (.int .i64 c2)), (5, .v (.int .i64 c2)), (8, hd 0 (c1.map (cdL 1 (cdL 1 cdI)).enc)), (15, hd 1 ([14, v4, v5].map cdI.enc)), (19, .v (.int .i64 v6)), (23, .v (.int .i64 v7)), (24, .fn 76 [] []), (26, .v (.int .i64 (wr .i64 (5 + c2))))] [mk 1 49 (c1.map (cdL 1 (cdL 1 cdI)).enc), mk 1 3 ([14, v4, v5].map cdI.enc)] (by kernel_rfl) ?_
        refine RunS.inlY (fid := 76) (caps := []) (xs := [.v (.int .i64 (wr .i64 (5 + c2)))]) (fn := Tryd.f76) (Out := fun x h' => x = .v (.int .i64 v8) ∧ h' = [mk 1 49 (c1.map (cdL 1 (cdL 1 cdI)).enc), mk 1 3 ([14, v4, v5].map cdI.enc)]) rfl rfl e_evening_Kirkman_k4_ok rfl rfl rfl (wantedA_none rfl) (by kernel_rfl) (by kernel_rfl) (by kernel_rfl) (by kernel_rfl) (by show 1 ≤ 6; decide) (evening_Kirkman_k4_sem c1 [14, v4, v5] (wr .i64 (5 + c2)) _ hv8) ?_
        rintro x h' ⟨rfl, rfl⟩
        refine RunS.segF (n := 73) e_evening_Kirkman_ok 4 [(1, .fn 75 [] []), (2, .fn 76 [] []), (4, .v (.int .i64 c2)), (5, .v (.int .i64 c2)), (8, hd 0 (c1.map (cdL 1 (cdL 1 cdI)).enc)), (15, hd 1 ([14, v4, v5].map cdI.enc)), (28, hd 2 ([v6, v7, v8].map cdI.enc)), (29, .fn 75 [] []), (31, .v (.int .i64 (wr .i64 (2 + c2))))] [mk 1 49 (c1.map (cdL 1 (cdL 1 cdI)).enc), mk 1 3 ([14, v4, v5].map cdI.enc), mk 1 3 ([v6, v7, v8].map cdI.enc)] (by kernel_rfl) ?_
        refine RunS.inlY (fid := 75) (caps := []) (xs := [.v (.int .i64 (wr .i64 (2 + c2)))]) (fn := Tryd.f75) (Out := fun x h' => x = .v (.int .i64 v9) ∧ h' = [mk 1 49 (c1.map (cdL 1 (cdL 1 cdI)).enc), mk 1 3 ([14, v4, v5].map cdI.enc), mk 1 3 ([v6, v7, v8].map cdI.enc)]) rfl rfl e_evening_Kirkman_k5_ok rfl rfl rfl (wantedA_none rfl) (by kernel_rfl) (by kernel_rfl) (by kernel_rfl) (by kernel_rfl) (by show 1 ≤ 5; decide) (evening_Kirkman_k5_sem c1 [14, v4, v5] [v6, v7, v8] (wr .i64 (2 + c2)) _ hv9) ?_
        rintro x h' ⟨rfl, rfl⟩
        refine RunS.segF (n := 73) e_evening_Kirkman_ok 3 [(1, .fn 75 [] []), (2, .fn 76 [] []), (4, .v (.int .i64 c2)), (5, .v (.int .i64 c2)), (8, hd 0 (c1.map (cdL 1 (cdL 1 cdI)).enc)), (15, hd 1 ([14, v4, v5].map cdI.enc)), (28, hd 2 ([v6, v7, v8].map cdI.enc)), (32, .v (.int .i64 v9)), (33, .fn 75 [] []), (35, .v (.int .i64 (wr .i64 (5 + c2))))] [mk 1 49 (c1.map (cdL 1 (cdL 1 cdI)).enc), mk 1 3 ([14, v4, v5].map cdI.enc), mk 1 3 ([v6, v7, v8].map cdI.enc)] (by kernel_rfl) ?_
        refine RunS.inlY (fid := 75) (caps := []) (xs := [.v (.int .i64 (wr .i64 (5 + c2)))]) (fn := Tryd.f75) (Out := fun x h' => x = .v (.int .i64 v10) ∧ h' = [mk 1 49 (c1.map (cdL 1 (cdL 1 cdI)).enc), mk 1 3 ([14, v4, v5].map cdI.enc), mk 1 3 ([v6, v7, v8].map cdI.enc)]) rfl rfl e_evening_Kirkman_k5_ok rfl rfl rfl (wantedA_none rfl) (by kernel_rfl) (by kernel_rfl) (by kernel_rfl) (by kernel_rfl) (by show 1 ≤ 5; decide) (evening_Kirkman_k5_sem c1 [14, v4, v5] [v6, v7, v8] (wr .i64 (5 + c2)) _ hv10) ?_
        rintro x h' ⟨rfl, rfl⟩
        refine RunS.segF (n := 73) e_evening_Kirkman_ok 3 [(1, .fn 75 [] []), (2, .fn 76 [] []), (4, .v (.int .i64 c2)), (5, .v (.int .i64 c2)), (8, hd 0 (c1.map (cdL 1 (cdL 1 cdI)).enc)), (15, hd 1 ([14, v4, v5].map cdI.enc)), (28, hd 2 ([v6, v7, v8].map cdI.enc)), (32, .v (.int .i64 v9)), (36, .v (.int .i64 v10)), (37, .fn 76 [] []), (39, .v (.int .i64 (wr .i64 (3 + c2))))] [mk 1 49 (c1.map (cdL 1 (cdL 1 cdI)).enc), mk 1 3 ([14, v4, v5].map cdI.enc), mk 1 3 ([v6, v7, v8].map cdI.enc)] (by kernel_rfl) ?_
        refine RunS.inlY (fid := 76) (caps := []) (xs := [.v (.int .i64 (wr .i64 (3 + c2)))]) (fn := Tryd.f76) (Out := fun x h' => x = .v (.int .i64 v11) ∧ h' = [mk 1 49 (c1.map (cdL 1 (cdL 1 cdI)).enc), mk 1 3 ([14, v4, v5].map cdI.enc), mk 1 3 ([v6, v7, v8].map cdI.enc)]) rfl rfl e_evening_Kirkman_k6_ok rfl rfl rfl (wantedA_none rfl) (by kernel_rfl) (by kernel_rfl) (by kernel_rfl) (by kernel_rfl) (by show 1 ≤ 6; decide) (evening_Kirkman_k6_sem c1 [14, v4, v5] [v6, v7, v8] (wr .i64 (3 + c2)) _ hv11) ?_
        rintro x h' ⟨rfl, rfl⟩
        refine RunS.segF (n := 73) e_evening_Kirkman_ok 4 [(1, .fn 75 [] []), (2, .fn 76 [] []), (4, .v (.int .i64 c2)), (5, .v (.int .i64 c2)), (8, hd 0 (c1.map (cdL 1 (cdL 1 cdI)).enc)), (15, hd 1 ([14, v4, v5].map cdI.enc)), (28, hd 2 ([v6, v7, v8].map cdI.enc)), (41, hd 3 ([v9, v10, v11].map cdI.enc)), (42, .fn 75 [] []), (44, .v (.int .i64 (wr .i64 (3 + c2))))] [mk 1 49 (c1.map (cdL 1 (cdL 1 cdI)).enc), mk 1 3 ([14, v4, v5].map cdI.enc), mk 1 3 ([v6, v7, v8].map cdI.enc), mk 1 3 ([v9, v10, v11].map cdI.enc)] (by kernel_rfl) ?_
        refine RunS.inlY (fid := 75) (caps := []) (xs := [.v (.int .i64 (wr .i64 (3 + c2)))]) (fn := Tryd.f75) (Out := fun x h' => x = .v (.int .i64 v12) ∧ h' = [mk 1 49 (c1.map (cdL 1 (cdL 1 cdI)).enc), mk 1 3 ([14, v4, v5].map cdI.enc), mk 1 3 ([v6, v7, v8].map cdI.enc), mk 1 3 ([v9, v10, v11].map cdI.enc)]) rfl rfl e_evening_Kirkman_k7_ok rfl rfl rfl (wantedA_none rfl) (by kernel_rfl) (by kernel_rfl) (by kernel_rfl) (by kernel_rfl) (by show 1 ≤ 5; decide) (evening_Kirkman_k7_sem c1 [14, v4, v5] [v6, v7, v8] [v9, v10, v11] (wr .i64 (3 + c2)) _ hv12) ?_
        rintro x h' ⟨rfl, rfl⟩
        refine RunS.segF (n := 73) e_evening_Kirkman_ok 3 [(1, .fn 75 [] []), (2, .fn 76 [] []), (4, .v (.int .i64 c2)), (5, .v (.int .i64 c2)), (8, hd 0 (c1.map (cdL 1 (cdL 1 cdI)).enc)), (15, hd 1 ([14, v4, v5].map cdI.enc)), (28, hd 2 ([v6, v7, v8].map cdI.enc)), (41, hd 3 ([v9, v10, v11].map cdI.enc)), (45, .v (.int .i64 v12)), (46, .fn 75 [] []), (48, .v (.int .i64 (wr .i64 (4 + c2))))] [mk 1 49 (c1.map (cdL 1 (cdL 1 cdI)).enc), mk 1 3 ([14, v4, v5].map cdI.enc), mk 1 3 ([v6, v7, v8].map cdI.enc), mk 1 3 ([v9, v10, v11].map cdI.enc)] (by kernel_rfl) ?_
        refine RunS.inlY (fid := 75) (caps := []) (xs := [.v (.int .i64 (wr .i64 (4 + c2)))]) (fn := Tryd.f75) (Out := fun x h' => x = .v (.int .i64 v13) ∧ h' = [mk 1 49 (c1.map (cdL 1 (cdL 1 cdI)).enc), mk 1 3 ([14, v4, v5].map cdI.enc), mk 1 3 ([v6, v7, v8].map cdI.enc), mk 1 3 ([v9, v10, v11].map cdI.enc)]) rfl rfl e_evening_Kirkman_k7_ok rfl rfl rfl (wantedA_none rfl) (by kernel_rfl) (by kernel_rfl) (by kernel_rfl) (by kernel_rfl) (by show 1 ≤ 5; decide) (evening_Kirkman_k7_sem c1 [14, v4, v5] [v6, v7, v8] [v9, v10, v11] (wr .i64 (4 + c2)) _ hv13) ?_
        rintro x h' ⟨rfl, rfl⟩
        refine RunS.segF (n := 73) e_evening_Kirkman_ok 3 [(1, .fn 75 [] []), (2, .fn 76 [] []), (4, .v (.int .i64 c2)), (5, .v (.int .i64 c2)), (8, hd 0 (c1.map (cdL 1 (cdL 1 cdI)).enc)), (15, hd 1 ([14, v4, v5].map cdI.enc)), (28, hd 2 ([v6, v7, v8].map cdI.enc)), (41, hd 3 ([v9, v10, v11].map cdI.enc)), (45, .v (.int .i64 v12)), (49, .v (.int .i64 v13)), (50, .fn 76 [] []), (52, .v (.int .i64 (wr .i64 (6 + c2))))] [mk 1 49 (c1.map (cdL 1 (cdL 1 cdI)).enc), mk 1 3 ([14, v4, v5].map cdI.enc), mk 1 3 ([v6, v7, v8].map cdI.enc), mk 1 3 ([v9, v10, v11].map cdI.enc)] (by kernel_rfl) ?_
        refine RunS.inlY (fid := 76) (caps := []) (xs := [.v (.int .i64 (wr .i64 (6 + c2)))]) (fn := Tryd.f76) (Out := fun x h' => x = .v (.int .i64 v14) ∧ h' = [mk 1 49 (c1.map (cdL 1 (cdL 1 cdI)).enc), mk 1 3 ([14, v4, v5].map cdI.enc), mk 1 3 ([v6, v7, v8].map cdI.enc), mk 1 3 ([v9, v10, v11].map cdI.enc)]) rfl rfl e_evening_Kirkman_k8_ok rfl rfl rfl (wantedA_none rfl) (by kernel_rfl) (by kernel_rfl) (by kernel_rfl) (by kernel_rfl) (by show 1 ≤ 6; decide) (evening_Kirkman_k8_sem c1 [14, v4, v5] [v6, v7, v8] [v9, v10, v11] (wr .i64 (6 + c2)) _ hv14) ?_
        rintro x h' ⟨rfl, rfl⟩
        refine RunS.segF (n := 73) e_evening_Kirkman_ok 4 [(1, .fn 75 [] []), (2, .fn 76 [] []), (4, .v (.int .i64 c2)), (5, .v (.int .i64 c2)), (8, hd 0 (c1.map (cdL 1 (cdL 1 cdI)).enc)), (15, hd 1 ([14, v4, v5].map cdI.enc)), (28, hd 2 ([v6, v7, v8].map cdI.enc)), (41, hd 3 ([v9, v10, v11].map cdI.enc)), (54, hd 4 ([v12, v13, v14].map cdI.enc)), (55, .fn 76 [] []), (57, .v (.int .i64 (wr .i64 (1 + c2))))] [mk 1 49 (c1.map (cdL 1 (cdL 1 cdI)).enc), mk 1 3 ([14, v4, v5].map cdI.enc), mk 1 3 ([v6, v7, v8].map cdI.enc), mk 1 3 ([v9, v10, v11].map cdI.enc), mk 1 3 ([v12, v13, v14].map cdI.enc)] (by kernel_rfl) ?_
        refine RunS.inlY (fid := 76) (caps := []) (xs := [.v (.int .i64 (wr .i64 (1 + c2)))]) (fn := Tryd.f76) (Out := fun x h' => x = .v (.int .i64 v15) ∧ h' = [mk 1 49 (c1.map (cdL 1 (cdL 1 cdI)).enc), mk 1 3 ([14, v4, v5].map cdI.enc), mk 1 3 ([v6, v7, v8].map cdI.enc), mk 1 3 ([v9, v10, v11].map cdI.enc), mk 1 3 ([v12, v13, v14].map cdI.enc)]) rfl rfl e_evening_Kirkman_k9_ok rfl rfl rfl (wantedA_none rfl) (by kernel_rfl) (by kernel_rfl) (by kernel_rfl) (by kernel_rfl) (by show 1 ≤ 6; decide) (evening_Kirkman_k9_sem c1 [14, v4, v5] [v6, v7, v8] [v9, v10, v11] [v12, v13, v14] (wr .i64 (1 + c2)) _ hv15) ?_
        rintro x h' ⟨rfl, rfl⟩
        refine RunS.segF (n := 73) e_evening_Kirkman_ok 3 [(1, .fn 75 [] []), (2, .fn 76 [] []), (4, .v (.int .i64 c2)), (5, .v (.int .i64 c2)), (8, hd 0 (c1.map (cdL 1 (cdL 1 cdI)).enc)), (15, hd 1 ([14, v4, v5].map cdI.enc)), (28, hd 2 ([v6, v7, v8].map cdI.enc)), (41, hd 3 ([v9, v10, v11].map cdI.enc)), (54, hd 4 ([v12, v13, v14].map cdI.enc)), (58, .v (.int .i64 v15)), (59, .fn 76 [] []), (61, .v (.int .i64 (wr .i64 (2 + c2))))] [mk 1 49 (c1.map (cdL 1 (cdL 1 cdI)).enc), mk 1 3 ([14, v4, v5].map cdI.enc), mk 1 3 ([v6, v7, v8].map cdI.enc), mk 1 3 ([v9, v10, v11].map cdI.enc), mk 1 3 ([v12, v13, v14].map cdI.enc)] (by kernel_rfl) ?_
        refine RunS.inlY (fid := 76) (caps := []) (xs := [.v (.int .i64 (wr .i64 (2 + c2)))]) (fn := Tryd.f76) (Out := fun x h' => x = .v (.int .i64 v16) ∧ h' = [mk 1 49 (c1.map (cdL 1 (cdL 1 cdI)).enc), mk 1 3 ([14, v4, v5].map cdI.enc), mk 1 3 ([v6, v7, v8].map cdI.enc), mk 1 3 ([v9, v10, v11].map cdI.enc), mk 1 3 ([v12, v13, v14].map cdI.enc)]) rfl rfl e_evening_Kirkman_k9_ok rfl rfl rfl (wantedA_none rfl) (by kernel_rfl) (by kernel_rfl) (by kernel_rfl) (by kernel_rfl) (by show 1 ≤ 6; decide) (evening_Kirkman_k9_sem c1 [14, v4, v5] [v6, v7, v8] [v9, v10, v11] [v12, v13, v14] (wr .i64 (2 + c2)) _ hv16) ?_
        rintro x h' ⟨rfl, rfl⟩
        refine RunS.segF (n := 73) e_evening_Kirkman_ok 3 [(1, .fn 75 [] []), (2, .fn 76 [] []), (5, .v (.int .i64 c2)), (8, hd 0 (c1.map (cdL 1 (cdL 1 cdI)).enc)), (15, hd 1 ([14, v4, v5].map cdI.enc)), (28, hd 2 ([v6, v7, v8].map cdI.enc)), (41, hd 3 ([v9, v10, v11].map cdI.enc)), (54, hd 4 ([v12, v13, v14].map cdI.enc)), (58, .v (.int .i64 v15)), (62, .v (.int .i64 v16)), (63, .fn 76 [] []), (65, .v (.int .i64 (wr .i64 (4 + c2))))] [mk 1 49 (c1.map (cdL 1 (cdL 1 cdI)).enc), mk 1 3 ([14, v4, v5].map cdI.enc), mk 1 3 ([v6, v7, v8].map cdI.enc), mk 1 3 ([v9, v10, v11].map cdI.enc), mk 1 3 ([v12, v13, v14].map cdI.enc)] (by kernel_rfl) ?_
        refine RunS.inlY (fid := 76) (caps := []) (xs := [.v (.int .i64 (wr .i64 (4 + c2)))]) (fn := Tryd.f76) (Out := fun x h' => x = .v (.int .i64 v17) ∧ h' = [mk 1 49 (c1.map (cdL 1 (cdL 1 cdI)).enc), mk 1 3 ([14, v4, v5].map cdI.enc), mk 1 3 ([v6, v7, v8].map cdI.enc), mk 1 3 ([v9, v10, v11].map cdI.enc), mk 1 3 ([v12, v13, v14].map cdI.enc)]) rfl rfl e_evening_Kirkman_k9_ok rfl rfl rfl (wantedA_none rfl) (by kernel_rfl) (by kernel_rfl) (by kernel_rfl) (by kernel_rfl) (by show 1 ≤ 6; decide) (evening_Kirkman_k9_sem c1 [14, v4, v5] [v6, v7, v8] [v9, v10, v11] [v12, v13, v14] (wr .i64 (4 + c2)) _ hv17) ?_
        rintro x h' ⟨rfl, rfl⟩
        refine RunS.segF (n := 73) e_evening_Kirkman_ok 3 [(1, .fn 75 [] []), (2, .fn 76 [] []), (5, .v (.int .i64 c2)), (8, hd 0 (c1.map (cdL 1 (cdL 1 cdI)).enc)), (69, .rf 7 0 1 1)] [mk 1 49 (c1.map (cdL 1 (cdL 1 cdI)).enc), mk 1 3 ([14, v4, v5].map cdI.enc), mk 1 3 ([v6, v7, v8].map cdI.enc), mk 1 3 ([v9, v10, v11].map cdI.enc), mk 1 3 ([v12, v13, v14].map cdI.enc), mk 1 3 ([v15, v16, v17].map cdI.enc), some ⟨1, 24, [hd 1 ([14, v4, v5].map cdI.enc), hd 2 ([v6, v7, v8].map cdI.enc), hd 3 ([v9, v10, v11].map cdI.enc), hd 4 ([v12, v13, v14].map cdI.enc), hd 5 ([v15, v16, v17].map cdI.enc)], false⟩, some ⟨1, 49, [.rf 6 0 5 5], false⟩] (by kernel_rfl) ?_
        refine RunS.wk (s1 := ⟨Fr 73 [(1, .fn 75 [] []), (2, .fn 76 [] []), (5, .v (.int .i64 c2)), (8, hd 0 (c1.map (cdL 1 (cdL 1 cdI)).enc)), (69, .rf 7 0 1 1)], [mk 1 49 (c1.map (cdL 1 (cdL 1 cdI)).enc), none, mk 1 3 ([v6, v7, v8].map cdI.enc), mk 1 3 ([v9, v10, v11].map cdI.enc), mk 1 3 ([v12, v13, v14].map cdI.enc), mk 1 3 ([v15, v16, v17].map cdI.enc), some ⟨1, 24, [.sl 1 ([14, v4, v5].map cdI.enc), hd 2 ([v6, v7, v8].map cdI.enc), hd 3 ([v9, v10, v11].map cdI.enc), hd 4 ([v12, v13, v14].map cdI.enc), hd 5 ([v15, v16, v17].map cdI.enc)], false⟩, some ⟨1, 49, [.rf 6 0 5 5], false⟩]⟩) (Wk.frzG 1 (.inl (by kernel_rfl)) ⟨.inr (.inl rfl), .inl rfl, .inr (.inl rfl), .inr (.inl rfl), .inr (.inl rfl), .inr (.inl rfl), .inr (.inr ⟨_, _, _, _, rfl, rfl, ⟨fz_hd (t := 3) (by kernel_rfl) enc_ok, .inl rfl, .inl rfl, .inl rfl, .inl rfl, trivial⟩⟩), .inr (.inl rfl), trivial⟩ ⟨⟨.fn 75 [] [], (by kernel_rfl), .inl rfl⟩, ⟨.fn 76 [] [], (by kernel_rfl), .inl rfl⟩, ⟨.v (.int .i64 c2), (by kernel_rfl), .inl rfl⟩, ⟨hd 0 (c1.map (cdL 1 (cdL 1 cdI)).enc), (by kernel_rfl), .inl rfl⟩, ⟨.rf 7 0 1 1, (by kernel_rfl), .inl rfl⟩, trivial⟩) ?_
        refine RunS.wk (s1 := ⟨Fr 73 [(1, .fn 75 [] []), (2, .fn 76 [] []), (5, .v (.int .i64 c2)), (8, hd 0 (c1.map (cdL 1 (cdL 1 cdI)).enc)), (69, .rf 7 0 1 1)], [mk 1 49 (c1.map (cdL 1 (cdL 1 cdI)).enc), none, none, mk 1 3 ([v9, v10, v11].map cdI.enc), mk 1 3 ([v12, v13, v14].map cdI.enc), mk 1 3 ([v15, v16, v17].map cdI.enc), some ⟨1, 24, [.sl 1 ([14, v4, v5].map cdI.enc), .sl 1 ([v6, v7, v8].map cdI.enc), hd 3 ([v9, v10, v11].map cdI.enc), hd 4 ([v12, v13, v14].map cdI.enc), hd 5 ([v15, v16, v17].map cdI.enc)], false⟩, some ⟨1, 49, [.rf 6 0 5 5], false⟩]⟩) (Wk.frzG 2 (.inl (by kernel_rfl)) ⟨.inr (.inl rfl), .inl rfl, .inl rfl, .inr (.inl rfl), .inr (.inl rfl), .inr (.inl rfl), .inr (.inr ⟨_, _, _, _, rfl, rfl, ⟨.inl rfl, fz_hd (t := 3) (by kernel_rfl) enc_ok, .inl rfl, .inl rfl, .inl rfl, trivial⟩⟩), .inr (.inl rfl), trivial⟩ ⟨⟨.fn 75 [] [], (by kernel_rfl), .inl rfl⟩, ⟨.fn 76 [] [], (by kernel_rfl), .inl rfl⟩, ⟨.v (.int .i64 c2), (by kernel_rfl), .inl rfl⟩, ⟨hd 0 (c1.map (cdL 1 (cdL 1 cdI)).enc), (by kernel_rfl), .inl rfl⟩, ⟨.rf 7 0 1 1, (by kernel_rfl), .inl rfl⟩, trivial⟩) ?_
        refine RunS.wk (s1 := ⟨Fr 73 [(1, .fn 75 [] []), (2, .fn 76 [] []), (5, .v (.int .i64 c2)), (8, hd 0 (c1.map (cdL 1 (cdL 1 cdI)).enc)), (69, .rf 7 0 1 1)], [mk 1 49 (c1.map (cdL 1 (cdL 1 cdI)).enc), none, none, none, mk 1 3 ([v12, v13, v14].map cdI.enc), mk 1 3 ([v15, v16, v17].map cdI.enc), some ⟨1, 24, [.sl 1 ([14, v4, v5].map cdI.enc), .sl 1 ([v6, v7, v8].map cdI.enc), .sl 1 ([v9, v10, v11].map cdI.enc), hd 4 ([v12, v13, v14].map cdI.enc), hd 5 ([v15, v16, v17].map cdI.enc)], false⟩, some ⟨1, 49, [.rf 6 0 5 5], false⟩]⟩) (Wk.frzG 3 (.inl (by kernel_rfl)) ⟨.inr (.inl rfl), .inl rfl, .inl rfl, .inl rfl, .inr (.inl rfl), .inr (.inl rfl), .inr (.inr ⟨_, _, _, _, rfl, rfl, ⟨.inl rfl, .inl rfl, fz_hd (t := 3) (by kernel_rfl) enc_ok, .inl rfl, .inl rfl, trivial⟩⟩), .inr (.inl rfl), trivial⟩ ⟨⟨.fn 75 [] [], (by kernel_rfl), .inl rfl⟩, ⟨.fn 76 [] [], (by kernel_rfl), .inl rfl⟩, ⟨.v (.int .i64 c2), (by kernel_rfl), .inl rfl⟩, ⟨hd 0 (c1.map (cdL 1 (cdL 1 cdI)).enc), (by kernel_rfl), .inl rfl⟩, ⟨.rf 7 0 1 1, (by kernel_rfl), .inl rfl⟩, trivial⟩) ?_
        refine RunS.wk (s1 := ⟨Fr 73 [(1, .fn 75 [] []), (2, .fn 76 [] []), (5, .v (.int .i64 c2)), (8, hd 0 (c1.map (cdL 1 (cdL 1 cdI)).enc)), (69, .rf 7 0 1 1)], [mk 1 49 (c1.map (cdL 1 (cdL 1 cdI)).enc), none, none, none, none, mk 1 3 ([v15, v16, v17].map cdI.enc), some ⟨1, 24, [.sl 1 ([14, v4, v5].map cdI.enc), .sl 1 ([v6, v7, v8].map cdI.enc), .sl 1 ([v9, v10, v11].map cdI.enc), .sl 1 ([v12, v13, v14].map cdI.enc), hd 5 ([v15, v16, v17].map cdI.enc)], false⟩, some ⟨1, 49, [.rf 6 0 5 5], false⟩]⟩) (Wk.frzG 4 (.inl (by kernel_rfl)) ⟨.inr (.inl rfl), .inl rfl, .inl rfl, .inl rfl, .inl rfl, .inr (.inl rfl), .inr (.inr ⟨_, _, _, _, rfl, rfl, ⟨.inl rfl, .inl rfl, .inl rfl, fz_hd (t := 3) (by kernel_rfl) enc_ok, .inl rfl, trivial⟩⟩), .inr (.inl rfl), trivial⟩ ⟨⟨.fn 75 [] [], (by kernel_rfl), .inl rfl⟩, ⟨.fn 76 [] [], (by kernel_rfl), .inl rfl⟩, ⟨.v (.int .i64 c2), (by kernel_rfl), .inl rfl⟩, ⟨hd 0 (c1.map (cdL 1 (cdL 1 cdI)).enc), (by kernel_rfl), .inl rfl⟩, ⟨.rf 7 0 1 1, (by kernel_rfl), .inl rfl⟩, trivial⟩) ?_
        refine RunS.wk (s1 := ⟨Fr 73 [(1, .fn 75 [] []), (2, .fn 76 [] []), (5, .v (.int .i64 c2)), (8, hd 0 (c1.map (cdL 1 (cdL 1 cdI)).enc)), (69, .rf 7 0 1 1)], [mk 1 49 (c1.map (cdL 1 (cdL 1 cdI)).enc), none, none, none, none, none, mk 1 24 ([[14, v4, v5], [v6, v7, v8], [v9, v10, v11], [v12, v13, v14], [v15, v16, v17]].map (cdL 1 cdI).enc), some ⟨1, 49, [hd 6 ([[14, v4, v5], [v6, v7, v8], [v9, v10, v11], [v12, v13, v14], [v15, v16, v17]].map (cdL 1 cdI).enc)], false⟩]⟩) (Wk.frzG 5 (.inl (by kernel_rfl)) ⟨.inr (.inl rfl), .inl rfl, .inl rfl, .inl rfl, .inl rfl, .inl rfl, .inr (.inr ⟨_, _, _, _, rfl, rfl, ⟨.inl rfl, .inl rfl, .inl rfl, .inl rfl, fz_hd (t := 3) (by kernel_rfl) enc_ok, trivial⟩⟩), .inr (.inr ⟨_, _, _, _, rfl, rfl, ⟨.inl rfl, trivial⟩⟩), trivial⟩ ⟨⟨.fn 75 [] [], (by kernel_rfl), .inl rfl⟩, ⟨.fn 76 [] [], (by kernel_rfl), .inl rfl⟩, ⟨.v (.int .i64 c2), (by kernel_rfl), .inl rfl⟩, ⟨hd 0 (c1.map (cdL 1 (cdL 1 cdI)).enc), (by kernel_rfl), .inl rfl⟩, ⟨.rf 7 0 1 1, (by kernel_rfl), .inl rfl⟩, trivial⟩) ?_
        refine RunS.wk (s1 := ⟨Fr 73 [(1, .fn 75 [] []), (2, .fn 76 [] []), (5, .v (.int .i64 c2)), (8, hd 0 (c1.map (cdL 1 (cdL 1 cdI)).enc)), (69, hd 7 ([[[14, v4, v5], [v6, v7, v8], [v9, v10, v11], [v12, v13, v14], [v15, v16, v17]]].map (cdL 1 (cdL 1 cdI)).enc))], [mk 1 49 (c1.map (cdL 1 (cdL 1 cdI)).enc), none, none, none, none, none, none, mk 1 49 ([[[14, v4, v5], [v6, v7, v8], [v9, v10, v11], [v12, v13, v14], [v15, v16, v17]]].map (cdL 1 (cdL 1 cdI)).enc)]⟩) (Wk.frzG 6 (.inl (by kernel_rfl)) ⟨.inr (.inl rfl), .inl rfl, .inl rfl, .inl rfl, .inl rfl, .inl rfl, .inl rfl, .inr (.inr ⟨_, _, _, _, rfl, rfl, ⟨fz_hd (t := 24) (by kernel_rfl) enc_ok, trivial⟩⟩), trivial⟩ ⟨⟨.fn 75 [] [], (by kernel_rfl), .inl rfl⟩, ⟨.fn 76 [] [], (by kernel_rfl), .inl rfl⟩, ⟨.v (.int .i64 c2), (by kernel_rfl), .inl rfl⟩, ⟨hd 0 (c1.map (cdL 1 (cdL 1 cdI)).enc), (by kernel_rfl), .inl rfl⟩, ⟨.rf 7 0 1 1, (by kernel_rfl), .inl rfl⟩, trivial⟩) ?_
        refine RunS.one e_evening_Kirkman_ok 0 rfl (op_w (wantedA_none rfl) rfl (by kernel_rfl) (by kernel_rfl) (w_append (a := hd 0 (c1.map (cdL 1 (cdL 1 cdI)).enc)) (b := hd 7 ([[[14, v4, v5], [v6, v7, v8], [v9, v10, v11], [v12, v13, v14], [v15, v16, v17]]].map (cdL 1 (cdL 1 cdI)).enc)) (by kernel_rfl) (by kernel_rfl) (append_B (c := (cdL 1 (cdL 1 cdI))) (xs := c1) (vs := [[[14, v4, v5], [v6, v7, v8], [v9, v10, v11], [v12, v13, v14], [v15, v16, v17]]]) (k := 1) (bytes := 24) (el := 49) (by kernel_rfl) (by kernel_rfl) (elems_hd (t := 49) (by kernel_rfl)) (List.cons_ne_nil _ _) (by kernel_rfl) hk18))) ?_
        refine RunS.segF (n := 73) e_evening_Kirkman_ok 1 [(1, .fn 75 [] []), (2, .fn 76 [] []), (3, hd 8 ((c1 ++ [[[14, v4, v5], [v6, v7, v8], [v9, v10, v11], [v12, v13, v14], [v15, v16, v17]]]).map (cdL 1 (cdL 1 cdI)).enc)), (5, .v (.int .i64 c2))] [none, none, none, none, none, none, none, mk 1 49 ([[[14, v4, v5], [v6, v7, v8], [v9, v10, v11], [v12, v13, v14], [v15, v16, v17]]].map (cdL 1 (cdL 1 cdI)).enc), mk 1 49 ((c1 ++ [[[14, v4, v5], [v6, v7, v8], [v9, v10, v11], [v12, v13, v14], [v15, v16, v17]]]).map (cdL 1 (cdL 1 cdI)).enc)] (by kernel_rfl) ?_
        exact RunS.done rfl (Wk.sel2 [8] (by kernel_rfl) (by kernel_rfl) (by kernel_rfl) ⟨⟨_, rfl, bu_mk⟩, trivial⟩ ⟨lu (by kernel_rfl) (by kernel_rfl), lu (by kernel_rfl) (by kernel_rfl), lu_hd (b' := 8) (by kernel_rfl) (by kernel_rfl), lu (by kernel_rfl) (by kernel_rfl), trivial⟩)
      refine Sem.runS (s1 := ⟨Fr 73 [(1, .fn 75 [] []), (2, .fn 76 [] []), (3, hd 0 ((c1 ++ [[[14, v4, v5], [v6, v7, v8], [v9, v10, v11], [v12, v13, v14], [v15, v16, v17]]]).map (cdL 1 (cdL 1 cdI)).enc)), (5, .v (.int .i64 (wr .i64 (c2 + 1))))], [mk 1 49 ((c1 ++ [[[14, v4, v5], [v6, v7, v8], [v9, v10, v11], [v12, v13, v14], [v15, v16, v17]]]).map (cdL 1 (cdL 1 cdI)).enc)]⟩) ?_ ?_
      · refine RunS.segF (n := 73) e_evening_Kirkman_ok 2 [(1, .fn 75 [] []), (2, .fn 76 [] []), (3, hd 0 ((c1 ++ [[[14, v4, v5], [v6, v7, v8], [v9, v10, v11], [v12, v13, v14], [v15, v16, v17]]]).map (cdL 1 (cdL 1 cdI)).enc)), (5, .v (.int .i64 (wr .i64 (c2 + 1))))] [mk 1 49 ((c1 ++ [[[14, v4, v5], [v6, v7, v8], [v9, v10, v11], [v12, v13, v14], [v15, v16, v17]]]).map (cdL 1 (cdL 1 cdI)).enc)] (by kernel_rfl) ?_
        exact RunS.done rfl (Wk.sel2 [0] (by kernel_rfl) (by kernel_rfl) (by kernel_rfl) ⟨⟨_, rfl, bu_mk⟩, trivial⟩ ⟨lu (by kernel_rfl) (by kernel_rfl), lu (by kernel_rfl) (by kernel_rfl), lu_hd (b' := 0) (by kernel_rfl) (by kernel_rfl), lu (by kernel_rfl) (by kernel_rfl), trivial⟩)
      exact SemN.wk (s1 := ⟨Fr 73 [(1, .fn 75 [] []), (2, .fn 76 [] []), (3, hd 0 ((c1 ++ [[[14, v4, v5], [v6, v7, v8], [v9, v10, v11], [v12, v13, v14], [v15, v16, v17]]]).map (cdL 1 (cdL 1 cdI)).enc)), (5, .v (.int .i64 (wr .i64 (c2 + 1))))], [mk 1 49 ((c1 ++ [[[14, v4, v5], [v6, v7, v8], [v9, v10, v11], [v12, v13, v14], [v15, v16, v17]]]).map (cdL 1 (cdL 1 cdI)).enc)]⟩) (Wk.sel2 [0] (by kernel_rfl) (by kernel_rfl) (by kernel_rfl) ⟨⟨_, rfl, bu_mk⟩, trivial⟩ ⟨lu (by kernel_rfl) (by kernel_rfl), lu (by kernel_rfl) (by kernel_rfl), lu_hd (b' := 0) (by kernel_rfl) (by kernel_rfl), lu (by kernel_rfl) (by kernel_rfl), trivial⟩) (ih (c1 ++ [[[14, v4, v5], [v6, v7, v8], [v9, v10, v11], [v12, v13, v14], [v15, v16, v17]]]) (wr .i64 (c2 + 1)) h)
    · rw [if_f hb3] at h
      refine Sem.exit ?_
      have hq := Option.some.inj h; subst hq
      exact ⟨rfl, (Wk.sel2 [0] (by kernel_rfl) (by kernel_rfl) (by kernel_rfl) ⟨⟨_, rfl, bu_mk⟩, trivial⟩ ⟨lu_hd (b' := 0) (by kernel_rfl) (by kernel_rfl), trivial⟩)⟩
set_option maxHeartbeats 4000000 in
set_option maxRecDepth 100000 in
theorem evening_Kirkman_sem  (r : (List (List (List Int)))) (h : evening_Kirkman  = some r) : Sem e_evening_Kirkman ⟨none, false⟩ cb_evening_Kirkman ⟨Fr 73 (pairs0 0 (cs_evening_Kirkman.enc (()))), []⟩ fun e s' => (e = .normal ∨ e = .ret) ∧ ∃ xs, resA e_evening_Kirkman.P s'.fr s'.hp Tryd.f37.results.toList = some xs ∧ retA xs = er_evening_Kirkman r := by
  unfold evening_Kirkman at h
  refine Sem.wkQ (Sem.wk (s1 := ⟨Fr 73 [], []⟩) (Wk.fr (by kernel_rfl)) ?_)
  refine Sem.seq ?_
  refine Sem.runS (s1 := ⟨Fr 73 [], []⟩) ?_ ?_
  · refine RunS.segF (n := 73) e_evening_Kirkman_ok 1 [] [] (by kernel_rfl) ?_
    exact RunS.done rfl (Wk.fr (by kernel_rfl))
  refine Sem.seq ?_
  refine Sem.runS (s1 := ⟨Fr 73 [(1, .fn 75 [] [])], []⟩) ?_ ?_
  · refine RunS.segF (n := 73) e_evening_Kirkman_ok 1 [(1, .fn 75 [] [])] [] (by kernel_rfl) ?_
    exact RunS.done rfl (Wk.fr (by kernel_rfl))
  refine Sem.seq ?_
  refine Sem.runS (s1 := ⟨Fr 73 [(1, .fn 75 [] []), (2, .fn 76 [] [])], []⟩) ?_ ?_
  · refine RunS.segF (n := 73) e_evening_Kirkman_ok 1 [(1, .fn 75 [] []), (2, .fn 76 [] [])] [] (by kernel_rfl) ?_
    exact RunS.done rfl (Wk.fr (by kernel_rfl))
  refine Sem.seq ?_
  refine Sem.runS (s1 := ⟨Fr 73 [(1, .fn 75 [] []), (2, .fn 76 [] []), (3, .e0)], []⟩) ?_ ?_
  · refine RunS.segF (n := 73) e_evening_Kirkman_ok 1 [(1, .fn 75 [] []), (2, .fn 76 [] []), (3, .e0)] [] (by kernel_rfl) ?_
    exact RunS.done rfl (Wk.fr (by kernel_rfl))
  refine Sem.seq ?_
  refine Sem.seq ?_
  refine Sem.runS (s1 := ⟨Fr 73 [(1, .fn 75 [] []), (2, .fn 76 [] []), (3, .e0), (5, .v (.int .i64 0))], []⟩) ?_ ?_
  · refine RunS.segF (n := 73) e_evening_Kirkman_ok 1 [(1, .fn 75 [] []), (2, .fn 76 [] []), (3, .e0), (5, .v (.int .i64 0))] [] (by kernel_rfl) ?_
    exact RunS.done rfl (Wk.fr (by kernel_rfl))
  refine Sem.block ?_
  obtain ⟨r20, hr20, h⟩ := Option.bind_eq_some_iff.1 h
  refine Sem.loop (n := 100000) ?_
  refine Sem.cutN (SemN.wk (s1 := ⟨Fr 73 [(1, .fn 75 [] []), (2, .fn 76 [] []), (3, hd 0 ([].map (cdL 1 (cdL 1 cdI)).enc)), (5, .v (.int .i64 0))], [mk 1 49 ([].map (cdL 1 (cdL 1 cdI)).enc)]⟩) (Wk.trans (s1 := ⟨Fr 73 [(1, .fn 75 [] []), (2, .fn 76 [] []), (3, hd 0 ([].map (cdL 1 (cdL 1 cdI)).enc)), (5, .v (.int .i64 0))], [mk 1 49 ([].map (cdL 1 (cdL 1 cdI)).enc)]⟩) Wk.none (Wk.sel2 [0] (by kernel_rfl) (by kernel_rfl) (by kernel_rfl) ⟨⟨_, rfl, bu_none⟩, trivial⟩ ⟨lu (by kernel_rfl) (by kernel_rfl), lu (by kernel_rfl) (by kernel_rfl), lu (by kernel_rfl) (by kernel_rfl), lu (by kernel_rfl) (by kernel_rfl), trivial⟩)) (evening_Kirkman_1_ok  _ [] 0 _ hr20)) ?_
  refine Sem.seq ?_
  refine Sem.runS (s1 := ⟨Fr 73 [(0, hd 0 (r20.map (cdL 1 (cdL 1 cdI)).enc))], [mk 1 49 (r20.map (cdL 1 (cdL 1 cdI)).enc)]⟩) ?_ ?_
  · refine RunS.segF (n := 73) e_evening_Kirkman_ok 2 [(0, hd 0 (r20.map (cdL 1 (cdL 1 cdI)).enc))] [mk 1 49 (r20.map (cdL 1 (cdL 1 cdI)).enc)] (by kernel_rfl) ?_
    exact RunS.done rfl (Wk.sel2 [0] (by kernel_rfl) (by kernel_rfl) (by kernel_rfl) ⟨⟨_, rfl, bu_mk⟩, trivial⟩ ⟨lu_hd (b' := 0) (by kernel_rfl) (by kernel_rfl), trivial⟩)
  refine Sem.ret ?_
  have hq := Option.some.inj h; subst hq
  exact ⟨⟨Fr 73 [(0, .sl 1 (r20.map (cdL 1 (cdL 1 cdI)).enc))], []⟩, (Wk.trans (s1 := ⟨Fr 73 [(0, .sl 1 (r20.map (cdL 1 (cdL 1 cdI)).enc))], [none]⟩) (Wk.frzG 0 (.inl (by kernel_rfl)) ⟨.inl rfl, trivial⟩ ⟨⟨hd 0 (r20.map (cdL 1 (cdL 1 cdI)).enc), (by kernel_rfl), fz_hd (t := 49) (by kernel_rfl) enc_ok⟩, trivial⟩) (Wk.sel2 [] (by kernel_rfl) (by kernel_rfl) (by kernel_rfl) trivial ⟨lu (by kernel_rfl) (by kernel_rfl), trivial⟩)), .inr rfl, [.sl 1 (r20.map (cdL 1 (cdL 1 cdI)).enc)], (by kernel_rfl), (by kernel_rfl)⟩
def t_evening_Kirkman : List AV → Option AV := told cs_evening_Kirkman (fun a => evening_Kirkman ) er_evening_Kirkman
theorem x_evening_Kirkman : XOk 37 t_evening_Kirkman := by
  refine EnvOk.x (E := e_evening_Kirkman) (contract_ok e_evening_Kirkman_ok (fn := Tryd.f37) (c := cb_evening_Kirkman) ?h1 ?h2 ⟨Tryd.call37⟩ cs_evening_Kirkman (fun a => evening_Kirkman ) er_evening_Kirkman (fun a => (by show 0 ≤ 73; decide)) ?h3 ?h4) rfl rfl
  case h1 => kernel_rfl
  case h2 => kernel_rfl
  case h3 => intro b; kernel_rfl
  case h4 => exact fun a b h => evening_Kirkman_sem  b h
end Go.Proofs.YthofgamegondnaaDoor

namespace Go.Proofs.YthofgamegondnaaDoor
open Go.RowKit
/- trestle/evening.guests -/
noncomputable def e_evening_guests : Env := E0
theorem e_evening_guests_ok : EnvOk e_evening_guests := E0_ok
noncomputable def cb_evening_guests : Code := codeOf Tryd.f67
def evening_guests (x0 : Int) : Option (Bool) :=
  (if (decide (x0 ≥ 1)) = true then some (decide (x0 ≤ 64)) else some false).bind fun j2 =>
  some j2
def cs_evening_guests : Cs (Int × Unit) := (csC cdI csN)
def er_evening_guests (r : Bool) : AV := cdB.enc r
set_option maxHeartbeats 4000000 in
set_option maxRecDepth 100000 in
theorem evening_guests_sem (x0 : Int) (r : Bool) (h : evening_guests x0 = some r) : Sem e_evening_guests ⟨none, false⟩ cb_evening_guests ⟨Fr 9 (pairs0 0 (cs_evening_guests.enc (x0, ()))), []⟩ fun e s' => (e = .normal ∨ e = .ret) ∧ ∃ xs, resA e_evening_guests.P s'.fr s'.hp Tryd.f67.results.toList = some xs ∧ retA xs = er_evening_guests r := by
  unfold evening_guests at h
  refine Sem.wkQ (Sem.wk (s1 := ⟨Fr 9 [(0, .v (.int .i64 x0))], []⟩) (Wk.fr (by kernel_rfl)) ?_)
  refine Sem.seq ?_
  refine Sem.runS (s1 := ⟨Fr 9 [(0, .v (.int .i64 x0))], []⟩) ?_ ?_
  · refine RunS.segF (n := 9) e_evening_guests_ok 1 [(0, .v (.int .i64 x0))] [] (by kernel_rfl) ?_
    exact RunS.done rfl (Wk.fr (by kernel_rfl))
  refine Sem.seq ?_
  obtain ⟨j2, hj2, h⟩ := Option.bind_eq_some_iff.1 h
  refine Sem.runS (s1 := ⟨Fr 9 [(2, .v (.bool j2))], []⟩) ?_ ?_
  · refine RunS.segF (n := 9) e_evening_guests_ok 3 [(0, .v (.int .i64 x0)), (5, .v (.bool (decide (x0 ≥ 1))))] [] (by kernel_rfl) ?_
    rcases Bool.eq_false_or_eq_true (decide (x0 ≥ 1)) with hc3 | hc3
    · rw [if_pos hc3] at hj2
      rw [hc3]
      refine RunS.segF (n := 9) e_evening_guests_ok 4 [(2, .v (.bool (decide (x0 ≤ 64))))] [] (by kernel_rfl) ?_
      have hq := Option.some.inj hj2; subst hq
      exact RunS.done rfl (Wk.fr (by kernel_rfl))
    · rw [if_f hc3] at hj2
      rw [hc3]
      refine RunS.segF (n := 9) e_evening_guests_ok 4 [(2, .v (.bool false))] [] (by kernel_rfl) ?_
      have hq := Option.some.inj hj2; subst hq
      exact RunS.done rfl (Wk.fr (by kernel_rfl))
  refine Sem.ret ?_
  have hq := Option.some.inj h; subst hq
  exact ⟨⟨Fr 9 [(2, .v (.bool j2))], []⟩, (Wk.fr (by kernel_rfl)), .inr rfl, [.v (.bool j2)], (by kernel_rfl), (by kernel_rfl)⟩
def t_evening_guests : List AV → Option AV := told cs_evening_guests (fun a => evening_guests a.1) er_evening_guests
theorem x_evening_guests : XOk 67 t_evening_guests := by
  refine EnvOk.x (E := e_evening_guests) (contract_ok e_evening_guests_ok (fn := Tryd.f67) (c := cb_evening_guests) ?h1 ?h2 ⟨Tryd.call67⟩ cs_evening_guests (fun a => evening_guests a.1) er_evening_guests (fun a => (by show 1 ≤ 9; decide)) ?h3 ?h4) rfl rfl
  case h1 => kernel_rfl
  case h2 => kernel_rfl
  case h3 => intro b; kernel_rfl
  case h4 => exact fun a b h => evening_guests_sem a.1 b h
end Go.Proofs.YthofgamegondnaaDoor
