/- Plain lemmas for the printed functions. -/
import Derived.Test.YthofgamegondnaaDoorCx
namespace Go.Proofs.YthofgamegondnaaDoor
open Go.RowKit
def in64 (n : Int) : Prop := -9223372036854775808 ≤ n ∧ n ≤ 9223372036854775807
theorem wr_i {n : Int} (h1 : -9223372036854775808 ≤ n) (h2 : n ≤ 9223372036854775807) : wr .i64 n = n := by
  show (if _ then n else _) = n
  rw [if_pos ⟨h1, h2⟩]
theorem idx_app {α : Type} (pre : List α) (v : α) (r : List α) : idx (pre ++ v :: r) (pre.length : Int) = some v := by
  unfold idx
  rw [if_pos (by omega)]
  simp
theorem idx_lt {α : Type} {xs : List α} {i : Nat} (h : i < xs.length) : idx xs (i : Int) = some xs[i] := by
  unfold idx
  rw [if_pos (by omega)]
  simp [h]
theorem snoc_len {α : Type} (pre : List α) (v : α) : ((pre.length : Int) + 1) = ((pre ++ [v]).length : Int) := by simp
theorem snoc_app {α : Type} (pre : List α) (v : α) (r : List α) : pre ++ v :: r = (pre ++ [v]) ++ r := by simp
theorem wr_snoc {α : Type} (pre : List α) (v : α) (r : List α) (h : (pre ++ v :: r).length ≤ 1000000000) : wr .i64 ((pre.length : Int) + 1) = ((pre ++ [v]).length : Int) := by
  simp at h
  rw [wr_i (by omega) (by omega)]; simp
theorem lt_len {α : Type} (pre : List α) (v : α) (r : List α) : decide ((pre.length : Int) < ((pre ++ v :: r).length : Int)) = true := by
  simp; omega
theorem nlt_len {α : Type} (pre : List α) : decide ((pre.length : Int) < ((pre ++ []).length : Int)) = false := by simp
theorem capOk_le {b n : Nat} (hb : b ≤ 1000) (h : n ≤ 1000000000) : capOk b n = true := by
  have h1 : n * b ≤ 1000000000 * 1000 := Nat.mul_le_mul h hb
  unfold capOk
  rw [Bool.and_eq_true]
  exact ⟨Nat.ble_eq_true_of_le (by omega), Nat.ble_eq_true_of_le (by omega)⟩
theorem tdiv2 (n : Int) (h : 0 ≤ n) : n.tdiv 2 = n / 2 := Int.tdiv_eq_ediv_of_nonneg h
end Go.Proofs.YthofgamegondnaaDoor
