/- Plain mathematics: how many bits a number has; no program. -/
import Derived.Test.YtjefhpbliihonaaDoorProg
namespace Go.Proofs.YtjefhpbliihonaaDoor.Bl

/-- How many bits a number has. -/
def bl (n : Int) : Nat := if h : n ≤ 0 then 0 else bl (n / 2) + 1
termination_by n.toNat
decreasing_by omega
theorem bl_zero : bl 0 = 0 := by unfold bl; rfl
theorem bl_pos {n : Int} (h : 0 < n) : bl n = bl (n / 2) + 1 := by rw [bl, dif_neg (by omega)]
theorem bl_le {n : Int} {k : Nat} (h0 : 0 ≤ n) : bl n ≤ k ↔ n < 2 ^ k := by
  induction k generalizing n with
  | zero =>
    by_cases h : n = 0
    · rw [h, bl_zero]; simp
    · rw [bl_pos (by omega)]; simp; omega
  | succ k ih =>
    by_cases h : n = 0
    · rw [h, bl_zero]; simp; exact Int.pow_pos (by decide)
    · rw [bl_pos (by omega)]
      have := ih (n := n / 2) (by omega)
      rw [Int.pow_succ]
      omega
theorem lt_bl {n : Int} (h0 : 0 ≤ n) : n < 2 ^ bl n := (bl_le h0).1 (Nat.le_refl _)
theorem bl_of {n : Int} {k : Nat} (h0 : (2 : Int) ^ k ≤ n) (h1 : n < 2 ^ (k + 1)) : bl n = k + 1 := by
  have pos : (0 : Int) < 2 ^ k := Int.pow_pos (by decide)
  have h2 := (bl_le (n := n) (k := k + 1) (by omega)).2 h1
  have h3 : ¬ bl n ≤ k := fun h => by have := (bl_le (n := n) (k := k) (by omega)).1 h; omega
  omega
theorem bl_ge {n : Int} (h : 0 < n) : ∃ k, bl n = k + 1 ∧ (2 : Int) ^ k ≤ n := by
  obtain ⟨k, hk⟩ : ∃ k, bl n = k + 1 := ⟨bl (n / 2), bl_pos h⟩
  refine ⟨k, hk, ?_⟩
  rcases Int.lt_or_le n (2 ^ k) with q | q
  · have := (bl_le (n := n) (k := k) (by omega)).2 q
    omega
  · exact q
theorem bl_mul {n : Int} (h : 0 < n) (m : Nat) : bl (n * 2 ^ m) = bl n + m := by
  obtain ⟨k, hk, h1⟩ := bl_ge h
  have h2 := lt_bl (n := n) (by omega)
  rw [hk] at h2
  have pos : (0 : Int) < 2 ^ m := Int.pow_pos (by decide)
  rw [hk, show k + 1 + m = (k + m) + 1 by omega]
  refine bl_of ?_ ?_
  · rw [Int.pow_add]; exact Int.mul_le_mul_of_nonneg_right h1 (by omega)
  · rw [show k + m + 1 = k + 1 + m by omega, Int.pow_add]; exact Int.mul_lt_mul_of_pos_right h2 pos
theorem bl_div {n : Int} (h0 : 0 ≤ n) (m : Nat) : bl (n / 2 ^ m) = bl n - m := by
  induction m generalizing n with
  | zero => simp
  | succ m ih =>
    rw [Int.pow_succ, Int.mul_comm, ← Int.ediv_ediv_of_nonneg (by decide), ih (by omega)]
    by_cases h : n = 0
    · rw [h]; simp [bl_zero]
    · rw [bl_pos (n := n) (by omega)]
      omega
theorem bl_eq_zero {n : Int} (h0 : 0 ≤ n) : bl n = 0 ↔ n = 0 := by
  constructor
  · intro h
    rcases Int.lt_or_le 0 n with q | q
    · rw [bl_pos q] at h; cases h
    · omega
  · intro h; rw [h, bl_zero]

end Go.Proofs.YtjefhpbliihonaaDoor.Bl
