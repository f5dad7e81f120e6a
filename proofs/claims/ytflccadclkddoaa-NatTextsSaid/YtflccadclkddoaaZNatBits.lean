-- Out of texts of this seat by a program of this session: what the claim does not reach is struck
import Derived.Test.YtflccadclkddoaaZNatPlain
namespace Go.Proofs.Ytflccadclkddoaa.NatPlain
def bl (n : Int) : Nat := if h : n ≤ 0 then 0 else bl (n / 2) + 1
termination_by n.toNat
decreasing_by omega
theorem bl_zero : bl 0 = 0 := by unfold bl; rfl
theorem bl_pos {n : Int} (h : 0 < n) : bl n = bl (n / 2) + 1 := by rw [bl, dif_neg (by omega)]
theorem bl_le {n : Int} {k : Nat} (h0 : 0 ≤ n) : bl n ≤ k ↔ n < 2 ^ k := by
  induction k generalizing n with
  | zero =>
    by_cases h : n = 0
    · rw [h, bl_zero]; simp
    · rw [bl_pos (by omega)]; simp; omega
  | succ k ih =>
    by_cases h : n = 0
    · rw [h, bl_zero]; simp; exact Int.pow_pos (by decide)
    · rw [bl_pos (by omega)]
      have := ih (n := n / 2) (by omega)
      rw [Int.pow_succ]
      omega
theorem lt_bl {n : Int} (h0 : 0 ≤ n) : n < 2 ^ bl n := (bl_le h0).1 (Nat.le_refl _)
theorem bl_of {n : Int} {k : Nat} (h0 : (2 : Int) ^ k ≤ n) (h1 : n < 2 ^ (k + 1)) : bl n = k + 1 := by
  have pos : (0 : Int) < 2 ^ k := Int.pow_pos (by decide)
  have h2 := (bl_le (n := n) (k := k + 1) (by omega)).2 h1
  have h3 : ¬ bl n ≤ k := fun h => by have := (bl_le (n := n) (k := k) (by omega)).1 h; omega
  omega
theorem bl_ge {n : Int} (h : 0 < n) : ∃ k, bl n = k + 1 ∧ (2 : Int) ^ k ≤ n := by
  obtain ⟨k, hk⟩ : ∃ k, bl n = k + 1 := ⟨bl (n / 2), bl_pos h⟩
  refine ⟨k, hk, ?_⟩
  rcases Int.lt_or_le n (2 ^ k) with q | q
  · have := (bl_le (n := n) (k := k) (by omega)).2 q
    omega
  · exact q
theorem bl_div {n : Int} (h0 : 0 ≤ n) (m : Nat) : bl (n / 2 ^ m) = bl n - m := by
  induction m generalizing n with
  | zero => simp
  | succ m ih =>
    rw [Int.pow_succ, Int.mul_comm, ← Int.ediv_ediv_of_nonneg (by decide), ih (by omega)]
    by_cases h : n = 0
    · rw [h]; simp [bl_zero]
    · rw [bl_pos (n := n) (by omega)]
      omega
theorem pow32 (k : Nat) : (4294967296 : Int) ^ k = 2 ^ (32 * k) := by
  rw [Int.pow_mul]
  rfl
theorem len_bl {n : Int} {k : Nat} (h0 : 0 ≤ n) : len n ≤ k ↔ bl n ≤ 32 * k := by rw [len_le h0, bl_le h0, pow32]
theorem bl_V (t : List Int) (ht : Lim t) (h : 0 < t.length) (hn : t[t.length - 1] ≠ 0) : bl (V t) = 32 * (t.length - 1) + bl t[t.length - 1] := by
  have hi : t.length - 1 < t.length := by omega
  have hg := ht.get _ hi
  have e := V_split t (t.length - 1) (by omega)
  rw [V_drop t _ hi, List.drop_eq_nil_of_le (by omega)] at e
  have h1 := V_lt (ht.take (t.length - 1))
  have h2 := V_nonneg (ht.take (t.length - 1))
  rw [List.length_take, Nat.min_eq_left (by omega)] at h1
  obtain ⟨k, hk, h3⟩ := bl_ge (n := t[t.length - 1]) (by omega)
  have h4 := lt_bl (n := t[t.length - 1]) (by omega)
  rw [hk] at h4
  rw [hk, show 32 * (t.length - 1) + (k + 1) = (32 * (t.length - 1) + k) + 1 by omega]
  simp only [V, Int.mul_zero, Int.add_zero] at e
  have pos : (0 : Int) < 4294967296 ^ (t.length - 1) := Int.pow_pos (by decide)
  have h5 : (4294967296 : Int) ^ (t.length - 1) * 2 ^ k ≤ 4294967296 ^ (t.length - 1) * t[t.length - 1] := Int.mul_le_mul_of_nonneg_left h3 (by omega)
  have h6 : (4294967296 : Int) ^ (t.length - 1) * (t[t.length - 1] + 1) ≤ 4294967296 ^ (t.length - 1) * 2 ^ (k + 1) := Int.mul_le_mul_of_nonneg_left (by omega) (by omega)
  rw [Int.mul_add, Int.mul_one] at h6
  refine bl_of ?_ ?_
  · rw [Int.pow_add, ← pow32]; omega
  · rw [Nat.add_assoc, Int.pow_add, ← pow32]; omega
theorem trim_top (l : List Int) (h : 0 < (trimL l).length) : (trimL l)[(trimL l).length - 1] ≠ 0 := by
  have := trim_last l h
  have e := trim_take l
  have hl := trim_len l
  have e2 : (trimL l)[(trimL l).length - 1] = l[(trimL l).length - 1]'(by omega) := by
    have h2 : (trimL l)[(trimL l).length - 1]? = (l.take (trimL l).length)[(trimL l).length - 1]? := by rw [e]
    rw [List.getElem?_take, if_pos (by omega), List.getElem?_eq_getElem (by omega), List.getElem?_eq_getElem (by omega)] at h2
    exact Option.some.inj h2
  rw [e2]
  rwa [List.getD_eq_getElem?_getD, List.getElem?_eq_getElem (by omega)] at this
def sh (D : Int) : List Int → List Int
  | [] => []
  | x :: l => ((x + 4294967296 * l.headD 0) / D % 4294967296) :: sh D l
theorem div_of {n D q r : Int} (h : n = D * q + r) (h0 : 0 ≤ r) (h1 : r < D) : n / D = q := by
  rw [h, Int.add_comm, Int.add_mul_ediv_left _ _ (by omega), Int.ediv_eq_zero_of_lt h0 h1, Int.zero_add]
end Go.Proofs.Ytflccadclkddoaa.NatPlain
