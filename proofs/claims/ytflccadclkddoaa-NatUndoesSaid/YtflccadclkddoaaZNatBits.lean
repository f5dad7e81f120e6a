-- Out of texts of this seat by a program of this session: what the claim does not reach is struck
import Derived.Test.YtflccadclkddoaaZNatPlain
namespace Go.Proofs.Ytflccadclkddoaa.NatPlain
def bl (n : Int) : Nat := if h : n ≤ 0 then 0 else bl (n / 2) + 1
termination_by n.toNat
decreasing_by omega
theorem bl_zero : bl 0 = 0 := by unfold bl; rfl
theorem bl_pos {n : Int} (h : 0 < n) : bl n = bl (n / 2) + 1 := by rw [bl, dif_neg (by omega)]
theorem bl_le {n : Int} {k : Nat} (h0 : 0 ≤ n) : bl n ≤ k ↔ n < 2 ^ k := by
  induction k generalizing n with
  | zero =>
    by_cases h : n = 0
    · rw [h, bl_zero]; simp
    · rw [bl_pos (by omega)]; simp; omega
  | succ k ih =>
    by_cases h : n = 0
    · rw [h, bl_zero]; simp; exact Int.pow_pos (by decide)
    · rw [bl_pos (by omega)]
      have := ih (n := n / 2) (by omega)
      rw [Int.pow_succ]
      omega
theorem lt_bl {n : Int} (h0 : 0 ≤ n) : n < 2 ^ bl n := (bl_le h0).1 (Nat.le_refl _)
theorem bl_of {n : Int} {k : Nat} (h0 : (2 : Int) ^ k ≤ n) (h1 : n < 2 ^ (k + 1)) : bl n = k + 1 := by
  have pos : (0 : Int) < 2 ^ k := Int.pow_pos (by decide)
  have h2 := (bl_le (n := n) (k := k + 1) (by omega)).2 h1
  have h3 : ¬ bl n ≤ k := fun h => by have := (bl_le (n := n) (k := k) (by omega)).1 h; omega
  omega
theorem bl_ge {n : Int} (h : 0 < n) : ∃ k, bl n = k + 1 ∧ (2 : Int) ^ k ≤ n := by
  obtain ⟨k, hk⟩ : ∃ k, bl n = k + 1 := ⟨bl (n / 2), bl_pos h⟩
  refine ⟨k, hk, ?_⟩
  rcases Int.lt_or_le n (2 ^ k) with q | q
  · have := (bl_le (n := n) (k := k) (by omega)).2 q
    omega
  · exact q
theorem bl_mul {n : Int} (h : 0 < n) (m : Nat) : bl (n * 2 ^ m) = bl n + m := by
  obtain ⟨k, hk, h1⟩ := bl_ge h
  have h2 := lt_bl (n := n) (by omega)
  rw [hk] at h2
  have pos : (0 : Int) < 2 ^ m := Int.pow_pos (by decide)
  rw [hk, show k + 1 + m = (k + m) + 1 by omega]
  refine bl_of ?_ ?_
  · rw [Int.pow_add]; exact Int.mul_le_mul_of_nonneg_right h1 (by omega)
  · rw [show k + m + 1 = k + 1 + m by omega, Int.pow_add]; exact Int.mul_lt_mul_of_pos_right h2 pos
theorem bl_div {n : Int} (h0 : 0 ≤ n) (m : Nat) : bl (n / 2 ^ m) = bl n - m := by
  induction m generalizing n with
  | zero => simp
  | succ m ih =>
    rw [Int.pow_succ, Int.mul_comm, ← Int.ediv_ediv_of_nonneg (by decide), ih (by omega)]
    by_cases h : n = 0
    · rw [h]; simp [bl_zero]
    · rw [bl_pos (n := n) (by omega)]
      omega
theorem bl_eq_zero {n : Int} (h0 : 0 ≤ n) : bl n = 0 ↔ n = 0 := by
  constructor
  · intro h
    rcases Int.lt_or_le 0 n with q | q
    · rw [bl_pos q] at h; cases h
    · omega
  · intro h; rw [h, bl_zero]
theorem pow32 (k : Nat) : (4294967296 : Int) ^ k = 2 ^ (32 * k) := by
  rw [Int.pow_mul]
  rfl
theorem len_bl {n : Int} {k : Nat} (h0 : 0 ≤ n) : len n ≤ k ↔ bl n ≤ 32 * k := by rw [len_le h0, bl_le h0, pow32]
theorem bl_V (t : List Int) (ht : Lim t) (h : 0 < t.length) (hn : t[t.length - 1] ≠ 0) : bl (V t) = 32 * (t.length - 1) + bl t[t.length - 1] := by
  have hi : t.length - 1 < t.length := by omega
  have hg := ht.get _ hi
  have e := V_split t (t.length - 1) (by omega)
  rw [V_drop t _ hi, List.drop_eq_nil_of_le (by omega)] at e
  have h1 := V_lt (ht.take (t.length - 1))
  have h2 := V_nonneg (ht.take (t.length - 1))
  rw [List.length_take, Nat.min_eq_left (by omega)] at h1
  obtain ⟨k, hk, h3⟩ := bl_ge (n := t[t.length - 1]) (by omega)
  have h4 := lt_bl (n := t[t.length - 1]) (by omega)
  rw [hk] at h4
  rw [hk, show 32 * (t.length - 1) + (k + 1) = (32 * (t.length - 1) + k) + 1 by omega]
  simp only [V, Int.mul_zero, Int.add_zero] at e
  have pos : (0 : Int) < 4294967296 ^ (t.length - 1) := Int.pow_pos (by decide)
  have h5 : (4294967296 : Int) ^ (t.length - 1) * 2 ^ k ≤ 4294967296 ^ (t.length - 1) * t[t.length - 1] := Int.mul_le_mul_of_nonneg_left h3 (by omega)
  have h6 : (4294967296 : Int) ^ (t.length - 1) * (t[t.length - 1] + 1) ≤ 4294967296 ^ (t.length - 1) * 2 ^ (k + 1) := Int.mul_le_mul_of_nonneg_left (by omega) (by omega)
  rw [Int.mul_add, Int.mul_one] at h6
  refine bl_of ?_ ?_
  · rw [Int.pow_add, ← pow32]; omega
  · rw [Nat.add_assoc, Int.pow_add, ← pow32]; omega
theorem trim_top (l : List Int) (h : 0 < (trimL l).length) : (trimL l)[(trimL l).length - 1] ≠ 0 := by
  have := trim_last l h
  have e := trim_take l
  have hl := trim_len l
  have e2 : (trimL l)[(trimL l).length - 1] = l[(trimL l).length - 1]'(by omega) := by
    have h2 : (trimL l)[(trimL l).length - 1]? = (l.take (trimL l).length)[(trimL l).length - 1]? := by rw [e]
    rw [List.getElem?_take, if_pos (by omega), List.getElem?_eq_getElem (by omega), List.getElem?_eq_getElem (by omega)] at h2
    exact Option.some.inj h2
  rw [e2]
  rwa [List.getD_eq_getElem?_getD, List.getElem?_eq_getElem (by omega)] at this
def sh (D : Int) : List Int → List Int
  | [] => []
  | x :: l => ((x + 4294967296 * l.headD 0) / D % 4294967296) :: sh D l
theorem sh_len (D : Int) (l : List Int) : (sh D l).length = l.length := by
  induction l with
  | nil => rfl
  | cons x l ih => simp [sh, ih]
theorem sh_lim (D : Int) (l : List Int) : Lim (sh D l) := by
  induction l with
  | nil => exact Lim.nil
  | cons x l ih => exact Lim.cons (by omega) (by omega) ih
theorem sh_alg (x y W D E xd yh yl a : Int) (hB : 4294967296 = D * E) (hy : y = yh * D + yl) (hx : x = xd * D + a) : x + 4294967296 * (y + 4294967296 * W) = D * ((xd + E * yl) + 4294967296 * (yh + E * W)) + a := by grind
theorem sh_alg2 (x y D E xd yh yl a : Int) (hB : 4294967296 = D * E) (hy : y = yh * D + yl) (hx : x = xd * D + a) : x + 4294967296 * y = D * ((xd + E * yl) + 4294967296 * yh) + a := by grind
theorem div_of {n D q r : Int} (h : n = D * q + r) (h0 : 0 ≤ r) (h1 : r < D) : n / D = q := by
  rw [h, Int.add_comm, Int.add_mul_ediv_left _ _ (by omega), Int.ediv_eq_zero_of_lt h0 h1, Int.zero_add]
theorem V_sh (D E : Int) (hD : 0 < D) (hE : 0 < E) (hB : 4294967296 = D * E) (l : List Int) (h : Lim l) : V (sh D l) = V l / D := by
  induction l with
  | nil => simp [sh, V]
  | cons x l ih =>
    have hx := h.head
    have ih := ih h.tail
    simp only [sh, V, ih]
    obtain ⟨y, W, hy0, hy1, hh, hv⟩ : ∃ y W : Int, 0 ≤ y ∧ y < 4294967296 ∧ l.headD 0 = y ∧ V l = y + 4294967296 * W := by
      cases l with
      | nil => exact ⟨0, 0, by decide, by decide, rfl, rfl⟩
      | cons z l => exact ⟨z, V l, h.tail.head.1, h.tail.head.2, rfl, rfl⟩
    rw [hh, hv]
    have ey := Int.mul_ediv_add_emod y D
    have ex := Int.mul_ediv_add_emod x D
    have a0 := Int.emod_nonneg x (show D ≠ 0 by omega)
    have a1 := Int.emod_lt_of_pos x hD
    have b0 := Int.emod_nonneg y (show D ≠ 0 by omega)
    have b1 := Int.emod_lt_of_pos y hD
    have q1 := sh_alg x y W D E (x / D) (y / D) (y % D) (x % D) hB (by rw [Int.mul_comm]; omega) (by rw [Int.mul_comm]; omega)
    have q2 := sh_alg2 x y D E (x / D) (y / D) (y % D) (x % D) hB (by rw [Int.mul_comm]; omega) (by rw [Int.mul_comm]; omega)
    have q3 : y + 4294967296 * W = D * (y / D + E * W) + y % D := by
      rw [hB, Int.mul_add, Int.mul_assoc]
      omega
    rw [div_of q1 a0 a1, div_of q2 a0 a1, div_of q3 b0 b1]
    have hxE : x / D < E := by
      apply Int.ediv_lt_of_lt_mul hD
      rw [Int.mul_comm, ← hB]
      omega
    have hx0 : 0 ≤ x / D := Int.ediv_nonneg hx.1 (by omega)
    have hy2 : E * (y % D) ≤ E * (D - 1) := Int.mul_le_mul_of_nonneg_left (by omega) (by omega)
    have hy3 : 0 ≤ E * (y % D) := Int.mul_nonneg (by omega) b0
    rw [Int.mul_sub, Int.mul_one, Int.mul_comm E D, ← hB] at hy2
    generalize E * (y % D) = z at hy2 hy3 ⊢
    omega
end Go.Proofs.Ytflccadclkddoaa.NatPlain
