-- Out of texts of this seat by a program of this session: what the claim does not reach is struck
import Derived.Test.YtflccadclkddoaaZNatPlain
namespace Go.Proofs.Ytflccadclkddoaa.NatPlain
section est
variable {top u2 v1 v2 B ul vl U W : Int}
theorem est_less {qh rh : Int} (hB : 0 < B) (hul : ul < B) (hvl : 0 ≤ vl) (hU : U = (top * 4294967296 + u2) * B + ul) (hW : W = (v1 * 4294967296 + v2) * B + vl)
    (ht : top = qh * v1 + rh) (hq : 0 ≤ qh) (h : rh * 4294967296 + u2 < qh * v2) : U < qh * W := by
  have h1 : (rh * 4294967296 + u2 + 1) * B ≤ qh * v2 * B := Int.mul_le_mul_of_nonneg_right (by omega) (by omega)
  have h2 : 0 ≤ qh * vl := Int.mul_nonneg hq hvl
  have e1 : qh * W = qh * v1 * 4294967296 * B + qh * v2 * B + qh * vl := by rw [hW]; grind
  have e2 : U = qh * v1 * 4294967296 * B + (rh * 4294967296 + u2 + 1) * B - B + ul := by rw [hU, ht]; grind
  omega
theorem est_first (hB : 0 < B) (hul : ul < B) (hvl : 0 ≤ vl) (hv2 : 0 ≤ v2) (hu2 : u2 < 4294967296) (hU : U = (top * 4294967296 + u2) * B + ul) (hW : W = (v1 * 4294967296 + v2) * B + vl)
    (h0 : 0 ≤ top) (hv1 : 0 < v1) : U < (top / v1 + 1) * W := by
  have hq : 0 ≤ top / v1 := Int.ediv_nonneg h0 (by omega)
  have h1 : top + 1 ≤ (top / v1 + 1) * v1 := by
    have := Int.lt_ediv_add_one_mul_self top hv1
    omega
  have h2 : (top + 1) * (4294967296 * B) ≤ (top / v1 + 1) * v1 * (4294967296 * B) := Int.mul_le_mul_of_nonneg_right h1 (by omega)
  have h3 : 0 ≤ (top / v1 + 1) * (v2 * B + vl) := Int.mul_nonneg (by omega) (by have := Int.mul_nonneg hv2 (Int.le_of_lt hB); omega)
  have h4 : (u2 + 1) * B ≤ 4294967296 * B := Int.mul_le_mul_of_nonneg_right (by omega) (by omega)
  have e1 : (top / v1 + 1) * W = (top / v1 + 1) * v1 * (4294967296 * B) + (top / v1 + 1) * (v2 * B + vl) := by rw [hW]; grind
  have e2 : U = (top + 1) * (4294967296 * B) - 4294967296 * B + (u2 + 1) * B - B + ul := by rw [hU]; grind
  omega
theorem est_last {qh rh : Int} (hB : 0 < B) (hul : 0 ≤ ul) (hvl0 : 0 ≤ vl) (hvl : vl ≤ B) (hv2 : 0 ≤ v2) (hU : U = (top * 4294967296 + u2) * B + ul) (hW : W = (v1 * 4294967296 + v2) * B + vl)
    (ht : top = qh * v1 + rh) (hq : 0 ≤ qh) (hqb : qh < 4294967296) (hv1 : 0 < v1) (h : qh * v2 ≤ rh * 4294967296 + u2) : (qh - 1) * W ≤ U := by
  have h1 : qh * v2 * B ≤ (rh * 4294967296 + u2) * B := Int.mul_le_mul_of_nonneg_right h (by omega)
  have h2 : qh * vl ≤ qh * B := Int.mul_le_mul_of_nonneg_left hvl hq
  have h3 : qh * B ≤ 4294967296 * B := Int.mul_le_mul_of_nonneg_right (by omega) (by omega)
  have h4 : 1 * (4294967296 * B) ≤ v1 * (4294967296 * B) := Int.mul_le_mul_of_nonneg_right (by omega) (by omega)
  have h5 : 0 ≤ v2 * B := Int.mul_nonneg hv2 (by omega)
  have e1 : (qh - 1) * W = qh * v1 * 4294967296 * B + qh * v2 * B + qh * vl - W := by rw [hW]; grind
  have e2 : U = qh * v1 * 4294967296 * B + (rh * 4294967296 + u2) * B + ul := by rw [hU, ht]; grind
  have e3 : W = v1 * (4294967296 * B) + v2 * B + vl := by rw [hW]; grind
  omega
end est
end Go.Proofs.Ytflccadclkddoaa.NatPlain
