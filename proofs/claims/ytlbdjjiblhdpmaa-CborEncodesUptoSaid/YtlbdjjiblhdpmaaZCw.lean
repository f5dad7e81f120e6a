-- Out of texts of this seat by a program of this session: what the claim does not reach is struck
import Derived.Test.YtlbdjjiblhdpmaaZChk
import Derived.Deep.CutBlock
import Derived.Deep.DeepCutAuto
import Derived.Outline
namespace Go.Proofs.Ytlbdjjiblhdpmaa.Cw
open Go Go.RowKit Go.Shelf Go.Proofs.Ytlbdjjiblhdpmaa.Each Go.Proofs.YtlbdjjiblhdpmaaW.PrintWords Go.Proofs.YtlbdjjiblhdpmaaW.PrintLast
set_option linter.unusedVariables false
set_option linter.unusedSimpArgs false
abbrev BR (W : World) (b : Nat) (v : Value) (xs : List Int) : Prop := (Kd.int .u8).R 5 W b (fun _ => True) v xs
theorem u8_wrap (x : Int) : IntKind.u8.wrap x = x % 256 := by simp [IntKind.wrap, IntKind.bits, IntKind.signed]
theorem alloc_drew (w : World) (o : Obj) : (w.alloc o).drew = w.drew.alloc o := rfl
theorem info5 : (Try.prog.info? 5).map (fun i => (i.zero, i.size, i.bytes)) = some (some (.int .u8 0), 1, 1) := by kernel_rfl
theorem slice_of {W : World} {b : Nat} {v : Value} {xs : List Int} (h : BR W b v xs) : ∃ A n c, v = .slice A n c := let ⟨A, c, h⟩ := Kd.R_slice h; ⟨A, _, c, h⟩
theorem BR.weaken {W : World} {b b' : Nat} {v : Value} {xs : List Int} (h : BR W b v xs) (hb : b' ≤ b) : BR W b' v xs := Kd.R_of_own (own_weaken (Kd.own_of_R h) hb) (fun _ _ => trivial)
theorem BR.lit {W : World} {b : Nat} (hb : b ≤ W.heap.size) (x : Int) : BR (W.alloc (.cells #[.int .u8 x] 5 (0, 0))) b (.slice (some ⟨W.heap.size, 0, none⟩) 1 1) [x] :=
  Kd.R_of_own (by have h2 := World.ownsRow_lit (base := b) (e := 5) (size := 1) W #[.int .u8 x] 1 hb (by decide) rfl; exact h2) (fun _ _ => trivial)
def outR (n : Int) : Nat → List Int
  | 0 => []
  | k + 1 => n / 2 ^ (8 * k) % 256 :: outR n k
theorem outR_len (n : Int) : ∀ k, (outR n k).length = k
  | 0 => rfl
  | k + 1 => by simp [outR, outR_len n k]
def szR (x : Int) : Nat := if x / 256 = 0 then 0 else if x / 65536 = 0 then 1 else if x / 4294967296 = 0 then 2 else 3
theorem szR_le (n : Int) : 2 ^ szR n ≤ 8 := by unfold szR; (repeat' split) <;> decide
theorem szR_le3 (n : Int) : szR n ≤ 3 := by unfold szR; (repeat' split) <;> decide
theorem number_calls (b : Bool) (w : World) : Calls Try.prog 21 #[.bool b] w fun e w' => e = .returned (.int .i64 (if b = true then 1 else 0)) ∧ w = w' := by
  cases b
  all_goals
    go_enter Try.func21, Try.ntmps21
    go_wp2
    go_ret
    exact ⟨rfl, rfl⟩
def sizeP (n : Int) : Nat := if n < 24 then 4 else szR n
theorem size_calls (n : Int) (h0 : 0 ≤ n) (w : World) : Calls Try.prog 46 #[.int .u64 n] w fun e w' => e = .returned (.int .i64 (sizeP n : Int)) ∧ w = w' := by
  obtain ⟨z, hz⟩ : ∃ z, sizeP n = z := ⟨_, rfl⟩
  rw [hz]
  by_cases h : n < 24
  · rw [sizeP, if_pos h] at hz
    subst hz
    have hb : decide (n < 24) = true := decide_eq_true h
    go_enter Try.func46, Try.ntmps46
    go_wp2
    go_ret
    exact ⟨rfl, rfl⟩
  · rw [sizeP, if_neg h, szR] at hz
    have hb : decide (n < 24) = false := decide_eq_false h
    by_cases h1 : n / 256 = 0
    · rw [if_pos h1] at hz
      subst hz
      have hb1 : (n / 256 == 0) = true := by simp [h1]
      go_enter Try.func46, Try.ntmps46
      go_wp2
      go_ret
      exact ⟨rfl, rfl⟩
    · rw [if_neg h1] at hz
      have hb1 : (n / 256 == 0) = false := by simp [h1]
      by_cases h2 : n / 65536 = 0
      · rw [if_pos h2] at hz
        subst hz
        have hb2 : (n / 65536 == 0) = true := by simp [h2]
        go_enter Try.func46, Try.ntmps46
        go_wp2
        go_ret
        exact ⟨rfl, rfl⟩
      · rw [if_neg h2] at hz
        have hb2 : (n / 65536 == 0) = false := by simp [h2]
        by_cases h3 : n / 4294967296 = 0
        · rw [if_pos h3] at hz
          subst hz
          have hb3 : (n / 4294967296 == 0) = true := by simp [h3]
          go_enter Try.func46, Try.ntmps46
          go_wp2
          go_ret
          exact ⟨rfl, rfl⟩
        · rw [if_neg h3] at hz
          subst hz
          have hb3 : (n / 4294967296 == 0) = false := by simp [h3]
          go_enter Try.func46, Try.ntmps46
          go_wp2
          go_ret
          exact ⟨rfl, rfl⟩
theorem may_calls (m n : Int) (h0 : 0 ≤ m) (h6 : m ≤ 6) (w : World) : Calls Try.prog 44 #[.int .i64 m, .int .u64 n] w fun e w' => e = .returned (.bool true) ∧ w = w' := by
  have hb0 : decide (m < 0) = false := decide_eq_false (by omega)
  have hb1 : decide (7 < m) = false := decide_eq_false (by omega)
  have hb2 : (m == 7) = false := beq_eq_false_iff_ne.mpr (by omega)
  go_enter Try.func44, Try.ntmps44
  go_wp2
  go_ret
  exact ⟨rfl, rfl⟩
theorem or_low (m n : Int) (h0 : 0 ≤ m) (h6 : m ≤ 7) (hn : 0 ≤ n) (hn2 : n < 32) : bits BinOp.or IntKind.u8 (m * 32) n = m * 32 + n := by
  obtain ⟨a, rfl⟩ := Int.eq_ofNat_of_zero_le h0
  obtain ⟨b, rfl⟩ := Int.eq_ofNat_of_zero_le hn
  have hd : ∀ a : Fin 8, ∀ b : Fin 32, bits BinOp.or IntKind.u8 (((a.val : Nat) : Int) * 32) ((b.val : Nat) : Int) = ((a.val : Nat) : Int) * 32 + ((b.val : Nat) : Int) := by decide +kernel
  exact hd ⟨a, by omega⟩ ⟨b, by omega⟩
theorem or_24 (m : Int) (h0 : 0 ≤ m) (h6 : m ≤ 7) : bits BinOp.or IntKind.i64 (m * 32) 24 = m * 32 + 24 := by
  obtain ⟨a, rfl⟩ := Int.eq_ofNat_of_zero_le h0
  have hd : ∀ a : Fin 8, bits BinOp.or IntKind.i64 (((a.val : Nat) : Int) * 32) 24 = ((a.val : Nat) : Int) * 32 + 24 := by decide +kernel
  exact hd ⟨a, by omega⟩
theorem or_31 (m : Int) (h0 : 0 ≤ m) (h6 : m ≤ 7) : bits BinOp.or IntKind.i64 (m * 32) 31 = m * 32 + 31 := by
  obtain ⟨a, rfl⟩ := Int.eq_ofNat_of_zero_le h0
  have hd : ∀ a : Fin 8, bits BinOp.or IntKind.i64 (((a.val : Nat) : Int) * 32) 31 = ((a.val : Nat) : Int) * 32 + 31 := by decide +kernel
  exact hd ⟨a, by omega⟩
def loP (n : Int) : Int := if n < 24 then n else 24 + szR n
def tlP (n : Int) : List Int := if n < 24 then [] else outR n (2 ^ szR n)
theorem loP_lt (n : Int) (h0 : 0 ≤ n) : 0 ≤ loP n ∧ loP n < 32 := by
  have := szR_le3 n
  unfold loP; split <;> omega
def headP (m n : Int) : List Int := (m * 32 + loP n) :: tlP n
set_option maxRecDepth 100000 in
set_option maxHeartbeats 4000000 in
theorem write_calls (m n : Int) (h0 : 0 ≤ m) (h6 : m ≤ 6) (hn0 : 0 ≤ n) (hn1 : n ≤ 18446744073709551615) (w : World) :
    Calls Try.prog 45 #[.int .i64 m, .int .u64 n, .int .i64 (sizeP n : Int)] w fun e w' => ∃ v, e = .returned v ∧ BR w' w.heap.size v (headP m n) ∧ Below w.heap.size w w' := by
  by_cases h : n < 24
  · have hz : sizeP n = 4 := by simp [sizeP, h]
    have hw : IntKind.u8.wrap (m * 32) = m * 32 := by rw [u8_wrap]; omega
    have hw2 : IntKind.u8.wrap n = n := by rw [u8_wrap]; omega
    have ho := or_low m n h0 (by omega) hn0 (by omega)
    have HP := Aside0.mk (show headP m n = [m * 32 + n] by simp [headP, loP, tlP, h])
    rw [hz]
    clear hz
    go_enter Try.func45, Try.ntmps45
    go_wp2
    go_ret
    exact ⟨_, rfl, by rw [HP.out]; exact BR.lit (Nat.le_refl _) _, below_alloc (Below.refl _ _) _⟩
  · obtain ⟨z, hz⟩ : ∃ z, szR n = z := ⟨_, rfl⟩
    have hz3 : z ≤ 3 := by rw [← hz]; exact szR_le3 n
    have hs : sizeP n = z := by simp [sizeP, h, hz]
    have HP := Aside0.mk (show headP m n = (m * 32 + (24 + (z : Int))) :: outR n (2 ^ z) by simp [headP, loP, tlP, h, hz])
    have h24 := or_24 m h0 (by omega)
    rw [hs]
    clear hs hz
    have hz4 : ((z : Int) == 4) = false := beq_eq_false_iff_ne.mpr (by omega)
    have hp : (2 : Int) ^ z ≤ 8 := by rcases (show z = 0 ∨ z = 1 ∨ z = 2 ∨ z = 3 by omega) with rfl | rfl | rfl | rfl <;> decide
    have hp1 : (1 : Int) ≤ (2 : Int) ^ z := by rcases (show z = 0 ∨ z = 1 ∨ z = 2 ∨ z = 3 by omega) with rfl | rfl | rfl | rfl <;> decide
    obtain ⟨q, hq⟩ : ∃ q : Nat, 2 ^ z = q := ⟨_, rfl⟩
    have hqi : (2 : Int) ^ z = (q : Int) := by rw [← hq]; simp
    rw [hq] at HP
    rw [hqi] at hp hp1
    have hsh : IntKind.i64.wrap (1 * 2 ^ z) = (q : Int) := by rw [Int.one_mul, hqi, i64_w]; unfold wrap64; omega
    have hsh2 : IntKind.i64.wrap (2 ^ z) = (q : Int) := by rw [hqi, i64_w]; unfold wrap64; omega
    clear hq
    go_enter Try.func45, Try.ntmps45
    go_wp2
    have HW0 := Aside0.mk (show BR (w.alloc (.cells #[.int .u8 (m * 32 + 24 + (z : Int))] 5)) w.heap.size (.slice (some ⟨w.heap.size, 0, none⟩) 1 1) [m * 32 + 24 + (z : Int)] from BR.lit (Nat.le_refl _) _)
    have HB0 := Aside0.mk (show Below w.heap.size w (w.alloc (.cells #[.int .u8 (m * 32 + 24 + (z : Int))] 5)) from below_alloc (Below.refl _ _) _)
    go_loopw [7, 8] (fun v i wr => ∃ (j : Nat) (ys : List Int), i = .int .i64 ((j : Int) - 1) ∧ j ≤ q ∧ ys.length ≤ 100 ∧ Aside0 (ys ++ outR n j = headP m n) ∧ Aside0 (BR wr w.heap.size v ys) ∧ Aside0 (Below w.heap.size w wr)) (fun _ i _ => (intOf i + 1).toNat)
    case atStart => exact ⟨q, [m * 32 + 24 + (z : Int)], rfl, Nat.le_refl _, by simp, ⟨by rw [HP.out]; simp; omega⟩, HW0, HB0⟩
    case round =>
      obtain ⟨j, ys, rfl, hj, hys, HE, HR, HB⟩ := hrel
      obtain ⟨A3, n3, c3, rfl⟩ := slice_of HR.out
      clear HW0 HB0
      cases j with
      | zero =>
        go_wp2
        go_ret
        exact ⟨_, rfl, by have h := HE.out; simp only [outR, List.append_nil] at h; rw [← h]; exact HR.out, HB.out⟩
      | succ i =>
        rw [show (((i + 1 : Nat) : Int) - 1) = (i : Int) by omega]
        have h8 : (IntKind.i64.wrap (8 * (i : Int))) = ((8 * i : Nat) : Int) := by rw [i64_w]; unfold wrap64; omega
        have HB8 := Aside0.mk (show (8 * i) ≤ 56 by omega)
        have hi7 : (i : Int) ≤ 7 := by omega
        go_wp2_with ((with_reducible refine gate_builtin (b := .append) (xs := #[.tmp 32, .tmp 38]) rfl ?_); at_builtin; go_loud (refine Kd.R_append (Kd.int .u8) (w0 := w) (W := wr) w.heap.size rfl (.tmp 32) (.tmp 38) 28 5 (.int .u8 0) 1 rfl Try.underlying28 info5 rfl (by decide) (by omega) (.slice A3 n3 c3) ys (IntKind.u8.wrap (n / 2 ^ (8 * (i : Int)).toNat)) [.int .u8 (IntKind.u8.wrap (n / 2 ^ (8 * (i : Int)).toNat))] (fun _ => True) (fun _ => False) rfl rfl rfl (fun _ h => h.elim) (fun _ _ => trivial) HR.out HB.out HB.out.size ?aL ?_); (case aL => omega); intro v1 w1 hR1 hB1 hg1 hat1; obtain ⟨A1, n1, c1, rfl⟩ := slice_of hR1; have HR1 := Aside0.mk hR1; have HB1 := Aside0.mk hB1; clear hR1 hB1 hg1 hat1)
        have HE5 : Aside0 ((ys ++ [IntKind.u8.wrap (n / 2 ^ (8 * (i : Int)).toNat)]) ++ outR n i = headP m n) := ⟨by
          rw [← HE.out, u8_wrap, show (8 * (i : Int)).toNat = 8 * i by omega]
          simp [outR]⟩
        have HL5 : (ys ++ [IntKind.u8.wrap (n / 2 ^ (8 * (i : Int)).toNat)]).length ≤ 100 := by
          have h := congrArg List.length HE5.out
          have h3 := congrArg List.length HP.out
          simp only [List.length_append, List.length_cons, outR_len, List.length_nil] at h h3 ⊢
          omega
        exact ⟨⟨i, _, rfl, by omega, HL5, HE5, HR1, HB1⟩, by simp [intOf]⟩
set_option maxRecDepth 100000 in
set_option maxHeartbeats 4000000 in
theorem hput_calls (m n : Int) (h0 : 0 ≤ m) (h6 : m ≤ 6) (hn0 : 0 ≤ n) (hn1 : n ≤ 18446744073709551615) (w : World) :
    Calls Try.prog 39 #[.int .i64 m, .int .u64 n] w fun e w' => ∃ v, e = .returned (.tuple #[v, .int .i64 0]) ∧ BR w' w.heap.size v (headP m n) ∧ Below w.heap.size w w' := by
  have HW := Aside0.mk (write_calls m n h0 h6 hn0 hn1 w)
  go_enter Try.func39, Try.ntmps39
  go_wp2_with (first
    | (go_at_call 44; refine (may_calls m n h0 h6 w).mono ?_; rintro e w' ⟨rfl, rfl⟩)
    | (go_at_call 46; refine (size_calls n hn0 w).mono ?_; rintro e w' ⟨rfl, rfl⟩)
    | (go_at_call 45; refine HW.out.mono ?_; rintro e w2 ⟨v, rfl, hr, hb⟩; have HR := Aside0.mk hr; have HB := Aside0.mk hb; clear hr hb))
  go_ret2
  exact ⟨_, rfl, HR.out, HB.out⟩
end Go.Proofs.Ytlbdjjiblhdpmaa.Cw
