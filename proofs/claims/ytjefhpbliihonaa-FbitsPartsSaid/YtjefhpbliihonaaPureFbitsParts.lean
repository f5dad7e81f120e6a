/- Proved: the pure statement of FbitsParts: Class and Parts answer as the reference's do, for every width and every word. -/
import Derived.Test.YtjefhpbliihonaaPFbitsPartsx6
import Derived.Test.YtjefhpbliihonaaBl
import Derived.Laws.BitsLemmas
namespace Go.Proofs.Ytjefhpbliihonaa.Pure
open Go.RowKit Go.Proofs.Ytjefhpbliihonaa.PFbitsParts Go.Proofs.YtjefhpbliihonaaW.PrintWords Go.Proofs.YtjefhpbliihonaaW.PrintLast Go.Proofs.YtjefhpbliihonaaW.PrintMore Go.Proofs.Ytjefhpbliihonaa.Bl

theorem Ev.pos {α : Type} {c : Prop} [Decidable c] {f g : Nat → Option α} {r : α} (h : c) (k : Ev f r) : Ev (fun n => if c then f n else g n) r := Ev.congr (fun _ => if_pos h) k
theorem Ev.neg {α : Type} {c : Prop} [Decidable c] {f g : Nat → Option α} {r : α} (h : ¬ c) (k : Ev g r) : Ev (fun n => if c then f n else g n) r := Ev.congr (fun _ => if_neg h) k
theorem Ev.const {α : Type} {x : Option α} {r : α} (h : x = some r) : Ev (fun _ => x) r := ⟨0, fun _ _ => h⟩
theorem Ev.pre {α β : Type} {x : Option α} {a : α} {f : Nat → α → Option β} {r : β} (h : x = some a) (k : Ev (fun n => f n a) r) : Ev (fun n => x.bind (f n)) r := Ev.congr (fun _ => by rw [h]; rfl) k
theorem Ev.res {α : Type} {g : Nat → Option α} {r r' : α} (k : Ev g r') (e : r' = r) : Ev g r := e ▸ k
theorem wrap_id {x : Int} (h0 : -9223372036854775808 ≤ x) (h1 : x ≤ 9223372036854775807) : wrap64 x = x := by unfold wrap64; omega

theorem wrap_u64 (n : Int) : IntKind.u64.wrap n = n % 18446744073709551616 := by simp [IntKind.wrap, IntKind.bits, IntKind.signed]
theorem u64_id {n : Int} (h0 : 0 ≤ n) (h1 : n < 18446744073709551616) : IntKind.u64.wrap n = n := by rw [wrap_u64]; omega
theorem wraps_u64 (n : Int) (h0 : 0 ≤ n) (h1 : n < 2 ^ 64) : IntKind.u64.wrap n = n := u64_id h0 h1
theorem wrap_i64 (n : Int) : IntKind.i64.wrap n = wrap64 n := by
  simp [IntKind.wrap, IntKind.bits, IntKind.signed, wrap64]
  split <;> omega
theorem wraps_i64 (n : Int) (h0 : 0 ≤ n) (h1 : n < 2 ^ 63) : IntKind.i64.wrap n = n := by
  have : (2 : Int) ^ 63 = 9223372036854775808 := by decide
  rw [wrap_i64, wrap_id (by omega) (by omega)]
theorem wf_u64 {n : Int} (h : (Lit.int .u64 n).wf = true) : 0 ≤ n ∧ n < 18446744073709551616 := by
  simp [Lit.wf, IntKind.min, IntKind.max, IntKind.signed, IntKind.bits] at h; omega
theorem wf_u16 {n : Int} (h : (Lit.int .u16 n).wf = true) : 0 ≤ n ∧ n < 65536 := by
  simp [Lit.wf, IntKind.min, IntKind.max, IntKind.signed, IntKind.bits] at h; omega
theorem wf_u8 {n : Int} (h : (Lit.int .u8 n).wf = true) : 0 ≤ n ∧ n < 256 := by
  simp [Lit.wf, IntKind.min, IntKind.max, IntKind.signed, IntKind.bits] at h; omega
theorem mask64 (i : Nat) (hi : i ≤ 64) {m x : Int} (hm : m = 2 ^ i - 1) (h0 : 0 ≤ x) (h1 : x < 18446744073709551616) : Go.bits .and .u64 x m = x % 2 ^ i := by
  rw [hm]; exact bits_mask .u64 64 (by decide) wraps_u64 i hi x h0 h1
theorem maski (i : Nat) (hi : i ≤ 63) {m x : Int} (hm : m = 2 ^ i - 1) (h0 : 0 ≤ x) (h1 : x < 9223372036854775808) : Go.bits .and .i64 x m = x % 2 ^ i := by
  rw [hm]; exact bits_mask .i64 63 (by decide) wraps_i64 i hi x h0 h1
theorem or64 (i : Nat) {x y : Int} (x0 : 0 ≤ x) (hx : x % 2 ^ i = 0) (x1 : x < 18446744073709551616) (y0 : 0 ≤ y) (y1 : y < 2 ^ i) (y2 : y < 18446744073709551616) : Go.bits .or .u64 x y = x + y :=
  bits_join .u64 64 (by decide) wraps_u64 i x y x0 hx x1 y0 y1 y2
theorem or64' (i : Nat) {x y : Int} (x0 : 0 ≤ x) (hx : x % 2 ^ i = 0) (x1 : x < 18446744073709551616) (y0 : 0 ≤ y) (y1 : y < 2 ^ i) (y2 : y < 18446744073709551616) : Go.bits .or .u64 y x = x + y := by
  have : Go.bits .or .u64 y x = Go.bits .or .u64 x y := by simp only [Go.bits]; rw [BitVec.or_comm]
  rw [this]; exact or64 i x0 hx x1 y0 y1 y2
theorem shr_n (k : IntKind) {x : Int} (s : Int) (n : Nat) (hs : s.toNat = n) (hn : n ≤ k.bits) : shr k x s = x / 2 ^ n := by
  unfold shr; rw [hs, Nat.min_eq_left hn]
theorem shl_n (k : IntKind) {x : Int} (s : Int) (n : Nat) (hs : s.toNat = n) (hn : n ≤ k.bits) : shl k x s = k.wrap (x * 2 ^ n) := by
  unfold shl; rw [hs, Nat.min_eq_left hn]
theorem Ev.up {α : Type} {f : Nat → Option α} (h : ∀ k, LeO (f k) (f (k + 1))) {n : Nat} {r : α} (e : f n = some r) : Ev f r := by
  refine ⟨n, fun k hk => ?_⟩
  obtain ⟨d, rfl⟩ := Nat.exists_eq_add_of_le hk
  clear hk
  induction d with
  | zero => exact e
  | succ d ih => exact h _ _ ih
/-- The three formats: all bits, those of the exponent and of the fraction; their powers; the bias; the shift up to the widest fraction and its power. -/
def Fm (A E F P Q B r R : Int) : Prop :=
  (A = 16 ∧ E = 5 ∧ F = 10 ∧ P = 32 ∧ Q = 1024 ∧ B = 15 ∧ r = 42 ∧ R = 4398046511104) ∨
  (A = 32 ∧ E = 8 ∧ F = 23 ∧ P = 256 ∧ Q = 8388608 ∧ B = 127 ∧ r = 29 ∧ R = 536870912) ∨
  (A = 64 ∧ E = 11 ∧ F = 52 ∧ P = 2048 ∧ Q = 4503599627370496 ∧ B = 1023 ∧ r = 0 ∧ R = 1)
def cls (P e m : Int) : Int := if e = P - 1 then (if m = 0 then 3 else 4) else if e = 0 then (if m = 0 then 0 else 1) else 2

theorem top_f {A E F P Q B r R : Int} (h : Fm A E F P Q B r R) : fbits_width_top.f A E F = some (P - 1) := by
  rcases h with ⟨rfl, rfl, rfl, rfl, rfl, rfl, rfl, rfl⟩ | ⟨rfl, rfl, rfl, rfl, rfl, rfl, rfl, rfl⟩ | ⟨rfl, rfl, rfl, rfl, rfl, rfl, rfl, rfl⟩ <;> decide +kernel
theorem bias_f {A E F P Q B r R : Int} (h : Fm A E F P Q B r R) : fbits_width_bias.f A E F = some B := by
  rcases h with ⟨rfl, rfl, rfl, rfl, rfl, rfl, rfl, rfl⟩ | ⟨rfl, rfl, rfl, rfl, rfl, rfl, rfl, rfl⟩ | ⟨rfl, rfl, rfl, rfl, rfl, rfl, rfl, rfl⟩ <;> decide +kernel
theorem of_f {A E F P Q B r R : Int} (h : Fm A E F P Q B r R) {b : Int} (b0 : 0 ≤ b) (b1 : b < 18446744073709551616) : Ev (fun k => fbits_of.f k A b) (A, E, F, decide (b < 2 * P * Q)) := by
  refine Ev.congr (fun k => by unfold fbits_of.f; simp only [fbits_widths.f, Option.bind_some]; rfl) ?_
  rcases h with ⟨rfl, rfl, rfl, rfl, rfl, rfl, rfl, rfl⟩ | ⟨rfl, rfl, rfl, rfl, rfl, rfl, rfl, rfl⟩ | ⟨rfl, rfl, rfl, rfl, rfl, rfl, rfl, rfl⟩
  · refine Ev.step (fun k => by simp only [fbits_of.l0]; rfl) ?_
    refine Ev.pos (by decide) (Ev.pos (by first | trivial | decide) (Ev.pos (by first | trivial | decide) (Ev.neg (by decide) (Ev.pos (by decide) (Ev.const ?_)))))
    rw [shr_n .u64 16 16 rfl (by decide)]
    have : ((b / 2 ^ 16 == 0) : Bool) = decide (b < 2 * 32 * 1024) := by rw [Bool.eq_iff_iff]; simp; omega
    rw [this]
  · refine Ev.step (fun k => by simp only [fbits_of.l0]; rfl) ?_
    refine Ev.pos (by decide) (Ev.pos (by first | trivial | decide) (Ev.neg (by decide) ?_))
    refine Ev.step (fun k => by simp only [show wrap64 (0 + 1) = 1 by decide +kernel, fbits_of.l0]; rfl) ?_
    refine Ev.pos (by decide) (Ev.neg (by decide) (Ev.pos (by first | trivial | decide) (Ev.pos (by first | trivial | decide) (Ev.neg (by decide) (Ev.pos (by decide) (Ev.const ?_))))))
    rw [shr_n .u64 32 32 rfl (by decide)]
    have : ((b / 2 ^ 32 == 0) : Bool) = decide (b < 2 * 256 * 8388608) := by rw [Bool.eq_iff_iff]; simp; omega
    rw [this]
  · refine Ev.step (fun k => by simp only [fbits_of.l0]; rfl) ?_
    refine Ev.pos (by decide) (Ev.pos (by first | trivial | decide) (Ev.neg (by decide) ?_))
    refine Ev.step (fun k => by simp only [show wrap64 (0 + 1) = 1 by decide +kernel, fbits_of.l0]; rfl) ?_
    refine Ev.pos (by decide) (Ev.neg (by decide) (Ev.pos (by first | trivial | decide) (Ev.neg (by decide) ?_)))
    refine Ev.step (fun k => by simp only [show wrap64 (1 + 1) = 2 by decide +kernel, fbits_of.l0]; rfl) ?_
    refine Ev.pos (by decide) (Ev.neg (by decide) (Ev.neg (by decide) (Ev.pos (by first | trivial | decide) (Ev.pos (by first | trivial | decide) (Ev.pos (by first | trivial | decide) (Ev.const ?_))))))
    rw [decide_eq_true (by omega)]
theorem of_no {a b : Int} (h1 : a ≠ 16) (h2 : a ≠ 32) (h3 : a ≠ 64) : Ev (fun k => fbits_of.f k a b) (0, 0, 0, false) := by
  refine Ev.congr (fun k => by unfold fbits_of.f; simp only [fbits_widths.f, Option.bind_some]; rfl) ?_
  refine Ev.step (fun k => by simp only [fbits_of.l0]; rfl) ?_
  refine Ev.pos (by decide) (Ev.pos (by first | trivial | decide) (Ev.neg (by omega) ?_))
  refine Ev.step (fun k => by simp only [show wrap64 (0 + 1) = 1 by decide +kernel, fbits_of.l0]; rfl) ?_
  refine Ev.pos (by decide) (Ev.neg (by decide) (Ev.pos (by first | trivial | decide) (Ev.neg (by omega) ?_)))
  refine Ev.step (fun k => by simp only [show wrap64 (1 + 1) = 2 by decide +kernel, fbits_of.l0]; rfl) ?_
  refine Ev.pos (by decide) (Ev.neg (by decide) (Ev.neg (by decide) (Ev.pos (by first | trivial | decide) (Ev.neg (by omega) ?_))))
  refine Ev.step (fun k => by simp only [show wrap64 (2 + 1) = 3 by decide +kernel, fbits_of.l0]; rfl) ?_
  exact Ev.neg (by decide) (Ev.const rfl)
theorem split_f {A E F P Q B r R : Int} (h : Fm A E F P Q B r R) {b : Int} (b0 : 0 ≤ b) (b1 : b < 2 * P * Q) : fbits_width_split.f A E F b = some (b / (P * Q) == 1, b / Q % P, b % Q) := by
  have ht := top_f h
  unfold fbits_width_split.f
  rw [ht]
  rcases h with ⟨rfl, rfl, rfl, rfl, rfl, rfl, rfl, rfl⟩ | ⟨rfl, rfl, rfl, rfl, rfl, rfl, rfl, rfl⟩ | ⟨rfl, rfl, rfl, rfl, rfl, rfl, rfl, rfl⟩
  · rw [if_pos (by decide +kernel), if_pos (by decide), Option.bind_some, show wrap64 (16 - 1) = 15 by decide +kernel, shr_n .u64 15 15 rfl (by decide), shr_n .u64 10 10 rfl (by decide), shl_n .u64 10 10 rfl (by decide), wrap_id (by omega) (by omega), maski 5 (m := 32 - 1) (by decide) (by decide) (by omega) (by omega), show IntKind.u64.wrap (IntKind.u64.wrap (1 * 2 ^ 10) - 1) = 2 ^ 10 - 1 by decide +kernel, mask64 10 (by decide) rfl b0 (by omega)]
    rfl
  · rw [if_pos (by decide +kernel), if_pos (by decide), Option.bind_some, show wrap64 (32 - 1) = 31 by decide +kernel, shr_n .u64 31 31 rfl (by decide), shr_n .u64 23 23 rfl (by decide), shl_n .u64 23 23 rfl (by decide), wrap_id (by omega) (by omega), maski 8 (m := 256 - 1) (by decide) (by decide) (by omega) (by omega), show IntKind.u64.wrap (IntKind.u64.wrap (1 * 2 ^ 23) - 1) = 2 ^ 23 - 1 by decide +kernel, mask64 23 (by decide) rfl b0 (by omega)]
    rfl
  · rw [if_pos (by decide +kernel), if_pos (by decide), Option.bind_some, show wrap64 (64 - 1) = 63 by decide +kernel, shr_n .u64 63 63 rfl (by decide), shr_n .u64 52 52 rfl (by decide), shl_n .u64 52 52 rfl (by decide), wrap_id (by omega) (by omega), maski 11 (m := 2048 - 1) (by decide) (by decide) (by omega) (by omega), show IntKind.u64.wrap (IntKind.u64.wrap (1 * 2 ^ 52) - 1) = 2 ^ 52 - 1 by decide +kernel, mask64 52 (by decide) rfl b0 (by omega)]
    rfl
theorem class_f {A E F P Q B r R : Int} (h : Fm A E F P Q B r R) (s : Bool) (e m : Int) : Ev (fun k => fbits_width_class.f k A E F s e m) (cls P e m) := by
  refine Ev.congr (fun k => by unfold fbits_width_class.f; rfl) (Ev.pre (top_f h) ?_)
  by_cases c : e = P - 1
  · refine Ev.pos c (Ev.step (fun k => by simp only [fbits_width_class.j0]; rfl) ?_)
    by_cases d : m = 0
    · exact Ev.res (Ev.neg (by simpa using d) (Ev.pre (top_f h) (Ev.pos c (Ev.const rfl)))) (by simp [cls, c, d])
    · exact Ev.res (Ev.pos (by simpa using d) (Ev.const rfl)) (by simp [cls, c, d])
  · refine Ev.neg c (Ev.step (fun k => by simp only [fbits_width_class.j0]; rfl) ?_)
    refine Ev.neg (by simp) (Ev.pre (top_f h) (Ev.neg c ?_))
    by_cases d : e = 0
    · by_cases f : m = 0
      · exact Ev.res (Ev.pos d (Ev.pos f (Ev.const rfl))) (by simp only [cls]; rw [if_neg c, if_pos d, if_pos f])
      · exact Ev.res (Ev.pos d (Ev.neg f (Ev.const rfl))) (by simp only [cls]; rw [if_neg c, if_pos d, if_neg f])
    · exact Ev.res (Ev.neg d (Ev.const rfl)) (by simp only [cls]; rw [if_neg c, if_neg d])

theorem fm_or (a : Int) : (∃ E F P Q B r R, Fm a E F P Q B r R) ∨ (a ≠ 16 ∧ a ≠ 32 ∧ a ≠ 64) := by
  by_cases h1 : a = 16
  · exact .inl ⟨5, 10, 32, 1024, 15, 42, 4398046511104, .inl ⟨h1, rfl, rfl, rfl, rfl, rfl, rfl, rfl⟩⟩
  · by_cases h2 : a = 32
    · exact .inl ⟨8, 23, 256, 8388608, 127, 29, 536870912, .inr (.inl ⟨h2, rfl, rfl, rfl, rfl, rfl, rfl, rfl⟩)⟩
    · by_cases h3 : a = 64
      · exact .inl ⟨11, 52, 2048, 4503599627370496, 1023, 0, 1, .inr (.inr ⟨h3, rfl, rfl, rfl, rfl, rfl, rfl, rfl⟩)⟩
      · exact .inr ⟨h1, h2, h3⟩
theorem rwidths_f {A E F P Q B r R : Int} (h : Fm A E F P Q B r R) : glossatorref05_widths.f A = some (E, F) := by
  rcases h with ⟨rfl, rfl, rfl, rfl, rfl, rfl, rfl, rfl⟩ | ⟨rfl, rfl, rfl, rfl, rfl, rfl, rfl, rfl⟩ | ⟨rfl, rfl, rfl, rfl, rfl, rfl, rfl, rfl⟩ <;> decide +kernel
theorem rwidths_no {a : Int} (h1 : a ≠ 16) (h2 : a ≠ 32) (h3 : a ≠ 64) : glossatorref05_widths.f a = some (0, 0) := by
  unfold glossatorref05_widths.f
  rw [if_neg h1, if_neg h2, if_neg h3]
theorem rparts_f {A E F P Q B r R : Int} (h : Fm A E F P Q B r R) {b : Int} (b0 : 0 ≤ b) (b1 : b < 18446744073709551616) : glossatorref05_Parts.f A b = some (if b < 2 * P * Q then (b / (P * Q) == 1, b / Q % P, b % Q, 0) else (false, 0, 0, 1)) := by
  have hw := rwidths_f h
  unfold glossatorref05_Parts.f
  rw [hw]
  rcases h with ⟨rfl, rfl, rfl, rfl, rfl, rfl, rfl, rfl⟩ | ⟨rfl, rfl, rfl, rfl, rfl, rfl, rfl, rfl⟩ | ⟨rfl, rfl, rfl, rfl, rfl, rfl, rfl, rfl⟩
  · simp only [Option.bind_some]
    rw [if_neg (by decide), if_pos (by decide), if_pos (by decide), shr_n .u64 16 16 rfl (by decide)]
    by_cases c : b < 2 * 32 * 1024
    · rw [if_pos c, if_pos (by omega), if_pos (by decide +kernel), if_pos (by decide), if_pos (by decide), show wrap64 (5 + 10) = 15 by decide +kernel, shr_n .u64 15 15 rfl (by decide), shr_n .u64 10 10 rfl (by decide), wrap_id (x := b / 2 ^ 10) (by omega) (by omega), show wrap64 (shl .i64 1 5 - 1) = 2 ^ 5 - 1 by decide +kernel, maski 5 (by decide) rfl (by omega) (by omega), show IntKind.u64.wrap (shl .u64 1 10 - 1) = 2 ^ 10 - 1 by decide +kernel, mask64 10 (by decide) rfl b0 (by omega)]
      rfl
    · rw [if_neg c, if_neg (by omega)]
  · simp only [Option.bind_some]
    rw [if_neg (by decide), if_pos (by decide), if_pos (by decide), shr_n .u64 32 32 rfl (by decide)]
    by_cases c : b < 2 * 256 * 8388608
    · rw [if_pos c, if_pos (by omega), if_pos (by decide +kernel), if_pos (by decide), if_pos (by decide), show wrap64 (8 + 23) = 31 by decide +kernel, shr_n .u64 31 31 rfl (by decide), shr_n .u64 23 23 rfl (by decide), wrap_id (x := b / 2 ^ 23) (by omega) (by omega), show wrap64 (shl .i64 1 8 - 1) = 2 ^ 8 - 1 by decide +kernel, maski 8 (by decide) rfl (by omega) (by omega), show IntKind.u64.wrap (shl .u64 1 23 - 1) = 2 ^ 23 - 1 by decide +kernel, mask64 23 (by decide) rfl b0 (by omega)]
      rfl
    · rw [if_neg c, if_neg (by omega)]
  · simp only [Option.bind_some]
    rw [if_neg (by decide), if_neg (by decide), if_pos (by decide +kernel), if_pos (by decide), if_pos (by decide), if_pos (by omega), show wrap64 (11 + 52) = 63 by decide +kernel, shr_n .u64 63 63 rfl (by decide), shr_n .u64 52 52 rfl (by decide), wrap_id (x := b / 2 ^ 52) (by omega) (by omega), show wrap64 (shl .i64 1 11 - 1) = 2 ^ 11 - 1 by decide +kernel, maski 11 (by decide) rfl (by omega) (by omega), show IntKind.u64.wrap (shl .u64 1 52 - 1) = 2 ^ 52 - 1 by decide +kernel, mask64 52 (by decide) rfl b0 (by omega)]
    rfl
theorem rparts_no {a b : Int} (h1 : a ≠ 16) (h2 : a ≠ 32) (h3 : a ≠ 64) : glossatorref05_Parts.f a b = some (false, 0, 0, 1) := by
  unfold glossatorref05_Parts.f
  rw [rwidths_no h1 h2 h3]
  rfl
theorem rtop {A E F P Q B r R : Int} (h : Fm A E F P Q B r R) : 0 ≤ E ∧ wrap64 (shl .i64 1 E - 1) = P - 1 := by
  rcases h with ⟨rfl, rfl, rfl, rfl, rfl, rfl, rfl, rfl⟩ | ⟨rfl, rfl, rfl, rfl, rfl, rfl, rfl, rfl⟩ | ⟨rfl, rfl, rfl, rfl, rfl, rfl, rfl, rfl⟩ <;> decide +kernel
theorem parts_in {A E F P Q B r R : Int} (h : Fm A E F P Q B r R) {b : Int} : 0 ≤ b / Q % P ∧ b / Q % P < P ∧ 0 ≤ b % Q ∧ b % Q < Q ∧ 1 < P ∧ 0 < Q := by
  rcases h with ⟨rfl, rfl, rfl, rfl, rfl, rfl, rfl, rfl⟩ | ⟨rfl, rfl, rfl, rfl, rfl, rfl, rfl, rfl⟩ | ⟨rfl, rfl, rfl, rfl, rfl, rfl, rfl, rfl⟩ <;> omega
theorem rclass_f {A E F P Q B r R : Int} (h : Fm A E F P Q B r R) {b : Int} (b0 : 0 ≤ b) (b1 : b < 18446744073709551616) : Ev (fun k => glossatorref05_Class.f k A b) (if b < 2 * P * Q then (cls P (b / Q % P) (b % Q), 0) else (0, 1)) := by
  have hi := parts_in h (b := b)
  obtain ⟨e0, ht⟩ := rtop h
  refine Ev.congr (fun k => by unfold glossatorref05_Class.f; rfl) (Ev.pre (rparts_f h b0 b1) (Ev.pre (rwidths_f h) ?_))
  by_cases c : b < 2 * P * Q
  · simp only [if_pos c]
    refine Ev.pos (by first | trivial | rfl) (Ev.pos e0 ?_)
    by_cases d : b / Q % P = P - 1
    · refine Ev.pos (by rw [ht]; exact d) (Ev.step (fun k => by simp only [glossatorref05_Class.j0]; rfl) ?_)
      by_cases f : b % Q = 0
      · exact Ev.res (Ev.pos (by simpa using f) (Ev.const rfl)) (by simp only [cls]; rw [if_pos d, if_pos f])
      · exact Ev.res (Ev.neg (by simpa using f) (Ev.pos e0 (Ev.pos (by rw [ht]; exact d) (Ev.const rfl)))) (by simp only [cls]; rw [if_pos d, if_neg f])
    · refine Ev.neg (by rw [ht]; exact d) (Ev.step (fun k => by simp only [glossatorref05_Class.j0]; rfl) ?_)
      refine Ev.neg (by simp) (Ev.pos e0 (Ev.neg (by rw [ht]; exact d) ?_))
      by_cases f : b / Q % P = 0
      · refine Ev.neg (by omega) ?_
        by_cases g : b % Q = 0
        · exact Ev.res (Ev.neg (by omega) (Ev.const rfl)) (by simp only [cls]; rw [if_neg d, if_pos f, if_pos g])
        · exact Ev.res (Ev.pos (by omega) (Ev.const rfl)) (by simp only [cls]; rw [if_neg d, if_pos f, if_neg g])
      · exact Ev.res (Ev.pos (by omega) (Ev.const rfl)) (by simp only [cls]; rw [if_neg d, if_neg f])
  · simp only [if_neg c]
    exact Ev.neg (by decide) (Ev.const rfl)
theorem rclass_no {a b : Int} (h1 : a ≠ 16) (h2 : a ≠ 32) (h3 : a ≠ 64) : Ev (fun k => glossatorref05_Class.f k a b) (0, 1) := by
  refine Ev.congr (fun k => by unfold glossatorref05_Class.f; rfl) (Ev.pre (rparts_no h1 h2 h3) (Ev.pre (rwidths_no h1 h2 h3) ?_))
  exact Ev.neg (by decide) (Ev.const rfl)
theorem pclass_f {A E F P Q B r R : Int} (h : Fm A E F P Q B r R) {b : Int} (b0 : 0 ≤ b) (b1 : b < 18446744073709551616) : Ev (fun k => fbits_Class.f k A b) (if b < 2 * P * Q then (cls P (b / Q % P) (b % Q), 0) else (0, 1)) := by
  refine Ev.congr (fun k => by unfold fbits_Class.f; rfl) (Ev.bind (of_f h b0 b1) ?_)
  by_cases c : b < 2 * P * Q
  · rw [if_pos c]
    exact Ev.pos (by simpa using c) (Ev.pre (split_f h b0 c) (Ev.bind (class_f h _ _ _) (Ev.const rfl)))
  · rw [if_neg c]
    exact Ev.neg (by simpa using c) (Ev.const rfl)
theorem pclass_no {a b : Int} (h1 : a ≠ 16) (h2 : a ≠ 32) (h3 : a ≠ 64) : Ev (fun k => fbits_Class.f k a b) (0, 1) := by
  refine Ev.congr (fun k => by unfold fbits_Class.f; rfl) (Ev.bind (of_no h1 h2 h3) ?_)
  exact Ev.neg (by decide) (Ev.const rfl)
theorem pparts_f {A E F P Q B r R : Int} (h : Fm A E F P Q B r R) {b : Int} (b0 : 0 ≤ b) (b1 : b < 18446744073709551616) : Ev (fun k => fbits_Parts.f k A b) (if b < 2 * P * Q then (b / (P * Q) == 1, b / Q % P, b % Q, 0) else (false, 0, 0, 1)) := by
  refine Ev.congr (fun k => by unfold fbits_Parts.f; rfl) (Ev.bind (of_f h b0 b1) ?_)
  by_cases c : b < 2 * P * Q
  · rw [if_pos c]
    exact Ev.pos (by simpa using c) (Ev.pre (split_f h b0 c) (Ev.const rfl))
  · rw [if_neg c]
    exact Ev.neg (by simpa using c) (Ev.const rfl)
theorem pparts_no {a b : Int} (h1 : a ≠ 16) (h2 : a ≠ 32) (h3 : a ≠ 64) : Ev (fun k => fbits_Parts.f k a b) (false, 0, 0, 1) := by
  refine Ev.congr (fun k => by unfold fbits_Parts.f; rfl) (Ev.bind (of_no h1 h2 h3) ?_)
  exact Ev.neg (by decide) (Ev.const rfl)

theorem awake_f : Ev (fun k => glossatorlaw05_awake.f k) true := Ev.up glossatorlaw05_awake.mono (n := 20) (by decide +kernel)
theorem FbitsParts : glossatorlaw05_FbitsParts.Pure := by
  intro a b _ hb
  have ⟨b0, b1⟩ := wf_u64 hb
  refine Ev.rounds (Ev.congr (fun k => by unfold glossatorlaw05_FbitsParts.f; rfl) ?_)
  rcases fm_or a with ⟨E, F, P, Q, B, r, R, h⟩ | ⟨h1, h2, h3⟩
  · have hc := pclass_f h b0 b1
    have hd := rclass_f h b0 b1
    have hp := pparts_f h b0 b1
    have hq := rparts_f h b0 b1
    refine Ev.bind hc (Ev.bind hd (Ev.bind hp (Ev.pre hq ?_)))
    by_cases c : b < 2 * P * Q
    · simp only [if_pos c]
      exact Ev.pos (by first | trivial | rfl) (Ev.pos (by first | trivial | rfl) (Ev.pos (by simp) (Ev.pos (by first | trivial | rfl) (Ev.pos (by first | trivial | rfl) (Ev.pos (by first | trivial | rfl) (Ev.bind awake_f (Ev.const rfl)))))))
    · simp only [if_neg c]
      exact Ev.pos (by first | trivial | rfl) (Ev.pos (by first | trivial | rfl) (Ev.pos (by simp) (Ev.pos (by first | trivial | rfl) (Ev.pos (by first | trivial | rfl) (Ev.pos (by first | trivial | rfl) (Ev.bind awake_f (Ev.const rfl)))))))
  · refine Ev.bind (pclass_no h1 h2 h3) (Ev.bind (rclass_no h1 h2 h3) (Ev.bind (pparts_no h1 h2 h3) (Ev.pre (rparts_no h1 h2 h3) ?_)))
    exact Ev.pos (by first | trivial | decide) (Ev.pos (by first | trivial | decide) (Ev.pos (by simp) (Ev.pos (by first | trivial | decide) (Ev.pos (by first | trivial | decide) (Ev.pos (by first | trivial | decide) (Ev.bind awake_f (Ev.const rfl)))))))

end Go.Proofs.Ytjefhpbliihonaa.Pure
