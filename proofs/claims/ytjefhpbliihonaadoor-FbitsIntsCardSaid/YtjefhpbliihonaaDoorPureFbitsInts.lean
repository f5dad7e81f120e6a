import Derived.Test.YtjefhpbliihonaaDoorPFbitsIntsx10
import Derived.Test.YtjefhpbliihonaaDoorBl
import Derived.Test.YtjefhpbliihonaaDoorTz
import Derived.Laws.BitsLemmas
namespace Go.Proofs.YtjefhpbliihonaaDoor.Pure
open Go.RowKit Go.Proofs.YtjefhpbliihonaaDoor.PFbitsInts Go.Proofs.YtjefhpbliihonaaDoorW.PrintWords Go.Proofs.YtjefhpbliihonaaDoorW.PrintLast Go.Proofs.YtjefhpbliihonaaDoorW.PrintMore Go.Proofs.YtjefhpbliihonaaDoor.Bl

theorem Ev.pos {α : Type} {c : Prop} [Decidable c] {f g : Nat → Option α} {r : α} (h : c) (k : Ev f r) : Ev (fun n => if c then f n else g n) r := Ev.congr (fun _ => if_pos h) k
theorem Ev.neg {α : Type} {c : Prop} [Decidable c] {f g : Nat → Option α} {r : α} (h : ¬ c) (k : Ev g r) : Ev (fun n => if c then f n else g n) r := Ev.congr (fun _ => if_neg h) k
theorem Ev.const {α : Type} {x : Option α} {r : α} (h : x = some r) : Ev (fun _ => x) r := ⟨0, fun _ _ => h⟩
theorem Ev.pre {α β : Type} {x : Option α} {a : α} {f : Nat → α → Option β} {r : β} (h : x = some a) (k : Ev (fun n => f n a) r) : Ev (fun n => x.bind (f n)) r := Ev.congr (fun _ => by rw [h]; rfl) k
theorem Ev.res {α : Type} {g : Nat → Option α} {r r' : α} (k : Ev g r') (e : r' = r) : Ev g r := e ▸ k
theorem wrap_id {x : Int} (h0 : -9223372036854775808 ≤ x) (h1 : x ≤ 9223372036854775807) : wrap64 x = x := by unfold wrap64; omega

theorem wrap_u64 (n : Int) : IntKind.u64.wrap n = n % 18446744073709551616 := by simp [IntKind.wrap, IntKind.bits, IntKind.signed]
theorem u64_id {n : Int} (h0 : 0 ≤ n) (h1 : n < 18446744073709551616) : IntKind.u64.wrap n = n := by rw [wrap_u64]; omega
theorem wraps_u64 (n : Int) (h0 : 0 ≤ n) (h1 : n < 2 ^ 64) : IntKind.u64.wrap n = n := u64_id h0 h1
theorem wrap_i64 (n : Int) : IntKind.i64.wrap n = wrap64 n := by
  simp [IntKind.wrap, IntKind.bits, IntKind.signed, wrap64]
  split <;> omega
theorem wraps_i64 (n : Int) (h0 : 0 ≤ n) (h1 : n < 2 ^ 63) : IntKind.i64.wrap n = n := by
  have : (2 : Int) ^ 63 = 9223372036854775808 := by decide
  rw [wrap_i64, wrap_id (by omega) (by omega)]
theorem wf_u64 {n : Int} (h : (Lit.int .u64 n).wf = true) : 0 ≤ n ∧ n < 18446744073709551616 := by
  simp [Lit.wf, IntKind.min, IntKind.max, IntKind.signed, IntKind.bits] at h; omega
theorem mask64 (i : Nat) (hi : i ≤ 64) {m x : Int} (hm : m = 2 ^ i - 1) (h0 : 0 ≤ x) (h1 : x < 18446744073709551616) : Go.bits .and .u64 x m = x % 2 ^ i := by
  rw [hm]; exact bits_mask .u64 64 (by decide) wraps_u64 i hi x h0 h1
theorem maski (i : Nat) (hi : i ≤ 63) {m x : Int} (hm : m = 2 ^ i - 1) (h0 : 0 ≤ x) (h1 : x < 9223372036854775808) : Go.bits .and .i64 x m = x % 2 ^ i := by
  rw [hm]; exact bits_mask .i64 63 (by decide) wraps_i64 i hi x h0 h1
theorem or64 (i : Nat) {x y : Int} (x0 : 0 ≤ x) (hx : x % 2 ^ i = 0) (x1 : x < 18446744073709551616) (y0 : 0 ≤ y) (y1 : y < 2 ^ i) (y2 : y < 18446744073709551616) : Go.bits .or .u64 x y = x + y :=
  bits_join .u64 64 (by decide) wraps_u64 i x y x0 hx x1 y0 y1 y2
theorem or64' (i : Nat) {x y : Int} (x0 : 0 ≤ x) (hx : x % 2 ^ i = 0) (x1 : x < 18446744073709551616) (y0 : 0 ≤ y) (y1 : y < 2 ^ i) (y2 : y < 18446744073709551616) : Go.bits .or .u64 y x = x + y := by
  have : Go.bits .or .u64 y x = Go.bits .or .u64 x y := by simp only [Go.bits]; rw [BitVec.or_comm]
  rw [this]; exact or64 i x0 hx x1 y0 y1 y2
theorem shr_n (k : IntKind) {x : Int} (s : Int) (n : Nat) (hs : s.toNat = n) (hn : n ≤ k.bits) : shr k x s = x / 2 ^ n := by
  unfold shr; rw [hs, Nat.min_eq_left hn]
theorem shl_n (k : IntKind) {x : Int} (s : Int) (n : Nat) (hs : s.toNat = n) (hn : n ≤ k.bits) : shl k x s = k.wrap (x * 2 ^ n) := by
  unfold shl; rw [hs, Nat.min_eq_left hn]
theorem Ev.up {α : Type} {f : Nat → Option α} (h : ∀ k, LeO (f k) (f (k + 1))) {n : Nat} {r : α} (e : f n = some r) : Ev f r := by
  refine ⟨n, fun k hk => ?_⟩
  obtain ⟨d, rfl⟩ := Nat.exists_eq_add_of_le hk
  clear hk
  induction d with
  | zero => exact e
  | succ d ih => exact h _ _ ih
def Fm (A E F P Q B r R : Int) : Prop :=
  (A = 16 ∧ E = 5 ∧ F = 10 ∧ P = 32 ∧ Q = 1024 ∧ B = 15 ∧ r = 42 ∧ R = 4398046511104) ∨
  (A = 32 ∧ E = 8 ∧ F = 23 ∧ P = 256 ∧ Q = 8388608 ∧ B = 127 ∧ r = 29 ∧ R = 536870912) ∨
  (A = 64 ∧ E = 11 ∧ F = 52 ∧ P = 2048 ∧ Q = 4503599627370496 ∧ B = 1023 ∧ r = 0 ∧ R = 1)
def cls (P e m : Int) : Int := if e = P - 1 then (if m = 0 then 3 else 4) else if e = 0 then (if m = 0 then 0 else 1) else 2

theorem top_f {A E F P Q B r R : Int} (h : Fm A E F P Q B r R) : fbits_width_top.f A E F = some (P - 1) := by
  rcases h with h | h | h <;> obtain ⟨rfl, rfl, rfl, rfl, rfl, rfl, rfl, rfl⟩ := h <;> decide +kernel
theorem bias_f {A E F P Q B r R : Int} (h : Fm A E F P Q B r R) : fbits_width_bias.f A E F = some B := by
  rcases h with h | h | h <;> obtain ⟨rfl, rfl, rfl, rfl, rfl, rfl, rfl, rfl⟩ := h <;> decide +kernel
theorem of_f {A E F P Q B r R : Int} (h : Fm A E F P Q B r R) {b : Int} (b0 : 0 ≤ b) (b1 : b < 18446744073709551616) : Ev (fun k => fbits_of.f k A b) (A, E, F, decide (b < 2 * P * Q)) := by
  refine Ev.congr (fun k => by unfold fbits_of.f; simp only [fbits_widths.f, Option.bind_some]; rfl) ?_
  rcases h with h | h | h <;> obtain ⟨rfl, rfl, rfl, rfl, rfl, rfl, rfl, rfl⟩ := h
  · refine Ev.step (fun k => by simp only [fbits_of.l0]; rfl) ?_
    refine Ev.pos (by decide) (Ev.pos (by trivial) (Ev.pos (by trivial) (Ev.neg (by decide) (Ev.pos (by decide) (Ev.const ?_)))))
    rw [shr_n .u64 16 16 rfl (by decide)]
    have : ((b / 2 ^ 16 == 0) : Bool) = decide (b < 2 * 32 * 1024) := by rw [Bool.eq_iff_iff]; simp; omega
    rw [this]
  · refine Ev.step (fun k => by simp only [fbits_of.l0]; rfl) ?_
    refine Ev.pos (by decide) (Ev.pos (by trivial) (Ev.neg (by decide) ?_))
    refine Ev.step (fun k => by simp only [show wrap64 (0 + 1) = 1 by decide +kernel, fbits_of.l0]; rfl) ?_
    refine Ev.pos (by decide) (Ev.neg (by decide) (Ev.pos (by trivial) (Ev.pos (by trivial) (Ev.neg (by decide) (Ev.pos (by decide) (Ev.const ?_))))))
    rw [shr_n .u64 32 32 rfl (by decide)]
    have : ((b / 2 ^ 32 == 0) : Bool) = decide (b < 2 * 256 * 8388608) := by rw [Bool.eq_iff_iff]; simp; omega
    rw [this]
  · refine Ev.step (fun k => by simp only [fbits_of.l0]; rfl) ?_
    refine Ev.pos (by decide) (Ev.pos (by trivial) (Ev.neg (by decide) ?_))
    refine Ev.step (fun k => by simp only [show wrap64 (0 + 1) = 1 by decide +kernel, fbits_of.l0]; rfl) ?_
    refine Ev.pos (by decide) (Ev.neg (by decide) (Ev.pos (by trivial) (Ev.neg (by decide) ?_)))
    refine Ev.step (fun k => by simp only [show wrap64 (1 + 1) = 2 by decide +kernel, fbits_of.l0]; rfl) ?_
    refine Ev.pos (by decide) (Ev.neg (by decide) (Ev.neg (by decide) (Ev.pos (by trivial) (Ev.pos (by trivial) (Ev.pos (by trivial) (Ev.const ?_))))))
    rw [decide_eq_true (by omega)]
theorem split_f {A E F P Q B r R : Int} (h : Fm A E F P Q B r R) {b : Int} (b0 : 0 ≤ b) (b1 : b < 2 * P * Q) : fbits_width_split.f A E F b = some (b / (P * Q) == 1, b / Q % P, b % Q) := by
  have ht := top_f h
  unfold fbits_width_split.f
  rw [ht]
  rcases h with h | h | h <;> obtain ⟨rfl, rfl, rfl, rfl, rfl, rfl, rfl, rfl⟩ := h
  · rw [if_pos (by decide +kernel), if_pos (by decide), Option.bind_some, show wrap64 (16 - 1) = 15 by decide +kernel, shr_n .u64 15 15 rfl (by decide), shr_n .u64 10 10 rfl (by decide), shl_n .u64 10 10 rfl (by decide), wrap_id (by omega) (by omega), maski 5 (m := 32 - 1) (by decide) (by decide) (by omega) (by omega), show IntKind.u64.wrap (IntKind.u64.wrap (1 * 2 ^ 10) - 1) = 2 ^ 10 - 1 by decide +kernel, mask64 10 (by decide) rfl b0 (by omega)]
    rfl
  · rw [if_pos (by decide +kernel), if_pos (by decide), Option.bind_some, show wrap64 (32 - 1) = 31 by decide +kernel, shr_n .u64 31 31 rfl (by decide), shr_n .u64 23 23 rfl (by decide), shl_n .u64 23 23 rfl (by decide), wrap_id (by omega) (by omega), maski 8 (m := 256 - 1) (by decide) (by decide) (by omega) (by omega), show IntKind.u64.wrap (IntKind.u64.wrap (1 * 2 ^ 23) - 1) = 2 ^ 23 - 1 by decide +kernel, mask64 23 (by decide) rfl b0 (by omega)]
    rfl
  · rw [if_pos (by decide +kernel), if_pos (by decide), Option.bind_some, show wrap64 (64 - 1) = 63 by decide +kernel, shr_n .u64 63 63 rfl (by decide), shr_n .u64 52 52 rfl (by decide), shl_n .u64 52 52 rfl (by decide), wrap_id (by omega) (by omega), maski 11 (m := 2048 - 1) (by decide) (by decide) (by omega) (by omega), show IntKind.u64.wrap (IntKind.u64.wrap (1 * 2 ^ 52) - 1) = 2 ^ 52 - 1 by decide +kernel, mask64 52 (by decide) rfl b0 (by omega)]
    rfl
theorem class_f {A E F P Q B r R : Int} (h : Fm A E F P Q B r R) (s : Bool) (e m : Int) : Ev (fun k => fbits_width_class.f k A E F s e m) (cls P e m) := by
  refine Ev.congr (fun k => by unfold fbits_width_class.f; rfl) (Ev.pre (top_f h) ?_)
  by_cases c : e = P - 1
  · refine Ev.pos c (Ev.step (fun k => by simp only [fbits_width_class.j0]; rfl) ?_)
    by_cases d : m = 0
    · exact Ev.res (Ev.neg (by simpa using d) (Ev.pre (top_f h) (Ev.pos c (Ev.const rfl)))) (by simp [cls, c, d])
    · exact Ev.res (Ev.pos (by simpa using d) (Ev.const rfl)) (by simp [cls, c, d])
  · refine Ev.neg c (Ev.step (fun k => by simp only [fbits_width_class.j0]; rfl) ?_)
    refine Ev.neg (by simp) (Ev.pre (top_f h) (Ev.neg c ?_))
    by_cases d : e = 0
    · by_cases f : m = 0
      · exact Ev.res (Ev.pos d (Ev.pos f (Ev.const rfl))) (by simp only [cls]; rw [if_neg c, if_pos d, if_pos f])
      · exact Ev.res (Ev.pos d (Ev.neg f (Ev.const rfl))) (by simp only [cls]; rw [if_neg c, if_pos d, if_neg f])
    · exact Ev.res (Ev.neg d (Ev.const rfl)) (by simp only [cls]; rw [if_neg c, if_neg d])

theorem parts_in {A E F P Q B r R : Int} (h : Fm A E F P Q B r R) {b : Int} : 0 ≤ b / Q % P ∧ b / Q % P < P ∧ 0 ≤ b % Q ∧ b % Q < Q ∧ 1 < P ∧ 0 < Q := by
  rcases h with h | h | h <;> obtain ⟨rfl, rfl, rfl, rfl, rfl, rfl, rfl, rfl⟩ := h <;> omega

def tab8 : ByteArray := (⟨#[0, 1, 2, 2, 3, 3, 3, 3, 4, 4, 4, 4, 4, 4, 4, 4, 5, 5, 5, 5, 5, 5, 5, 5, 5, 5, 5, 5, 5, 5, 5, 5, 6, 6, 6, 6, 6, 6, 6, 6, 6, 6, 6, 6, 6, 6, 6, 6, 6, 6, 6, 6, 6, 6, 6, 6, 6, 6, 6, 6, 6, 6, 6, 6, 7, 7, 7, 7, 7, 7, 7, 7, 7, 7, 7, 7, 7, 7, 7, 7, 7, 7, 7, 7, 7, 7, 7, 7, 7, 7, 7, 7, 7, 7, 7, 7, 7, 7, 7, 7, 7, 7, 7, 7, 7, 7, 7, 7, 7, 7, 7, 7, 7, 7, 7, 7, 7, 7, 7, 7, 7, 7, 7, 7, 7, 7, 7, 7, 8, 8, 8, 8, 8, 8, 8, 8, 8, 8, 8, 8, 8, 8, 8, 8, 8, 8, 8, 8, 8, 8, 8, 8, 8, 8, 8, 8, 8, 8, 8, 8, 8, 8, 8, 8, 8, 8, 8, 8, 8, 8, 8, 8, 8, 8, 8, 8, 8, 8, 8, 8, 8, 8, 8, 8, 8, 8, 8, 8, 8, 8, 8, 8, 8, 8, 8, 8, 8, 8, 8, 8, 8, 8, 8, 8, 8, 8, 8, 8, 8, 8, 8, 8, 8, 8, 8, 8, 8, 8, 8, 8, 8, 8, 8, 8, 8, 8, 8, 8, 8, 8, 8, 8, 8, 8, 8, 8, 8, 8, 8, 8, 8, 8, 8, 8, 8, 8, 8, 8, 8, 8, 8, 8, 8, 8, 8, 8]⟩ : ByteArray)
theorem tab8_ok : ∀ i : Nat, i < 256 → (i = 0 ∧ bt tab8 (i : Int) = 0) ∨ (1 ≤ bt tab8 (i : Int) ∧ bt tab8 (i : Int) ≤ 8 ∧ (2 : Int) ^ (bt tab8 (i : Int) - 1).toNat ≤ i ∧ (i : Int) < 2 ^ ((bt tab8 (i : Int) - 1).toNat + 1)) := by decide +kernel
theorem tab8_bl (i : Int) (h0 : 0 ≤ i) (h1 : i < 256) : bt ((⟨#[0, 1, 2, 2, 3, 3, 3, 3, 4, 4, 4, 4, 4, 4, 4, 4, 5, 5, 5, 5, 5, 5, 5, 5, 5, 5, 5, 5, 5, 5, 5, 5, 6, 6, 6, 6, 6, 6, 6, 6, 6, 6, 6, 6, 6, 6, 6, 6, 6, 6, 6, 6, 6, 6, 6, 6, 6, 6, 6, 6, 6, 6, 6, 6, 7, 7, 7, 7, 7, 7, 7, 7, 7, 7, 7, 7, 7, 7, 7, 7, 7, 7, 7, 7, 7, 7, 7, 7, 7, 7, 7, 7, 7, 7, 7, 7, 7, 7, 7, 7, 7, 7, 7, 7, 7, 7, 7, 7, 7, 7, 7, 7, 7, 7, 7, 7, 7, 7, 7, 7, 7, 7, 7, 7, 7, 7, 7, 7, 8, 8, 8, 8, 8, 8, 8, 8, 8, 8, 8, 8, 8, 8, 8, 8, 8, 8, 8, 8, 8, 8, 8, 8, 8, 8, 8, 8, 8, 8, 8, 8, 8, 8, 8, 8, 8, 8, 8, 8, 8, 8, 8, 8, 8, 8, 8, 8, 8, 8, 8, 8, 8, 8, 8, 8, 8, 8, 8, 8, 8, 8, 8, 8, 8, 8, 8, 8, 8, 8, 8, 8, 8, 8, 8, 8, 8, 8, 8, 8, 8, 8, 8, 8, 8, 8, 8, 8, 8, 8, 8, 8, 8, 8, 8, 8, 8, 8, 8, 8, 8, 8, 8, 8, 8, 8, 8, 8, 8, 8, 8, 8, 8, 8, 8, 8, 8, 8, 8, 8, 8, 8, 8, 8, 8, 8, 8, 8]⟩ : ByteArray)) i = bl i := by
  show bt tab8 i = bl i
  obtain ⟨n, rfl⟩ := Int.eq_ofNat_of_zero_le h0
  rcases tab8_ok n (by omega) with ⟨a, b⟩ | ⟨a, b, c, d⟩
  · subst a
    rw [b]
    exact (congrArg (fun z : Nat => (z : Int)) bl_zero).symm
  · have := bl_of c d
    omega
theorem wrap_two (c n : Int) (c0 : 0 ≤ c) (n0 : 0 ≤ n) (h : c + n ≤ 9223372036854775807) : wrap64 (c + wrap64 n) = c + n := by
  rw [wrap_id (x := n) (by omega) (by omega), wrap_id (by omega) h]
theorem bl_shift (x : Int) (m : Nat) (h : (2 : Int) ^ m ≤ x) : (bl x : Int) = m + bl (x / 2 ^ m) := by
  have pos : (0 : Int) < 2 ^ m := Int.pow_pos (by decide)
  rw [bl_div (by omega)]
  obtain ⟨k, hk, _⟩ := bl_ge (n := x) (by omega)
  have : ¬ bl x ≤ m := fun hq => by have := (bl_le (n := x) (k := m) (by omega)).1 hq; omega
  omega

def jn (s : Bool) (P Q e m : Int) : Int := (if s = true then P * Q else 0) + (e * Q + m)
theorem join_f {A E F P Q B r R : Int} (h : Fm A E F P Q B r R) (s : Bool) {e m : Int} (e0 : 0 ≤ e) (e1 : e < P) (m0 : 0 ≤ m) (m1 : m < Q) : fbits_width_join.f A E F s e m = some (jn s P Q e m) := by
  unfold fbits_width_join.f jn
  rcases h with h | h | h <;> obtain ⟨rfl, rfl, rfl, rfl, rfl, rfl, rfl, rfl⟩ := h
  · rw [if_pos (by decide), shl_n .u64 10 10 rfl (by decide), u64_id (n := e) (by omega) (by omega), u64_id (n := e * 2 ^ 10) (by omega) (by omega), or64 10 (x := e * 2 ^ 10) (by omega) (by omega) (by omega) m0 (by omega) (by omega)]
    cases s
    · rw [if_neg (by simp), if_neg (by simp), Int.zero_add]
      rfl
    · rw [if_pos rfl, if_pos (by decide +kernel), if_pos rfl, show shl .u64 1 (wrap64 (16 - 1)) = 2 ^ 15 by decide +kernel, or64' 15 (x := 2 ^ 15) (by decide) (by decide) (by decide) (by omega) (by omega) (by omega)]
      rfl
  · rw [if_pos (by decide), shl_n .u64 23 23 rfl (by decide), u64_id (n := e) (by omega) (by omega), u64_id (n := e * 2 ^ 23) (by omega) (by omega), or64 23 (x := e * 2 ^ 23) (by omega) (by omega) (by omega) m0 (by omega) (by omega)]
    cases s
    · rw [if_neg (by simp), if_neg (by simp), Int.zero_add]
      rfl
    · rw [if_pos rfl, if_pos (by decide +kernel), if_pos rfl, show shl .u64 1 (wrap64 (32 - 1)) = 2 ^ 31 by decide +kernel, or64' 31 (x := 2 ^ 31) (by decide) (by decide) (by decide) (by omega) (by omega) (by omega)]
      rfl
  · rw [if_pos (by decide), shl_n .u64 52 52 rfl (by decide), u64_id (n := e) (by omega) (by omega), u64_id (n := e * 2 ^ 52) (by omega) (by omega), or64 52 (x := e * 2 ^ 52) (by omega) (by omega) (by omega) m0 (by omega) (by omega)]
    cases s
    · rw [if_neg (by simp), if_neg (by simp), Int.zero_add]
      rfl
    · rw [if_pos rfl, if_pos (by decide +kernel), if_pos rfl, show shl .u64 1 (wrap64 (64 - 1)) = 2 ^ 63 by decide +kernel, or64' 63 (x := 2 ^ 63) (by decide) (by decide) (by decide) (by omega) (by omega) (by omega)]
      rfl
theorem fm64 : Fm 64 11 52 2048 4503599627370496 1023 0 1 := .inr (.inr ⟨rfl, rfl, rfl, rfl, rfl, rfl, rfl, rfl⟩)
theorem len64_j (x : Int) (n : Int) (h0 : 0 ≤ x) (h1 : x < 4294967296) (n0 : 0 ≤ n) (n1 : n ≤ 32) : Ev (fun k => bits_Len64.j0 k x n) (n + bl x) := by
  refine Ev.step (fun k => bits_Len64.j0.eq_2 x n k) ?_
  by_cases c1 : x ≥ 65536
  · have e1 := bl_shift x 16 c1
    rw [show (2 : Int) ^ 16 = 65536 by decide] at e1
    refine Ev.pos c1 ?_
    by_cases c2 : x / 65536 ≥ 256
    · have e2 := bl_shift (x / 65536) 8 c2
      rw [show (2 : Int) ^ 8 = 256 by decide] at e2
      refine Ev.pos c2 (Ev.pos (by omega) (Ev.pos (by omega) (Ev.const ?_)))
      rw [show (x / 65536) / 256 % 256 = (x / 65536) / 256 by omega, tab8_bl _ (by omega) (by omega)]
      have : bl ((x / 65536) / 256) ≤ 8 := (bl_le (by omega)).2 (by show _ < (256 : Int); omega)
      rw [wrap_id (x := n + 16) (by omega) (by omega), wrap_id (x := n + 16 + 8) (by omega) (by omega), wrap_two _ _ (by omega) (by omega) (by omega)]
      congr 1; omega
    · refine Ev.neg c2 (Ev.pos (by omega) (Ev.pos (by omega) (Ev.const ?_)))
      rw [show (x / 65536) % 256 = x / 65536 by omega, tab8_bl _ (by omega) (by omega)]
      have : bl (x / 65536) ≤ 8 := (bl_le (by omega)).2 (by show _ < (256 : Int); omega)
      rw [wrap_id (x := n + 16) (by omega) (by omega), wrap_two _ _ (by omega) (by omega) (by omega)]
      congr 1; omega
  · refine Ev.neg c1 ?_
    by_cases c2 : x ≥ 256
    · have e2 := bl_shift x 8 c2
      rw [show (2 : Int) ^ 8 = 256 by decide] at e2
      refine Ev.pos c2 (Ev.pos (by omega) (Ev.pos (by omega) (Ev.const ?_)))
      rw [show x / 256 % 256 = x / 256 by omega, tab8_bl _ (by omega) (by omega)]
      have : bl (x / 256) ≤ 8 := (bl_le (by omega)).2 (by show _ < (256 : Int); omega)
      rw [wrap_id (x := n + 8) (by omega) (by omega), wrap_two _ _ (by omega) (by omega) (by omega)]
      congr 1; omega
    · refine Ev.neg c2 (Ev.pos (by omega) (Ev.pos (by omega) (Ev.const ?_)))
      rw [show x % 256 = x by omega, tab8_bl _ (by omega) (by omega)]
      have : bl x ≤ 8 := (bl_le (by omega)).2 (by show _ < (256 : Int); omega)
      rw [wrap_two _ _ (by omega) (by omega) (by omega)]
theorem len64_f (x : Int) (h0 : 0 ≤ x) (h1 : x < 18446744073709551616) : Ev (fun k => bits_Len64.f k x) (bl x : Int) := by
  refine Ev.congr (fun k => by unfold bits_Len64.f; rfl) ?_
  by_cases c : x ≥ 4294967296
  · have e1 := bl_shift x 32 c
    rw [show (2 : Int) ^ 32 = 4294967296 by decide] at e1
    exact Ev.pos c (Ev.res (len64_j (x / 4294967296) 32 (by omega) (by omega) (by decide) (by decide)) (by omega))
  · exact Ev.neg c (Ev.res (len64_j x 0 h0 (by omega) (by decide) (by decide)) (by omega))
theorem norm {M : Int} (h : 0 < M) {t : Nat} (ht : bl M + t = 53) : 4503599627370496 ≤ M * 2 ^ t ∧ M * 2 ^ t < 9007199254740992 := by
  obtain ⟨k, hk, h1⟩ := bl_ge h
  have h2 := lt_bl (n := M) (by omega)
  rw [hk] at h2
  have pos : (0 : Int) < 2 ^ t := Int.pow_pos (by decide)
  constructor
  · have e : (4503599627370496 : Int) = 2 ^ k * 2 ^ t := by rw [← Int.pow_add, show k + t = 52 by omega]; decide
    rw [e]; exact Int.mul_le_mul_of_nonneg_right h1 (by omega)
  · have e : (9007199254740992 : Int) = 2 ^ (k + 1) * 2 ^ t := by rw [← Int.pow_add, show k + 1 + t = 53 by omega]; decide
    rw [e]; exact Int.mul_lt_mul_of_pos_right h2 pos
def wid3 (A P B R e m : Int) : Int × Int :=
  if e = P - 1 then (2047, m * R) else if e ≠ 0 then (e + 1023 - B, m * R) else if m = 0 then (0, 0) else if A = 64 then (0, m) else (1 - B + 1023 - (53 - (bl (m * R) : Int)), m * R * 2 ^ (53 - bl (m * R)) - 4503599627370496)
def wid (A P Q B R b : Int) : Int := jn (b / (P * Q) == 1) 2048 4503599627370496 (wid3 A P B R (b / Q % P) (b % Q)).1 (wid3 A P B R (b / Q % P) (b % Q)).2
theorem mR {A E F P Q B r R : Int} (h : Fm A E F P Q B r R) {m : Int} (m0 : 0 ≤ m) (m1 : m < Q) : 0 ≤ m * R ∧ m * R < 4503599627370496 ∧ shl .u64 m (wrap64 (52 - F)) = m * R ∧ 0 ≤ wrap64 (52 - F) := by
  rcases h with h | h | h <;> obtain ⟨rfl, rfl, rfl, rfl, rfl, rfl, rfl, rfl⟩ := h
  · rw [show wrap64 (52 - 10) = 42 by decide +kernel, shl_n .u64 42 42 rfl (by decide), u64_id (by omega) (by omega)]
    omega
  · rw [show wrap64 (52 - 23) = 29 by decide +kernel, shl_n .u64 29 29 rfl (by decide), u64_id (by omega) (by omega)]
    omega
  · rw [show wrap64 (52 - 52) = 0 by decide +kernel, shl_n .u64 0 0 rfl (by decide), u64_id (by omega) (by omega)]
    omega
theorem mpos {A E F P Q B r R : Int} (h : Fm A E F P Q B r R) {m : Int} (m0 : 0 < m) : 0 < m * R := by
  rcases h with h | h | h <;> obtain ⟨rfl, rfl, rfl, rfl, rfl, rfl, rfl, rfl⟩ := h <;> omega
theorem bB {A E F P Q B r R : Int} (h : Fm A E F P Q B r R) : 0 < B ∧ B ≤ 1023 ∧ 2 * B + 2 = P ∧ (A ≠ 64 → B ≤ 127) := by
  rcases h with h | h | h <;> obtain ⟨rfl, rfl, rfl, rfl, rfl, rfl, rfl, rfl⟩ := h <;> decide
theorem bl52 {M : Int} (h0 : 0 < M) (h1 : M < 4503599627370496) : 1 ≤ bl M ∧ bl M ≤ 52 := by
  obtain ⟨k, hk, _⟩ := bl_ge h0
  exact ⟨by omega, (bl_le (by omega)).2 (by rw [show (2 : Int) ^ 52 = 4503599627370496 by decide]; exact h1)⟩
theorem wid3_in {A E F P Q B r R : Int} (h : Fm A E F P Q B r R) {e m : Int} (e0 : 0 ≤ e) (e1 : e < P) (m0 : 0 ≤ m) (m1 : m < Q) : 0 ≤ (wid3 A P B R e m).1 ∧ (wid3 A P B R e m).1 < 2048 ∧ 0 ≤ (wid3 A P B R e m).2 ∧ (wid3 A P B R e m).2 < 4503599627370496 := by
  obtain ⟨q0, q1, _, _⟩ := mR h m0 m1
  obtain ⟨b0, b1, b2, b3⟩ := bB h
  unfold wid3
  by_cases c : e = P - 1
  · rw [if_pos c]; exact ⟨by show (0 : Int) ≤ 2047; decide, by show (2047 : Int) < 2048; decide, q0, q1⟩
  · rw [if_neg c]
    by_cases d : e = 0
    · rw [if_neg (by simpa using d)]
      by_cases f : m = 0
      · rw [if_pos f]; decide
      · rw [if_neg f]
        by_cases g : A = 64
        · rw [if_pos g]
          have : R = 1 := by rcases h with ⟨rfl, _⟩ | ⟨rfl, _⟩ | ⟨_, _, _, _, _, _, _, hr⟩ <;> first | exact hr | (exfalso; revert g; decide)
          rw [this, Int.mul_one] at q1
          exact ⟨by show (0 : Int) ≤ 0; decide, by show (0 : Int) < 2048; decide, m0, q1⟩
        · rw [if_neg g]
          have hp := mpos h (m := m) (by omega)
          obtain ⟨l1, l2⟩ := bl52 hp q1
          have := norm hp (t := 53 - bl (m * R)) (by omega)
          have := b3 g
          refine ⟨?_, ?_, ?_, ?_⟩ <;> (try simp only []) <;> omega
    · rw [if_pos (by simpa using d)]
      exact ⟨by simp only []; omega, by simp only []; omega, q0, q1⟩
theorem widths_f : fbits_widths.f = some (16, 5, 10, 32, 8, 23, 64, 11, 52) := rfl
theorem pwiden_f {A E F P Q B r R : Int} (h : Fm A E F P Q B r R) {b : Int} (b0 : 0 ≤ b) (b1 : b < 18446744073709551616) : Ev (fun k => fbits_Widen.f k A b) (if b < 2 * P * Q then (wid A P Q B R b, 0) else (0, 1)) := by
  refine Ev.congr (fun k => by unfold fbits_Widen.f; rfl) (Ev.bind (of_f h b0 b1) ?_)
  by_cases c : b < 2 * P * Q
  · rw [if_pos c]
    obtain ⟨e0, e1, m0, m1, p1, p2⟩ := parts_in h (b := b)
    obtain ⟨q0, q1, q2, q3⟩ := mR h m0 m1
    obtain ⟨i0, i1, i2, i3⟩ := wid3_in h e0 e1 m0 m1
    obtain ⟨g0, g1, g2, g3⟩ := bB h
    refine Ev.pos (by simpa using c) (Ev.pre (split_f h b0 c) (Ev.bind (class_f h _ _ _) (Ev.pos q3 ?_)))
    simp only [q2]
    unfold wid
    generalize (b / (P * Q) == 1) = s
    generalize he : b / Q % P = e at *
    generalize hm : b % Q = m at *
    have fin : ∀ {x y : Int}, wid3 A P B R e m = (x, y) → (Ev (fun _ => (fbits_width_join.f 64 11 52 s x y).bind fun t => some (t, (0 : Int))) (jn s 2048 4503599627370496 (wid3 A P B R e m).1 (wid3 A P B R e m).2, 0)) := by
      intro x y hxy
      rw [hxy] at i0 i1 i2 i3 ⊢
      exact Ev.pre (join_f fm64 s i0 i1 i2 i3) (Ev.const rfl)
    by_cases k1 : e = P - 1
    · have hc : cls P e m = 3 ∨ cls P e m = 4 := by unfold cls; rw [if_pos k1]; split <;> simp
      have hw : wid3 A P B R e m = (2047, m * R) := by unfold wid3; rw [if_pos k1]
      rcases hc with hc | hc
      · rw [hc]
        refine Ev.pos (show (3 : Int) = 3 from rfl) (Ev.step (fun k => by simp only [fbits_Widen.j0]; rfl) (Ev.pos (by decide) ?_))
        exact Ev.pre widths_f (fin hw)
      · rw [hc]
        refine Ev.neg (by decide) (Ev.step (fun k => by simp only [fbits_Widen.j0]; rfl) (Ev.pos (by decide) ?_))
        exact Ev.pre widths_f (fin hw)
    · by_cases k2 : e = 0
      · by_cases k3 : m = 0
        · have hc : cls P e m = 0 := by unfold cls; rw [if_neg k1, if_pos k2, if_pos k3]
          have hw : wid3 A P B R e m = (e, m * R) := by unfold wid3; rw [if_neg k1, if_neg (by simpa using k2), if_pos k3, k2, k3, Int.zero_mul]
          rw [hc]
          refine Ev.neg (by decide) (Ev.step (fun k => by simp only [fbits_Widen.j0]; rfl) (Ev.neg (by decide) (Ev.neg (by decide) (Ev.neg (by decide) ?_))))
          exact Ev.pre widths_f (fin hw)
        · have hc : cls P e m = 1 := by unfold cls; rw [if_neg k1, if_pos k2, if_neg k3]
          rw [hc]
          refine Ev.neg (by decide) (Ev.step (fun k => by simp only [fbits_Widen.j0]; rfl) (Ev.neg (by decide) (Ev.neg (by decide) (Ev.pos (by trivial) ?_))))
          by_cases k4 : A = 64
          · have hR : R = 1 := by rcases h with ⟨rfl, _⟩ | ⟨rfl, _⟩ | ⟨_, _, _, _, _, _, _, hr⟩ <;> first | exact hr | (exfalso; revert k4; decide)
            have hw : wid3 A P B R e m = (e, m * R) := by unfold wid3; rw [if_neg k1, if_neg (by simpa using k2), if_neg k3, if_pos k4, k2, hR, Int.mul_one]
            exact Ev.pos k4 (Ev.pre widths_f (fin hw))
          · have hp := mpos h (m := m) (by omega)
            obtain ⟨l1, l2⟩ := bl52 hp q1
            have hn := norm hp (t := 53 - bl (m * R)) (by omega)
            have hb := g3 k4
            refine Ev.neg k4 (Ev.bind (len64_f (m * R) q0 (by omega)) (Ev.pre (bias_f h) ?_))
            rw [wrap_id (x := 53 - (bl (m * R) : Int)) (by omega) (by omega)]
            refine Ev.pos (by omega) (Ev.pre widths_f ?_)
            rw [wrap_id (x := 1 - B) (by omega) (by omega), wrap_id (x := 1 - B + 1023) (by omega) (by omega), wrap_id (x := 1 - B + 1023 - _) (by omega) (by omega), shl_n .u64 _ (53 - bl (m * R)) (by omega) (by show _ ≤ 64; omega), u64_id (by omega) (by omega), mask64 52 (by decide) (m := 4503599627370495) (by decide) (by omega) (by omega), show m * R * 2 ^ (53 - bl (m * R)) % 2 ^ 52 = m * R * 2 ^ (53 - bl (m * R)) - 4503599627370496 by omega]
            exact fin (by unfold wid3; rw [if_neg k1, if_neg (by simpa using k2), if_neg k3, if_neg k4])
      · have hc : cls P e m = 2 := by unfold cls; rw [if_neg k1, if_neg k2]
        rw [hc]
        refine Ev.neg (by decide) (Ev.step (fun k => by simp only [fbits_Widen.j0]; rfl) (Ev.neg (by decide) (Ev.pos (by trivial) (Ev.pre (bias_f h) (Ev.pre widths_f ?_)))))
        rw [wrap_id (x := 1023 - B) (by omega) (by omega), wrap_id (x := e + (1023 - B)) (by omega) (by omega), show e + (1023 - B) = e + 1023 - B by omega]
        exact fin (by unfold wid3; rw [if_neg k1, if_pos (by simpa using k2)])
  · rw [if_neg c]
    exact Ev.neg (by simpa using c) (Ev.const rfl)
theorem bl_mono {a b : Int} (h0 : 0 ≤ a) (h : a ≤ b) : bl a ≤ bl b := (bl_le h0).2 (by have := lt_bl (n := b) (by omega); omega)
theorem mR_lt {A E F P Q B r R : Int} (h : Fm A E F P Q B r R) {m n : Int} (hm : m < n) : m * R < n * R := by
  rcases h with h | h | h <;> obtain ⟨rfl, rfl, rfl, rfl, rfl, rfl, rfl, rfl⟩ := h <;> omega
theorem wid3_small {A P B R m : Int} (p : 1 < P) (hA : A ≠ 64) (hm : m ≠ 0) : wid3 A P B R 0 m = (1 - B + 1023 - (53 - (bl (m * R) : Int)), m * R * 2 ^ (53 - bl (m * R)) - 4503599627370496) := by
  unfold wid3; rw [if_neg (by omega), if_neg (by simp), if_neg hm, if_neg hA]
theorem wid3_zero {A P B R : Int} (p : 1 < P) : wid3 A P B R 0 0 = (0, 0) := by
  unfold wid3; rw [if_neg (by omega), if_neg (by simp), if_pos rfl]
theorem wid3_plain {A P B R e m : Int} (h1 : e ≠ P - 1) (h2 : e ≠ 0) : wid3 A P B R e m = (e + 1023 - B, m * R) := by
  unfold wid3; rw [if_neg h1, if_pos h2]
theorem wid3_top {A P B R e m : Int} (h1 : e = P - 1) : wid3 A P B R e m = (2047, m * R) := by
  unfold wid3; rw [if_pos h1]
theorem wid3_lt {A E F P Q B r R : Int} (h : Fm A E F P Q B r R) (hA : A ≠ 64) {e m f n : Int} (e0 : 0 ≤ e) (m0 : 0 ≤ m) (m1 : m < Q) (f1 : f < P) (n0 : 0 ≤ n) (n1 : n < Q) (hl : e < f ∨ e = f ∧ m < n) :
    (wid3 A P B R e m).1 < (wid3 A P B R f n).1 ∨ (wid3 A P B R e m).1 = (wid3 A P B R f n).1 ∧ (wid3 A P B R e m).2 < (wid3 A P B R f n).2 := by
  obtain ⟨g0, g1, g2, g3⟩ := bB h
  have g4 := g3 hA
  obtain ⟨q0, q1, _, _⟩ := mR h m0 m1
  obtain ⟨s0, s1, _, _⟩ := mR h n0 n1
  by_cases a : f = P - 1
  · rw [wid3_top (e := f) a]
    by_cases b : e = P - 1
    · rw [wid3_top b]
      exact .inr ⟨rfl, mR_lt h (by omega)⟩
    · by_cases c : e = 0
      · subst c
        by_cases d : m = 0
        · subst d; rw [wid3_zero (by omega)]; exact .inl (by show (0 : Int) < 2047; decide)
        · obtain ⟨l1, l2⟩ := bl52 (mpos h (m := m) (by omega)) q1
          rw [wid3_small (by omega) hA d]; exact .inl (by simp only []; omega)
      · rw [wid3_plain b c]; exact .inl (by simp only []; omega)
  · by_cases b : f = 0
    · have c : e = 0 := by omega
      subst b c
      have d : n ≠ 0 := by omega
      have hn := mpos h (m := n) (by omega)
      obtain ⟨k1, k2⟩ := bl52 hn s1
      rw [wid3_small (by omega) hA d]
      by_cases c : m = 0
      · subst c; rw [wid3_zero (by omega)]; exact .inl (by simp only []; omega)
      · have hm := mpos h (m := m) (by omega)
        obtain ⟨l1, l2⟩ := bl52 hm q1
        rw [wid3_small (by omega) hA c]
        have hmn := mR_lt h (m := m) (n := n) (by omega)
        have hb := bl_mono (by omega) (Int.le_of_lt hmn)
        rcases Nat.lt_or_ge (bl (m * R)) (bl (n * R)) with o | o
        · exact .inl (by simp only []; omega)
        · have oe : bl (n * R) = bl (m * R) := by omega
          refine .inr ⟨by simp only []; omega, ?_⟩
          rw [oe]
          have pos : (0 : Int) < 2 ^ (53 - bl (m * R)) := Int.pow_pos (by decide)
          have := Int.mul_lt_mul_of_pos_right hmn pos
          simp only []; omega
    · rw [wid3_plain a b]
      by_cases c : e = 0
      · subst c
        by_cases d : m = 0
        · subst d; rw [wid3_zero (by omega)]; exact .inl (by simp only []; omega)
        · obtain ⟨l1, l2⟩ := bl52 (mpos h (m := m) (by omega)) q1
          rw [wid3_small (by omega) hA d]; exact .inl (by simp only []; omega)
      · rw [wid3_plain (by omega) c]
        rcases hl with o | ⟨o, o2⟩
        · exact .inl (by simp only []; omega)
        · exact .inr ⟨by simp only []; omega, mR_lt h o2⟩

theorem jn_parts {A E F P Q B r R : Int} (h : Fm A E F P Q B r R) (s : Bool) {e m : Int} (e0 : 0 ≤ e) (e1 : e < P) (m0 : 0 ≤ m) (m1 : m < Q) :
    0 ≤ jn s P Q e m ∧ jn s P Q e m < 2 * P * Q ∧ (jn s P Q e m / (P * Q) == 1) = s ∧ jn s P Q e m / Q % P = e ∧ jn s P Q e m % Q = m := by
  unfold jn
  cases s
  · rw [if_neg (by simp)]
    have hb : ∀ z : Int, z = 0 → (z == 1) = false := by intro z q; rw [q]; rfl
    rcases h with h | h | h <;> obtain ⟨rfl, rfl, rfl, rfl, rfl, rfl, rfl, rfl⟩ := h <;> exact ⟨by omega, by omega, hb _ (by omega), by omega, by omega⟩
  · rw [if_pos rfl]
    have hb : ∀ z : Int, z = 1 → (z == 1) = true := by intro z q; rw [q]; rfl
    rcases h with h | h | h <;> obtain ⟨rfl, rfl, rfl, rfl, rfl, rfl, rfl, rfl⟩ := h <;> exact ⟨by omega, by omega, hb _ (by omega), by omega, by omega⟩
theorem of_parts {A E F P Q B r R : Int} (h : Fm A E F P Q B r R) {b : Int} (b0 : 0 ≤ b) (b1 : b < 2 * P * Q) : jn (b / (P * Q) == 1) P Q (b / Q % P) (b % Q) = b := by
  unfold jn
  by_cases c : b / (P * Q) = 1
  · rw [if_pos (by simpa using c)]
    rcases h with h | h | h <;> obtain ⟨rfl, rfl, rfl, rfl, rfl, rfl, rfl, rfl⟩ := h <;> omega
  · rw [if_neg (by simpa using c)]
    rcases h with h | h | h <;> obtain ⟨rfl, rfl, rfl, rfl, rfl, rfl, rfl, rfl⟩ := h <;> omega
theorem wid_jn {A E F P Q B r R : Int} (h : Fm A E F P Q B r R) (s : Bool) {e m : Int} (e0 : 0 ≤ e) (e1 : e < P) (m0 : 0 ≤ m) (m1 : m < Q) : wid A P Q B R (jn s P Q e m) = jn s 2048 4503599627370496 (wid3 A P B R e m).1 (wid3 A P B R e m).2 := by
  obtain ⟨_, _, a, b, c⟩ := jn_parts h s e0 e1 m0 m1
  unfold wid; rw [a, b, c]
theorem wid3_64 (e m : Int) : wid3 64 2048 1023 1 e m = (e, m) := by
  unfold wid3
  by_cases c : e = 2048 - 1
  · rw [if_pos c, Int.mul_one, c]; rfl
  · rw [if_neg c]
    by_cases d : e = 0
    · rw [if_neg (by simpa using d), d]
      by_cases f : m = 0
      · rw [if_pos f, f]
      · rw [if_neg f, if_pos rfl]
    · rw [if_pos (by simpa using d), Int.mul_one]
      congr 1; omega
theorem wid64 {b : Int} (b0 : 0 ≤ b) (b1 : b < 18446744073709551616) : wid 64 2048 4503599627370496 1023 1 b = b := by
  have e := of_parts fm64 b0 (by omega)
  unfold wid
  rw [wid3_64]
  exact e
theorem wid_inj {A E F P Q B r R : Int} (h : Fm A E F P Q B r R) {x y : Int} (x0 : 0 ≤ x) (x1 : x < 2 * P * Q) (y0 : 0 ≤ y) (y1 : y < 2 * P * Q) (e : wid A P Q B R x = wid A P Q B R y) : x = y := by
  by_cases hA : A = 64
  · have hh : P = 2048 ∧ Q = 4503599627370496 ∧ B = 1023 ∧ R = 1 := by
      rcases h with ⟨rfl, _⟩ | ⟨rfl, _⟩ | ⟨_, _, _, hp, hq, hb, _, hr⟩
      · exact absurd hA (by decide)
      · exact absurd hA (by decide)
      · exact ⟨hp, hq, hb, hr⟩
    obtain ⟨rfl, rfl, rfl, rfl⟩ := hh
    subst hA
    rw [wid64 x0 (by omega), wid64 y0 (by omega)] at e
    exact e
  · obtain ⟨e0, e1, m0, m1, p1, p2⟩ := parts_in h (b := x)
    obtain ⟨f0, f1, n0, n1, _, _⟩ := parts_in h (b := y)
    have hx := of_parts h x0 x1
    have hy := of_parts h y0 y1
    obtain ⟨i0, i1, i2, i3⟩ := wid3_in h e0 e1 m0 m1
    obtain ⟨j0, j1, j2, j3⟩ := wid3_in h f0 f1 n0 n1
    unfold wid at e
    have kx := jn_parts fm64 (x / (P * Q) == 1) i0 i1 i2 i3
    have ky := jn_parts fm64 (y / (P * Q) == 1) j0 j1 j2 j3
    rw [e] at kx
    have s1 : (x / (P * Q) == 1) = (y / (P * Q) == 1) := kx.2.2.1.symm.trans ky.2.2.1
    have w1 : (wid3 A P B R (x / Q % P) (x % Q)).1 = (wid3 A P B R (y / Q % P) (y % Q)).1 := kx.2.2.2.1.symm.trans ky.2.2.2.1
    have w2 : (wid3 A P B R (x / Q % P) (x % Q)).2 = (wid3 A P B R (y / Q % P) (y % Q)).2 := kx.2.2.2.2.symm.trans ky.2.2.2.2
    have l1 := fun q => wid3_lt h hA e0 m0 m1 f1 n0 n1 q
    have l2 := fun q => wid3_lt h hA f0 n0 n1 e1 m0 m1 q
    have t1 : x / Q % P = y / Q % P := by
      rcases Int.lt_trichotomy (x / Q % P) (y / Q % P) with q | q | q
      · have := l1 (.inl q); omega
      · exact q
      · have := l2 (.inl q); omega
    have t2 : x % Q = y % Q := by
      rcases Int.lt_trichotomy (x % Q) (y % Q) with q | q | q
      · have := l1 (.inr ⟨t1, q⟩); omega
      · exact q
      · have := l2 (.inr ⟨t1.symm, q⟩); omega
    rw [← hx, ← hy, s1, t1, t2]
def c34 (P Q B F : Int) (R : Int) (s : Bool) (e m : Int) : Int :=
  if 0 < e - 1023 + B then jn s P Q (e - 1023 + B) (m / R) else jn s P Q 0 ((m + 4503599627370496) / 2 ^ (53 - F - (e - 1023 + B)).toNat)
def pn (A P Q B F R b : Int) : Option Int :=
  let s := b / (2048 * 4503599627370496) == 1
  let e := b / 4503599627370496 % 2048
  let m := b % 4503599627370496
  if wid A P Q B R (jn s P Q 0 (m / R)) = b then some (jn s P Q 0 (m / R)) else
  if wid A P Q B R (jn s P Q (P - 1) (m / R)) = b then some (jn s P Q (P - 1) (m / R)) else
  if P - 1 ≤ e - 1023 + B ∨ e - 1023 + B ≤ -F then none else
  if wid A P Q B R (c34 P Q B F R s e m) = b then some (c34 P Q B F R s e m) else none
theorem fmF {A E F P Q B r R : Int} (h : Fm A E F P Q B r R) : 0 ≤ F ∧ F ≤ 52 ∧ r = 52 - F ∧ 0 ≤ r ∧ R = 2 ^ r.toNat ∧ Q = 2 ^ F.toNat ∧ Q * R = 4503599627370496 ∧ 0 < R ∧ 2 * P * Q ≤ 18446744073709551616 := by
  rcases h with h | h | h <;> obtain ⟨rfl, rfl, rfl, rfl, rfl, rfl, rfl, rfl⟩ := h <;> decide
theorem divR {A E F P Q B r R : Int} (h : Fm A E F P Q B r R) {m : Int} (m0 : 0 ≤ m) (m1 : m < 4503599627370496) : 0 ≤ m / R ∧ m / R < Q := by
  rcases h with h | h | h <;> obtain ⟨rfl, rfl, rfl, rfl, rfl, rfl, rfl, rfl⟩ := h <;> omega
theorem divT {F t : Nat} {m : Int} (m0 : 0 ≤ m) (m1 : m < 4503599627370496) (ht : 53 ≤ t + F) : 0 ≤ (m + 4503599627370496) / 2 ^ t ∧ (m + 4503599627370496) / 2 ^ t < 2 ^ F := by
  have pos : (0 : Int) < 2 ^ t := Int.pow_pos (by decide)
  refine ⟨Int.ediv_nonneg (by omega) (by omega), Int.ediv_lt_of_lt_mul pos ?_⟩
  rw [← Int.pow_add]
  have h1 : (2 : Int) ^ 53 ≤ 2 ^ (F + t) := by
    obtain ⟨d, hd⟩ := Nat.exists_eq_add_of_le (show 53 ≤ F + t by omega)
    rw [hd, Int.pow_add]
    have : (0 : Int) < 2 ^ d := Int.pow_pos (by decide)
    have h53 : (2 : Int) ^ 53 = 9007199254740992 := by decide
    omega
  have h53 : (2 : Int) ^ 53 = 9007199254740992 := by decide
  omega
theorem c34_in {A E F P Q B r R : Int} (h : Fm A E F P Q B r R) {s : Bool} {e m : Int} (m0 : 0 ≤ m) (m1 : m < 4503599627370496) (y1 : e - 1023 + B < P - 1) (y0 : -F < e - 1023 + B) : ∃ x y, c34 P Q B F R s e m = jn s P Q x y ∧ 0 ≤ x ∧ x < P ∧ 0 ≤ y ∧ y < Q := by
  obtain ⟨f0, f1, f2, f3, f4, f5, _, _, _⟩ := fmF h
  obtain ⟨g0, g1, g2, _⟩ := bB h
  unfold c34
  by_cases c : 0 < e - 1023 + B
  · rw [if_pos c]
    obtain ⟨d0, d1⟩ := divR h m0 m1
    exact ⟨_, _, rfl, by omega, by omega, d0, d1⟩
  · rw [if_neg c]
    have := divT (F := F.toNat) (t := (53 - F - (e - 1023 + B)).toNat) m0 m1 (by omega)
    rw [← f5] at this
    exact ⟨_, _, rfl, by omega, by omega, this.1, this.2⟩
theorem parts64 {b : Int} : 0 ≤ b / 4503599627370496 % 2048 ∧ b / 4503599627370496 % 2048 < 2048 ∧ 0 ≤ b % 4503599627370496 ∧ b % 4503599627370496 < 4503599627370496 := by omega
theorem pn_sound {A E F P Q B r R : Int} (h : Fm A E F P Q B r R) {b x : Int} (e : pn A P Q B F R b = some x) : 0 ≤ x ∧ x < 2 * P * Q ∧ wid A P Q B R x = b := by
  obtain ⟨_, _, m0, m1⟩ := parts64 (b := b)
  obtain ⟨g0, g1, g2, _⟩ := bB h
  obtain ⟨d0, d1⟩ := divR h m0 m1
  unfold pn at e
  simp only [] at e
  split at e
  · cases e
    rename_i q
    have := jn_parts h (b / (2048 * 4503599627370496) == 1) (e := 0) (by omega) (by omega) d0 d1
    exact ⟨this.1, this.2.1, q⟩
  · split at e
    · cases e
      rename_i q
      have := jn_parts h (b / (2048 * 4503599627370496) == 1) (e := P - 1) (by omega) (by omega) d0 d1
      exact ⟨this.1, this.2.1, q⟩
    · split at e
      · cases e
      · split at e
        · cases e
          rename_i n q
          obtain ⟨u, v, k1, k2, k3, k4, k5⟩ := c34_in h (s := b / (2048 * 4503599627370496) == 1) (e := b / 4503599627370496 % 2048) m0 m1 (by omega) (by omega)
          rw [k1] at q ⊢
          have := jn_parts h (b / (2048 * 4503599627370496) == 1) k2 k3 k4 k5
          exact ⟨this.1, this.2.1, q⟩
        · cases e
theorem cand {A E F P Q B r R : Int} (h : Fm A E F P Q B r R) (hA : A ≠ 64) {e m : Int} (e0 : 0 ≤ e) (e1 : e < P) (m0 : 0 ≤ m) (m1 : m < Q) :
    (e = 0 ∧ m = 0 ∧ wid3 A P B R e m = (0, 0)) ∨
    (e = P - 1 ∧ (wid3 A P B R e m).1 = 2047 ∧ (wid3 A P B R e m).2 / R = m ∧ (wid3 A P B R e m).2 % R = 0) ∨
    (0 < e ∧ e < P - 1 ∧ (wid3 A P B R e m).1 - 1023 + B = e ∧ (wid3 A P B R e m).2 / R = m ∧ (wid3 A P B R e m).2 % R = 0) ∨
    (e = 0 ∧ 0 < m ∧ -F < (wid3 A P B R e m).1 - 1023 + B ∧ (wid3 A P B R e m).1 - 1023 + B ≤ 0 ∧ (wid3 A P B R e m).2 + 4503599627370496 = m * 2 ^ (53 - F - ((wid3 A P B R e m).1 - 1023 + B)).toNat) := by
  obtain ⟨f0, f1, f2, f3, f4, f5, _, f7, _⟩ := fmF h
  obtain ⟨g0, g1, g2, _⟩ := bB h
  obtain ⟨q0, q1, _, _⟩ := mR h m0 m1
  by_cases c : e = P - 1
  · rw [wid3_top c]
    exact .inr (.inl ⟨c, rfl, Int.mul_ediv_cancel _ (by omega), Int.mul_emod_left _ _⟩)
  · by_cases d : e = 0
    · subst d
      by_cases f : m = 0
      · subst f; exact .inl ⟨rfl, rfl, wid3_zero (by omega)⟩
      · have hp := mpos h (m := m) (by omega)
        obtain ⟨l1, l2⟩ := bl52 hp q1
        rw [wid3_small (by omega) hA f]
        have hb : bl (m * R) = bl m + r.toNat := by rw [f4]; exact bl_mul (by omega) _
        have hm : 1 ≤ bl m := by obtain ⟨k, hk, _⟩ := bl_ge (n := m) (by omega); omega
        refine .inr (.inr (.inr ⟨rfl, by omega, by simp only []; omega, by simp only []; omega, ?_⟩))
        simp only []
        rw [show m * R * 2 ^ (53 - bl (m * R)) - 4503599627370496 + 4503599627370496 = m * R * 2 ^ (53 - bl (m * R)) by omega, Int.mul_assoc, f4, ← Int.pow_add]
        congr 2
        rw [← f4]
        omega
    · rw [wid3_plain c d]
      exact .inr (.inr (.inl ⟨by omega, by omega, by simp only []; omega, Int.mul_ediv_cancel _ (by omega), Int.mul_emod_left _ _⟩))
theorem pn_all {A E F P Q B r R : Int} (h : Fm A E F P Q B r R) {x : Int} (x0 : 0 ≤ x) (x1 : x < 2 * P * Q) : pn A P Q B F R (wid A P Q B R x) = some x := by
  obtain ⟨e0, e1, m0, m1, p1, p2⟩ := parts_in h (b := x)
  have hx := of_parts h x0 x1
  obtain ⟨i0, i1, i2, i3⟩ := wid3_in h e0 e1 m0 m1
  obtain ⟨_, _, k1, k2, k3⟩ := jn_parts fm64 (x / (P * Q) == 1) i0 i1 i2 i3
  obtain ⟨d0, d1⟩ := divR h i2 i3
  obtain ⟨f0, f1, f2, f3, f4, f5, _, f7, f8⟩ := fmF h
  obtain ⟨g0, g1, g2, _⟩ := bB h
  have key : ∀ y : Int, 0 ≤ y → y < 2 * P * Q → wid A P Q B R y = wid A P Q B R x → some y = some x := fun y y0 y1 e => by rw [wid_inj h y0 y1 x0 x1 e]
  have u0 : wid A P Q B R x = jn (x / (P * Q) == 1) 2048 4503599627370496 (wid3 A P B R (x / Q % P) (x % Q)).1 (wid3 A P B R (x / Q % P) (x % Q)).2 := rfl
  unfold pn
  simp only []
  rw [u0, k1, k2, k3, ← u0]
  have j1 := jn_parts h (x / (P * Q) == 1) (e := 0) (by omega) (by omega) d0 d1
  have j2 := jn_parts h (x / (P * Q) == 1) (e := P - 1) (by omega) (by omega) d0 d1
  split
  · rename_i q
    exact key _ j1.1 j1.2.1 q
  · rename_i q1
    split
    · rename_i q
      exact key _ j2.1 j2.2.1 q
    · rename_i q2
      by_cases hA : A = 64
      · have hh : P = 2048 ∧ Q = 4503599627370496 ∧ B = 1023 ∧ R = 1 ∧ F = 52 := by
          rcases h with ⟨rfl, _⟩ | ⟨rfl, _⟩ | ⟨_, _, hf, hp, hq, hb, _, hr⟩
          · exact absurd hA (by decide)
          · exact absurd hA (by decide)
          · exact ⟨hp, hq, hb, hr, hf⟩
        obtain ⟨rfl, rfl, rfl, rfl, rfl⟩ := hh
        subst hA
        rw [wid3_64] at q1 q2 ⊢
        simp only [Int.ediv_one] at q1 q2 ⊢
        have n1 : x / 4503599627370496 % 2048 ≠ 0 := fun q => q1 (by rw [q] at hx; rw [hx])
        have n2 : x / 4503599627370496 % 2048 ≠ 2048 - 1 := fun q => q2 (by rw [q] at hx; rw [hx])
        rw [if_neg (by omega)]
        have hc : c34 2048 4503599627370496 1023 52 1 (x / (2048 * 4503599627370496) == 1) (x / 4503599627370496 % 2048) (x % 4503599627370496) = x := by
          unfold c34
          rw [if_pos (by omega), Int.ediv_one, show x / 4503599627370496 % 2048 - 1023 + 1023 = x / 4503599627370496 % 2048 by omega, hx]
        rw [hc, if_pos rfl]
      · rcases cand h hA e0 e1 m0 m1 with ⟨c1, c2, c3⟩ | ⟨c1, c2, c3, c4⟩ | ⟨c1, c2, c3, c4, c5⟩ | ⟨c1, c2, c3, c4, c5⟩
        · exfalso; apply q1
          rw [c3]
          show wid A P Q B R (jn _ P Q 0 (0 / R)) = _
          rw [Int.zero_ediv]
          rw [c1, c2] at hx
          rw [hx]
        · exfalso; apply q2
          rw [c3]
          rw [c1] at hx
          rw [hx]
        · rw [if_neg (by omega)]
          have hc : c34 P Q B F R (x / (P * Q) == 1) (wid3 A P B R (x / Q % P) (x % Q)).1 (wid3 A P B R (x / Q % P) (x % Q)).2 = x := by
            unfold c34
            rw [if_pos (by omega), c3, c4, hx]
          rw [hc, if_pos rfl]
        · rw [if_neg (by omega)]
          have hc : c34 P Q B F R (x / (P * Q) == 1) (wid3 A P B R (x / Q % P) (x % Q)).1 (wid3 A P B R (x / Q % P) (x % Q)).2 = x := by
            unfold c34
            rw [if_neg (by omega), c5, Int.mul_ediv_cancel _ (Int.ne_of_gt (Int.pow_pos (by decide))), ← c1, hx]
          rw [hc, if_pos rfl]

def res : Option Int → Int × Bool × Int
  | some x => (x, true, 0)
  | none => (0, false, 0)
theorem shrR {A E F P Q B r R : Int} (h : Fm A E F P Q B r R) (m : Int) : shr .u64 m (wrap64 (52 - F)) = m / R ∧ 0 ≤ wrap64 (52 - F) ∧ wrap64 (52 - F) = 52 - F := by
  rcases h with h | h | h <;> obtain ⟨rfl, rfl, rfl, rfl, rfl, rfl, rfl, rfl⟩ := h
  · rw [show wrap64 (52 - 10) = 42 by decide +kernel, shr_n .u64 42 42 rfl (by decide)]; exact ⟨rfl, by decide, by decide⟩
  · rw [show wrap64 (52 - 23) = 29 by decide +kernel, shr_n .u64 29 29 rfl (by decide)]; exact ⟨rfl, by decide, by decide⟩
  · rw [show wrap64 (52 - 52) = 0 by decide +kernel, shr_n .u64 0 0 rfl (by decide)]; exact ⟨rfl, by decide, by decide⟩
theorem pnarrow_f {A E F P Q B r R : Int} (h : Fm A E F P Q B r R) {b : Int} (b0 : 0 ≤ b) (b1 : b < 18446744073709551616) : Ev (fun k => fbits_Narrow.f k A b) (res (pn A P Q B F R b)) := by
  obtain ⟨u0, u1, m0, m1⟩ := parts64 (b := b)
  obtain ⟨g0, g1, g2, _⟩ := bB h
  obtain ⟨d0, d1⟩ := divR h m0 m1
  obtain ⟨f0, f1, f2, f3, f4, f5, _, f7, f8⟩ := fmF h
  have hpos : (0 : Int) < 2 * P * Q := by
    rcases h with h | h | h <;> obtain ⟨rfl, rfl, rfl, rfl, rfl, rfl, rfl, rfl⟩ := h <;> decide
  obtain ⟨r1, r2, r3⟩ := shrR h (b % 4503599627370496)
  refine Ev.congr (fun k => by unfold fbits_Narrow.f; rfl) (Ev.bind (of_f h (b := 0) (by decide) (by decide)) ?_)
  refine Ev.pos (by simpa using hpos) (Ev.pre widths_f (Ev.pre (split_f fm64 b0 (by omega)) (Ev.pre (top_f h) ?_)))
  simp only []
  unfold pn
  simp only []
  generalize (b / (2048 * 4503599627370496) == 1) = s
  generalize b / 4503599627370496 % 2048 = e at *
  generalize b % 4503599627370496 = m at *
  have w : ∀ {x y : Int}, 0 ≤ x → x < P → 0 ≤ y → y < Q → Ev (fun k => fbits_Widen.f k A (jn s P Q x y)) (wid A P Q B R (jn s P Q x y), 0) := by
    intro x y x0 x1 y0 y1
    have hj := jn_parts h s x0 x1 y0 y1
    have := pwiden_f h (b := jn s P Q x y) hj.1 (by omega)
    rwa [if_pos hj.2.1] at this
  refine Ev.step (fun k => by simp only [fbits_Narrow.l0]; rfl) (Ev.pos (by decide) (Ev.pos (by trivial) (Ev.pos r2 ?_)))
  rw [r1]
  refine Ev.pre (join_f h s (by omega) (by omega) d0 d1) (Ev.bind (w (by omega) (by omega) d0 d1) ?_)
  by_cases q1 : wid A P Q B R (jn s P Q 0 (m / R)) = b
  · rw [if_pos q1]
    exact Ev.pos q1 (Ev.const rfl)
  · rw [if_neg q1]
    refine Ev.neg q1 (Ev.step (fun k => by simp only [show wrap64 (0 + 1) = 1 by decide +kernel, fbits_Narrow.l0]; rfl) (Ev.pos (by decide) (Ev.neg (by decide) (Ev.pos (by trivial) (Ev.pos r2 ?_)))))
    rw [r1]
    refine Ev.pre (join_f h s (by omega) (by omega) d0 d1) (Ev.bind (w (by omega) (by omega) d0 d1) ?_)
    by_cases q2 : wid A P Q B R (jn s P Q (P - 1) (m / R)) = b
    · rw [if_pos q2]
      exact Ev.pos q2 (Ev.const rfl)
    · rw [if_neg q2]
      refine Ev.neg q2 (Ev.step (fun k => by simp only [show wrap64 (1 + 1) = 2 by decide +kernel, fbits_Narrow.l0]; rfl) (Ev.neg (by decide) (Ev.pre (bias_f h) (Ev.pre (top_f h) ?_))))
      rw [wrap_id (x := e - 1023) (by omega) (by omega), wrap_id (x := e - 1023 + B) (by omega) (by omega), wrap_id (x := -F) (by omega) (by omega)]
      have fin : ∀ {x y : Int}, 0 ≤ x → x < P → 0 ≤ y → y < Q → c34 P Q B F R s e m = jn s P Q x y → Ev (fun k => fbits_Narrow.j2 k A b A E F s x y) (res (if wid A P Q B R (c34 P Q B F R s e m) = b then some (c34 P Q B F R s e m) else none)) := by
        intro x y x0 x1 y0 y1 hc
        rw [hc]
        refine Ev.step (fun k => by simp only [fbits_Narrow.j2]; rfl) (Ev.pre (join_f h s x0 x1 y0 y1) (Ev.bind (w x0 x1 y0 y1) ?_))
        by_cases q : wid A P Q B R (jn s P Q x y) = b
        · exact Ev.res (Ev.pos q (Ev.const rfl)) (by rw [if_pos q]; rfl)
        · exact Ev.res (Ev.neg q (Ev.const rfl)) (by rw [if_neg q]; rfl)
      by_cases q3 : e - 1023 + B ≥ P - 1
      · rw [if_pos (.inl q3), decide_eq_true q3]
        exact Ev.pos q3 (Ev.step (fun k => by simp only [fbits_Narrow.j1]; rfl) (Ev.pos (by decide) (Ev.const rfl)))
      · refine Ev.neg q3 (Ev.step (fun k => by simp only [fbits_Narrow.j1]; rfl) ?_)
        by_cases q4 : e - 1023 + B ≤ -F
        · rw [if_pos (.inr q4), decide_eq_true q4]
          exact Ev.pos rfl (Ev.const rfl)
        · rw [if_neg (by omega), decide_eq_false q4]
          refine Ev.neg (by simp) ?_
          by_cases q5 : e - 1023 + B > 0
          · refine Ev.pos q5 (Ev.pos r2 ?_)
            rw [r1]
            exact fin (by omega) (by omega) d0 d1 (by unfold c34; rw [if_pos q5])
          · have ht := divT (F := F.toNat) (t := (53 - F - (e - 1023 + B)).toNat) m0 m1 (by omega)
            rw [← f5] at ht
            rw [r3, wrap_id (x := 52 - F + 1) (by omega) (by omega), wrap_id (x := 52 - F + 1 - (e - 1023 + B)) (by omega) (by omega)]
            refine Ev.neg q5 (Ev.pos (by omega) ?_)
            rw [or64' 52 (x := 4503599627370496) (by decide) (by decide) (by decide) m0 (by omega) (by omega), Int.add_comm 4503599627370496 m, shr_n .u64 _ (53 - F - (e - 1023 + B)).toNat (by omega) (by show _ ≤ 64; omega)]
            exact fin (by omega) (by omega) ht.1 ht.2 (by unfold c34; rw [if_neg (by omega)])
theorem pn64 {b : Int} (b0 : 0 ≤ b) (b1 : b < 18446744073709551616) : pn 64 2048 4503599627370496 1023 52 1 b = some b := by
  have := pn_all fm64 b0 (by omega)
  rwa [wid64 b0 b1] at this

theorem rwidths_f {A E F P Q B r R : Int} (h : Fm A E F P Q B r R) : glossatorref05_widths.f A = some (E, F) := by
  rcases h with h | h | h <;> obtain ⟨rfl, rfl, rfl, rfl, rfl, rfl, rfl, rfl⟩ := h <;> decide +kernel
theorem rparts_f {A E F P Q B r R : Int} (h : Fm A E F P Q B r R) {b : Int} (b0 : 0 ≤ b) (b1 : b < 18446744073709551616) : glossatorref05_Parts.f A b = some (if b < 2 * P * Q then (b / (P * Q) == 1, b / Q % P, b % Q, 0) else (false, 0, 0, 1)) := by
  have hw := rwidths_f h
  unfold glossatorref05_Parts.f
  rw [hw]
  rcases h with h | h | h <;> obtain ⟨rfl, rfl, rfl, rfl, rfl, rfl, rfl, rfl⟩ := h
  · simp only [Option.bind_some]
    rw [if_neg (by decide), if_pos (by decide), if_pos (by decide), shr_n .u64 16 16 rfl (by decide)]
    by_cases c : b < 2 * 32 * 1024
    · rw [if_pos c, if_pos (by omega), if_pos (by decide +kernel), if_pos (by decide), if_pos (by decide), show wrap64 (5 + 10) = 15 by decide +kernel, shr_n .u64 15 15 rfl (by decide), shr_n .u64 10 10 rfl (by decide), wrap_id (x := b / 2 ^ 10) (by omega) (by omega), show wrap64 (shl .i64 1 5 - 1) = 2 ^ 5 - 1 by decide +kernel, maski 5 (by decide) rfl (by omega) (by omega), show IntKind.u64.wrap (shl .u64 1 10 - 1) = 2 ^ 10 - 1 by decide +kernel, mask64 10 (by decide) rfl b0 (by omega)]
      rfl
    · rw [if_neg c, if_neg (by omega)]
  · simp only [Option.bind_some]
    rw [if_neg (by decide), if_pos (by decide), if_pos (by decide), shr_n .u64 32 32 rfl (by decide)]
    by_cases c : b < 2 * 256 * 8388608
    · rw [if_pos c, if_pos (by omega), if_pos (by decide +kernel), if_pos (by decide), if_pos (by decide), show wrap64 (8 + 23) = 31 by decide +kernel, shr_n .u64 31 31 rfl (by decide), shr_n .u64 23 23 rfl (by decide), wrap_id (x := b / 2 ^ 23) (by omega) (by omega), show wrap64 (shl .i64 1 8 - 1) = 2 ^ 8 - 1 by decide +kernel, maski 8 (by decide) rfl (by omega) (by omega), show IntKind.u64.wrap (shl .u64 1 23 - 1) = 2 ^ 23 - 1 by decide +kernel, mask64 23 (by decide) rfl b0 (by omega)]
      rfl
    · rw [if_neg c, if_neg (by omega)]
  · simp only [Option.bind_some]
    rw [if_neg (by decide), if_neg (by decide), if_pos (by decide +kernel), if_pos (by decide), if_pos (by decide), if_pos (by omega), show wrap64 (11 + 52) = 63 by decide +kernel, shr_n .u64 63 63 rfl (by decide), shr_n .u64 52 52 rfl (by decide), wrap_id (x := b / 2 ^ 52) (by omega) (by omega), show wrap64 (shl .i64 1 11 - 1) = 2 ^ 11 - 1 by decide +kernel, maski 11 (by decide) rfl (by omega) (by omega), show IntKind.u64.wrap (shl .u64 1 52 - 1) = 2 ^ 52 - 1 by decide +kernel, mask64 52 (by decide) rfl b0 (by omega)]
    rfl
theorem rtop {A E F P Q B r R : Int} (h : Fm A E F P Q B r R) : 0 ≤ E ∧ wrap64 (shl .i64 1 E - 1) = P - 1 := by
  rcases h with h | h | h <;> obtain ⟨rfl, rfl, rfl, rfl, rfl, rfl, rfl, rfl⟩ := h <;> decide +kernel

theorem rjoin_f (s : Bool) {e m : Int} (e0 : 0 ≤ e) (e1 : e < 2048) (m0 : 0 ≤ m) (m1 : m < 4503599627370496) : glossatorref05_join.f s e m = some (jn s 2048 4503599627370496 e m) := by
  unfold glossatorref05_join.f jn
  rw [u64_id (n := e) (by omega) (by omega), u64_id (n := e * 4503599627370496) (by omega) (by omega), or64 52 (x := e * 4503599627370496) (by omega) (by omega) (by omega) m0 (by omega) (by omega)]
  cases s
  · rw [if_neg (by simp), if_neg (by simp), Int.zero_add]
  · rw [if_pos rfl, if_pos rfl, or64' 63 (x := 9223372036854775808) (by decide) (by decide) (by decide) (by omega) (by omega) (by omega)]
    rfl
theorem rbias {A E F P Q B r R : Int} (h : Fm A E F P Q B r R) : 0 ≤ wrap64 (E - 1) ∧ wrap64 (shl .i64 1 (wrap64 (E - 1)) - 1) = B := by
  rcases h with h | h | h <;> obtain ⟨rfl, rfl, rfl, rfl, rfl, rfl, rfl, rfl⟩ := h <;> decide +kernel
theorem f64 {A E F P Q B r R : Int} (h : Fm A E F P Q B r R) (hA : A = 64) : E = 11 ∧ F = 52 ∧ P = 2048 ∧ Q = 4503599627370496 ∧ B = 1023 ∧ R = 1 := by
  rcases h with ⟨rfl, _⟩ | ⟨rfl, _⟩ | ⟨_, he, hf, hp, hq, hb, _, hr⟩
  · exact absurd hA (by decide)
  · exact absurd hA (by decide)
  · exact ⟨he, hf, hp, hq, hb, hr⟩

theorem shift_l0 (n : Int) (hn : n ≤ 64) : ∀ (d : Nat) (i x : Int), i + d = n → 0 ≤ i → 0 ≤ x → x < 18446744073709551616 → Ev (fun k => glossatorref05_shift.l0 k x n i) (if x % 2 ^ d = 0 then (x / 2 ^ d, true) else (0, false)) := by
  intro d
  induction d with
  | zero =>
    intro i x hi i0 x0 x1
    refine Ev.step (fun k => by simp only [glossatorref05_shift.l0]; rfl) (Ev.neg (by omega) (Ev.const ?_))
    rw [Int.pow_zero, if_pos (by omega), Int.ediv_one]
  | succ d ih =>
    intro i x hi i0 x0 x1
    refine Ev.step (fun k => by simp only [glossatorref05_shift.l0]; rfl) (Ev.pos (by omega) ?_)
    rw [mask64 1 (by decide) (m := 1) (by decide) x0 x1]
    have pos : (0 : Int) < 2 ^ d := Int.pow_pos (by decide)
    have e1 := Int.mul_ediv_add_emod x (2 ^ (d + 1))
    have e2 := Int.mul_ediv_add_emod (x / 2) (2 ^ d)
    have e3 : x / 2 ^ (d + 1) = x / 2 / 2 ^ d := by rw [Int.pow_succ, Int.mul_comm, Int.ediv_ediv_of_nonneg (by decide)]
    rw [e3, Int.pow_succ, Int.mul_comm (2 ^ d) 2, Int.mul_assoc] at e1
    have b1 := Int.emod_nonneg (x / 2) (show (2 : Int) ^ d ≠ 0 by omega)
    by_cases c : x % 2 ^ 1 = 1
    · refine Ev.pos c (Ev.const ?_)
      rw [if_neg]
      rw [Int.pow_succ, Int.mul_comm (2 ^ d) 2]
      omega
    · refine Ev.neg c ?_
      rw [wrap_id (x := i + 1) (by omega) (by omega)]
      refine Ev.res (ih (i + 1) (x / 2) (by omega) (by omega) (by omega) (by omega)) ?_
      rw [e3, Int.pow_succ, Int.mul_comm (2 ^ d) 2]
      by_cases q : x / 2 % 2 ^ d = 0
      · rw [if_pos q, if_pos (by omega)]
      · rw [if_neg q, if_neg (by omega)]
theorem shift_f {n x : Int} (d : Nat) (hd : n = d) (hn : d ≤ 64) (x0 : 0 ≤ x) (x1 : x < 18446744073709551616) : Ev (fun k => glossatorref05_shift.f k x n) (if x % 2 ^ d = 0 then (x / 2 ^ d, true) else (0, false)) := by
  refine Ev.congr (fun k => by unfold glossatorref05_shift.f; rfl) ?_
  exact shift_l0 n (by omega) d 0 x (by omega) (by omega) x0 x1
def rn3 (P Q B F R : Int) (s : Bool) (e m : Int) : Option Int :=
  if e = 0 then (if m = 0 then some (jn s P Q 0 0) else none) else
  if e = 2047 then (if m % R = 0 then some (jn s P Q (P - 1) (m / R)) else none) else
  if P - 1 ≤ e - 1023 + B ∨ e - 1023 + B < -F then none else
  if 1 ≤ e - 1023 + B then (if m % R = 0 then some (jn s P Q (e - 1023 + B) (m / R)) else none) else
  if (m + 4503599627370496) % 2 ^ (53 - F - (e - 1023 + B)).toNat = 0 then some (jn s P Q 0 ((m + 4503599627370496) / 2 ^ (53 - F - (e - 1023 + B)).toNat)) else none
def rn (P Q B F R b : Int) : Option Int := rn3 P Q B F R (b / (2048 * 4503599627370496) == 1) (b / 4503599627370496 % 2048) (b % 4503599627370496)
theorem fmS {A E F P Q B r R : Int} (h : Fm A E F P Q B r R) (hA : A ≠ 64) : B ≤ 127 ∧ F ≤ 23 := by
  rcases h with h | h | h <;> obtain ⟨rfl, rfl, rfl, rfl, rfl, rfl, rfl, rfl⟩ := h
  · decide
  · decide
  · exact absurd rfl hA
theorem rn_all {A E F P Q B r R : Int} (h : Fm A E F P Q B r R) (hA : A ≠ 64) {x : Int} (x0 : 0 ≤ x) (x1 : x < 2 * P * Q) : rn P Q B F R (wid A P Q B R x) = some x := by
  obtain ⟨e0, e1, m0, m1, p1, p2⟩ := parts_in h (b := x)
  have hx := of_parts h x0 x1
  obtain ⟨i0, i1, i2, i3⟩ := wid3_in h e0 e1 m0 m1
  obtain ⟨_, _, k1, k2, k3⟩ := jn_parts fm64 (x / (P * Q) == 1) i0 i1 i2 i3
  obtain ⟨g0, g1, g2, _⟩ := bB h
  obtain ⟨s1, s2⟩ := fmS h hA
  have f0 := (fmF h).1
  have u0 : wid A P Q B R x = jn (x / (P * Q) == 1) 2048 4503599627370496 (wid3 A P B R (x / Q % P) (x % Q)).1 (wid3 A P B R (x / Q % P) (x % Q)).2 := rfl
  unfold rn
  rw [u0, k1, k2, k3]
  unfold rn3
  rcases cand h hA e0 e1 m0 m1 with ⟨c1, c2, c3⟩ | ⟨c1, c2, c3, c4⟩ | ⟨c1, c2, c3, c4, c5⟩ | ⟨c1, c2, c3, c4, c5⟩
  · rw [c3, if_pos rfl, if_pos rfl]
    rw [c1, c2] at hx
    rw [hx]
  · rw [if_neg (by omega), if_pos c2, if_pos c4, c3]
    rw [c1] at hx
    rw [hx]
  · rw [if_neg (by omega), if_neg (by omega), if_neg (by omega), if_pos (by omega), if_pos c5, c3, c4, hx]
  · rw [if_neg (by omega), if_neg (by omega), if_neg (by omega), if_neg (by omega), c5, if_pos (Int.mul_emod_left _ _), Int.mul_ediv_cancel _ (Int.ne_of_gt (Int.pow_pos (by decide))), ← c1, hx]
theorem rn_sound {A E F P Q B r R : Int} (h : Fm A E F P Q B r R) (hA : A ≠ 64) {b x : Int} (b0 : 0 ≤ b) (b1 : b < 18446744073709551616) (q : rn P Q B F R b = some x) : 0 ≤ x ∧ x < 2 * P * Q ∧ wid A P Q B R x = b := by
  obtain ⟨u0, u1, m0, m1⟩ := parts64 (b := b)
  obtain ⟨g0, g1, g2, _⟩ := bB h
  obtain ⟨d0, d1⟩ := divR h m0 m1
  obtain ⟨f0, f1, f2, f3, f4, f5, _, f7, f8⟩ := fmF h
  obtain ⟨s1, s2⟩ := fmS h hA
  have hb := of_parts fm64 b0 (by omega)
  unfold rn at q
  generalize (b / (2048 * 4503599627370496) == 1) = s at *
  generalize b / 4503599627370496 % 2048 = e at *
  generalize b % 4503599627370496 = m at *
  have fin : ∀ {u v : Int}, 0 ≤ u → u < P → 0 ≤ v → v < Q → wid3 A P B R u v = (e, m) → 0 ≤ jn s P Q u v ∧ jn s P Q u v < 2 * P * Q ∧ wid A P Q B R (jn s P Q u v) = b := by
    intro u v a1 a2 a3 a4 hw
    have hj := jn_parts h s a1 a2 a3 a4
    refine ⟨hj.1, hj.2.1, ?_⟩
    rw [wid_jn h s a1 a2 a3 a4, hw]
    exact hb
  unfold rn3 at q
  have hmR : m % R = 0 → m / R * R = m := fun o => Int.ediv_mul_cancel (Int.dvd_of_emod_eq_zero o)
  split at q
  · split at q
    · cases q
      rename_i a1 a2
      exact fin (by omega) (by omega) (by omega) (by omega) (by rw [wid3_zero (by omega), a1, a2])
    · cases q
  · split at q
    · split at q
      · cases q
        rename_i a1 a2
        exact fin (by omega) (by omega) d0 d1 (by rw [wid3_top rfl, hmR a2, a1])
      · cases q
    · split at q
      · cases q
      · split at q
        · split at q
          · cases q
            rename_i a1 a2
            exact fin (by omega) (by omega) d0 d1 (by rw [wid3_plain (by omega) (by omega), hmR a2, show e - 1023 + B + 1023 - B = e by omega])
          · cases q
        · split at q
          · cases q
            rename_i a1 a2 a3 a4 a5
            have hl : (53 - F - (e - 1023 + B)).toNat ≤ 53 ∧ ((53 - F - (e - 1023 + B)).toNat : Int) = 53 - F - (e - 1023 + B) := by omega
            obtain ⟨hl, ht⟩ := hl
            have dT := divT (F := F.toNat) (t := (53 - F - (e - 1023 + B)).toNat) m0 m1 (by omega)
            rw [← f5] at dT
            generalize (53 - F - (e - 1023 + B)).toNat = t at *
            have hk : (m + 4503599627370496) / 2 ^ t * 2 ^ t = m + 4503599627370496 := Int.ediv_mul_cancel (Int.dvd_of_emod_eq_zero a5)
            generalize (m + 4503599627370496) / 2 ^ t = k at *
            have kp : 0 < k := by
              rcases Int.lt_or_le 0 k with o | o
              · exact o
              · have : k = 0 := by omega
                rw [this, Int.zero_mul] at hk; omega
            have h53 : bl (m + 4503599627370496) = 53 := bl_of (k := 52) (by rw [show (2 : Int) ^ 52 = 4503599627370496 by decide]; omega) (by rw [show (2 : Int) ^ (52 + 1) = 9007199254740992 by decide]; omega)
            rw [← hk, bl_mul kp] at h53
            have hbr : bl (k * R) = bl k + r.toNat := by rw [f4]; exact bl_mul kp _
            refine fin (by omega) (by omega) dT.1 dT.2 ?_
            rw [wid3_small (by omega) hA (by omega), hbr]
            have e2 : k * R * 2 ^ (53 - (bl k + r.toNat)) = k * 2 ^ t := by
              rw [Int.mul_assoc, f4, ← Int.pow_add]
              congr 2
              omega
            rw [e2, hk]
            congr 1
            · omega
            · omega
          · cases q
theorem rn_pn {A E F P Q B r R : Int} (h : Fm A E F P Q B r R) (hA : A ≠ 64) {b : Int} (b0 : 0 ≤ b) (b1 : b < 18446744073709551616) : rn P Q B F R b = pn A P Q B F R b := by
  cases hp : pn A P Q B F R b with
  | some x =>
    obtain ⟨x0, x1, e⟩ := pn_sound h hp
    rw [← e]
    exact rn_all h hA x0 x1
  | none =>
    cases hr : rn P Q B F R b with
    | none => rfl
    | some x =>
      obtain ⟨x0, x1, e⟩ := rn_sound h hA b0 b1 hr
      have := pn_all h x0 x1
      rw [e, hp] at this
      cases this
theorem sor {A E F P Q B r R : Int} (h : Fm A E F P Q B r R) (s : Bool) {m : Int} (m0 : 0 ≤ m) (m1 : m < Q) : Go.bits .or .u64 (if s = true then P * Q else 0) m = jn s P Q 0 m := by
  unfold jn
  rcases h with h | h | h <;> obtain ⟨rfl, rfl, rfl, rfl, rfl, rfl, rfl, rfl⟩ := h
  · rw [or64 10 (by split <;> omega) (by split <;> omega) (by split <;> omega) m0 (by omega) (by omega)]; omega
  · rw [or64 23 (by split <;> omega) (by split <;> omega) (by split <;> omega) m0 (by omega) (by omega)]; omega
  · rw [or64 52 (by split <;> omega) (by split <;> omega) (by split <;> omega) m0 (by omega) (by omega)]; omega
theorem sjoin {A E F P Q B r R : Int} (h : Fm A E F P Q B r R) (s : Bool) {e m : Int} (e0 : 0 ≤ e) (e1 : e < P) (m0 : 0 ≤ m) (m1 : m < Q) : Go.bits .or .u64 (Go.bits .or .u64 (if s = true then P * Q else 0) (e * Q)) m = jn s P Q e m := by
  unfold jn
  rcases h with h | h | h <;> obtain ⟨rfl, rfl, rfl, rfl, rfl, rfl, rfl, rfl⟩ := h
  · rw [or64 15 (x := if s = true then 32 * 1024 else 0) (by split <;> omega) (by split <;> omega) (by split <;> omega) (by omega) (by omega) (by omega), or64 10 (by split <;> omega) (by split <;> omega) (by split <;> omega) m0 (by omega) (by omega)]; omega
  · rw [or64 31 (x := if s = true then 256 * 8388608 else 0) (by split <;> omega) (by split <;> omega) (by split <;> omega) (by omega) (by omega) (by omega), or64 23 (by split <;> omega) (by split <;> omega) (by split <;> omega) m0 (by omega) (by omega)]; omega
  · rw [or64 63 (x := if s = true then 2048 * 4503599627370496 else 0) (by split <;> omega) (by split <;> omega) (by split <;> omega) (by omega) (by omega) (by omega), or64 52 (by split <;> omega) (by split <;> omega) (by split <;> omega) m0 (by omega) (by omega)]; omega
theorem shlF {A E F P Q B r R : Int} (h : Fm A E F P Q B r R) {e : Int} (e0 : 0 ≤ e) (e1 : e < P) : shl .u64 (IntKind.u64.wrap e) F = e * Q := by
  rcases h with h | h | h <;> obtain ⟨rfl, rfl, rfl, rfl, rfl, rfl, rfl, rfl⟩ := h
  · rw [u64_id e0 (by omega), shl_n .u64 10 10 rfl (by decide), u64_id (by omega) (by omega)]; rfl
  · rw [u64_id e0 (by omega), shl_n .u64 23 23 rfl (by decide), u64_id (by omega) (by omega)]; rfl
  · rw [u64_id e0 (by omega), shl_n .u64 52 52 rfl (by decide), u64_id (by omega) (by omega)]; rfl
theorem rconst {A E F P Q B r R : Int} (h : Fm A E F P Q B r R) : E ≠ 0 ∧ 0 ≤ F ∧ 0 ≤ wrap64 (E + F) ∧ shl .u64 1 (wrap64 (E + F)) = P * Q ∧ shl .u64 1 E - 1 = P - 1 ∧ wrap64 (-F) = -F := by
  rcases h with h | h | h <;> obtain ⟨rfl, rfl, rfl, rfl, rfl, rfl, rfl, rfl⟩ := h <;> decide +kernel
theorem rnarrow_f {A E F P Q B r R : Int} (h : Fm A E F P Q B r R) {b : Int} (b0 : 0 ≤ b) (b1 : b < 18446744073709551616) : Ev (fun k => glossatorref05_Narrow.f k A b) (res (pn A P Q B F R b)) := by
  obtain ⟨v0, v1, v2, v3, v4, v5⟩ := rconst h
  refine Ev.congr (fun k => by unfold glossatorref05_Narrow.f; rfl) (Ev.pre (rwidths_f h) (Ev.neg v0 ?_))
  by_cases hA : A = 64
  · refine Ev.pos hA (Ev.const ?_)
    obtain ⟨rfl, rfl, rfl, rfl, rfl, rfl⟩ := f64 h hA
    subst hA
    rw [pn64 b0 b1]; rfl
  · rw [← rn_pn h hA b0 b1]
    refine Ev.neg hA (Ev.pre (rparts_f fm64 b0 b1) ?_)
    obtain ⟨u0, u1, m0, m1⟩ := parts64 (b := b)
    obtain ⟨g0, g1, g2, _⟩ := bB h
    obtain ⟨d0, d1⟩ := divR h m0 m1
    obtain ⟨f0, f1, f2, f3, f4, f5, _, f7, f8⟩ := fmF h
    obtain ⟨s1, s2⟩ := fmS h hA
    obtain ⟨z0, z1⟩ := rbias h
    obtain ⟨t0, t1⟩ := rtop h
    obtain ⟨_, r2, r3⟩ := shrR h (b % 4503599627370496)
    rw [if_pos (show b < 2 * 2048 * 4503599627370496 by omega)]
    unfold rn
    simp only []
    generalize (b / (2048 * 4503599627370496) == 1) = s at *
    generalize b / 4503599627370496 % 2048 = e at *
    generalize b % 4503599627370496 = m at *
    have hmain : ∀ sg : Int, (if s = true then P * Q else 0) = sg → Ev (fun k => glossatorref05_Narrow.j0 k E F e m sg) (res (rn3 P Q B F R s e m)) := by
      intro sg hsg
      refine Ev.step (fun k => by simp only [glossatorref05_Narrow.j0]; rfl) (Ev.pos z0 ?_)
      rw [z1, wrap_id (x := e - 1023) (by omega) (by omega), wrap_id (x := e - 1023 + B) (by omega) (by omega)]
      have sh := shift_f (n := wrap64 (52 - F)) (x := m) r.toNat (by omega) (by omega) m0 (by omega)
      rw [← f4] at sh
      by_cases a1 : e = 0
      · refine Ev.pos a1 (Ev.step (fun k => by simp only [glossatorref05_Narrow.j1]; rfl) ?_)
        by_cases a2 : m = 0
        · refine Ev.res (Ev.pos (by simpa using a2) (Ev.const rfl)) ?_
          unfold rn3
          rw [if_pos a1, if_pos a2, ← hsg]
          simp [res, jn]
        · refine Ev.res (Ev.neg (by simpa using a2) (Ev.pos a1 (Ev.const rfl))) ?_
          unfold rn3
          rw [if_pos a1, if_neg a2]; rfl
      · refine Ev.neg a1 (Ev.step (fun k => by simp only [glossatorref05_Narrow.j1]; rfl) (Ev.neg (by simp) (Ev.neg a1 ?_)))
        by_cases a2 : e = 2047
        · by_cases a3 : m % R = 0
          · rw [if_pos a3] at sh
            refine Ev.res (Ev.pos a2 (Ev.bind sh (Ev.pos rfl (Ev.pos t0 (Ev.pos v1 (Ev.const rfl)))))) ?_
            unfold rn3
            rw [if_neg a1, if_pos a2, if_pos a3, ← hsg, v4, shlF h (by omega) (by omega)]
            simp only []
            rw [sjoin h s (by omega) (by omega) d0 d1]; rfl
          · rw [if_neg a3] at sh
            refine Ev.res (Ev.pos a2 (Ev.bind sh (Ev.neg (by simp) (Ev.const rfl)))) ?_
            unfold rn3
            rw [if_neg a1, if_pos a2, if_neg a3]; rfl
        · refine Ev.neg a2 (Ev.pos t0 ?_)
          rw [t1, v5]
          by_cases a3 : e - 1023 + B ≥ P - 1
          · refine Ev.res (Ev.pos a3 (Ev.step (fun k => by simp only [glossatorref05_Narrow.j2]; rfl) (Ev.pos (by trivial) (Ev.const rfl)))) ?_
            unfold rn3
            rw [if_neg a1, if_neg a2, if_pos (.inl a3)]; rfl
          · refine Ev.neg a3 (Ev.step (fun k => by simp only [glossatorref05_Narrow.j2]; rfl) ?_)
            by_cases a4 : e - 1023 + B < -F
            · refine Ev.res (Ev.pos (by simpa using a4) (Ev.const rfl)) ?_
              unfold rn3
              rw [if_neg a1, if_neg a2, if_pos (.inr a4)]; rfl
            · refine Ev.neg (by simpa using a4) ?_
              by_cases a5 : e - 1023 + B ≥ 1
              · by_cases a6 : m % R = 0
                · rw [if_pos a6] at sh
                  refine Ev.res (Ev.pos a5 (Ev.bind sh (Ev.pos rfl (Ev.pos v1 (Ev.const rfl))))) ?_
                  unfold rn3
                  rw [if_neg a1, if_neg a2, if_neg (by omega), if_pos (show 1 ≤ e - 1023 + B from a5), if_pos a6, ← hsg, shlF h (by omega) (by omega)]
                  simp only []
                  rw [sjoin h s (by omega) (by omega) d0 d1]; rfl
                · rw [if_neg a6] at sh
                  refine Ev.res (Ev.pos a5 (Ev.bind sh (Ev.neg (by simp) (Ev.const rfl)))) ?_
                  unfold rn3
                  rw [if_neg a1, if_neg a2, if_neg (by omega), if_pos (show 1 ≤ e - 1023 + B from a5), if_neg a6]; rfl
              · refine Ev.neg a5 ?_
                have sh2 := shift_f (n := 52 - F + 1 - (e - 1023 + B)) (x := m + 4503599627370496) (53 - F - (e - 1023 + B)).toNat (by omega) (by omega) (by omega) (by omega)
                rw [r3, wrap_id (x := 52 - F + 1) (by omega) (by omega), wrap_id (x := 52 - F + 1 - (e - 1023 + B)) (by omega) (by omega), or64' 52 (x := 4503599627370496) (by decide) (by decide) (by decide) m0 (by omega) (by omega), Int.add_comm 4503599627370496 m]
                by_cases a6 : (m + 4503599627370496) % 2 ^ (53 - F - (e - 1023 + B)).toNat = 0
                · rw [if_pos a6] at sh2
                  have ht := divT (F := F.toNat) (t := (53 - F - (e - 1023 + B)).toNat) m0 m1 (by omega)
                  rw [← f5] at ht
                  refine Ev.res (Ev.bind sh2 (Ev.pos rfl (Ev.const rfl))) ?_
                  unfold rn3
                  rw [if_neg a1, if_neg a2, if_neg (by omega), if_neg (show ¬ 1 ≤ e - 1023 + B from a5), if_pos a6, ← hsg]
                  simp only []
                  rw [sor h s ht.1 ht.2]; rfl
                · rw [if_neg a6] at sh2
                  refine Ev.res (Ev.bind sh2 (Ev.neg (by simp) (Ev.const rfl))) ?_
                  unfold rn3
                  rw [if_neg a1, if_neg a2, if_neg (by omega), if_neg (show ¬ 1 ≤ e - 1023 + B from a5), if_neg a6]; rfl
    cases s
    · exact Ev.neg (by simp) (hmain 0 (by simp))
    · refine Ev.pos rfl (Ev.pos v2 ?_)
      rw [v3]
      exact hmain _ (by simp)
theorem fm16 : Fm 16 5 10 32 1024 15 42 4398046511104 := .inl ⟨rfl, rfl, rfl, rfl, rfl, rfl, rfl, rfl⟩
theorem fm32 : Fm 32 8 23 256 8388608 127 29 536870912 := .inr (.inl ⟨rfl, rfl, rfl, rfl, rfl, rfl, rfl, rfl⟩)
def lst (b : Int) : Int × Int :=
  match pn 16 32 1024 15 10 4398046511104 b with
  | some x => (16, x)
  | none => match pn 32 256 8388608 127 23 536870912 b with
    | some x => (32, x)
    | none => (64, b)
theorem least_f {b : Int} (b0 : 0 ≤ b) (b1 : b < 18446744073709551616) : Ev (fun k => fbits_Least.f k b) (lst b) := by
  refine Ev.congr (fun k => by unfold fbits_Least.f; rfl) (Ev.pre widths_f (Ev.step (fun k => by simp only [fbits_Least.l0]; rfl) (Ev.pos (by decide) (Ev.pos (by trivial) (Ev.bind (pnarrow_f fm16 b0 b1) ?_)))))
  unfold lst
  cases pn 16 32 1024 15 10 4398046511104 b with
  | some x => exact Ev.pos rfl (Ev.const rfl)
  | none =>
    refine Ev.neg (by simp [res]) (Ev.step (fun k => by simp only [show wrap64 (0 + 1) = 1 by decide +kernel, fbits_Least.l0]; rfl) (Ev.pos (by decide) (Ev.neg (by decide) (Ev.pos (by trivial) (Ev.bind (pnarrow_f fm32 b0 b1) ?_)))))
    cases pn 32 256 8388608 127 23 536870912 b with
    | some x => exact Ev.pos rfl (Ev.const rfl)
    | none =>
      refine Ev.neg (by simp [res]) (Ev.step (fun k => by simp only [show wrap64 (1 + 1) = 2 by decide +kernel, fbits_Least.l0]; rfl) (Ev.pos (by decide) (Ev.neg (by decide) (Ev.neg (by decide) (Ev.pos (by trivial) (Ev.bind (pnarrow_f fm64 b0 b1) ?_))))))
      rw [pn64 b0 b1]
      exact Ev.pos rfl (Ev.const rfl)

theorem ctz_spec {x : Int} (h0 : 0 < x) (h1 : x < 18446744073709551616) : ∃ m : Int, x = 2 ^ Lib.ctz 64 x.toNat * (2 * m + 1) ∧ Lib.ctz 64 x.toNat < 64 := by
  obtain ⟨n, rfl⟩ := Int.eq_ofNat_of_zero_le (show 0 ≤ x by omega)
  rw [Int.toNat_natCast]
  have hz : n ≠ 0 := by omega
  have e : Lib.ctz 64 n = Lib.ctzFrom 64 n := by unfold Lib.ctz; rw [if_neg hz]
  rw [e]
  obtain ⟨m, h, hk⟩ := Lib.ctzFrom_spec 64 n (by omega) (by omega)
  refine ⟨(m : Int), ?_, hk⟩
  have : (n : Int) = ((2 ^ Lib.ctzFrom 64 n * (2 * m + 1) : Nat) : Int) := congrArg (fun z : Nat => (z : Int)) h
  rw [this]
  simp
theorem tz_f {x : Int} (h0 : 0 ≤ x) (h1 : x < 18446744073709551616) : bits_TrailingZeros64.f x = some (Lib.ctz 64 x.toNat : Int) := by
  unfold bits_TrailingZeros64.f Tz.f
  rw [if_pos h0, if_pos h1]
def fr (N : Int) : Int := (N * 2 ^ (64 - bl N) * 2 % 18446744073709551616) / 4096
def fi (s : Bool) (N : Int) : Int × Bool :=
  if N = 0 then (if s = true then (jn true 2048 4503599627370496 1087 0, true) else (0, true)) else
  if (bl N : Int) - Lib.ctz 64 N.toNat > 53 then (0, false) else (jn s 2048 4503599627370496 (1022 + bl N) (fr N), true)
theorem bl64 {N : Int} (h0 : 0 < N) (h1 : N < 18446744073709551616) : 1 ≤ bl N ∧ bl N ≤ 64 ∧ 9223372036854775808 ≤ N * 2 ^ (64 - bl N) ∧ N * 2 ^ (64 - bl N) < 18446744073709551616 := by
  obtain ⟨k, hk, h2⟩ := bl_ge h0
  have hb : bl N ≤ 64 := (bl_le (by omega)).2 (by rw [show (2 : Int) ^ 64 = 18446744073709551616 by decide]; exact h1)
  have h3 := lt_bl (n := N) (by omega)
  have pos : (0 : Int) < 2 ^ (64 - bl N) := Int.pow_pos (by decide)
  refine ⟨by omega, hb, ?_, ?_⟩
  · have e : (9223372036854775808 : Int) = 2 ^ k * 2 ^ (64 - bl N) := by rw [← Int.pow_add, show k + (64 - bl N) = 63 by omega]; decide
    rw [e]; exact Int.mul_le_mul_of_nonneg_right h2 (by omega)
  · have e : (18446744073709551616 : Int) = 2 ^ bl N * 2 ^ (64 - bl N) := by rw [← Int.pow_add, show bl N + (64 - bl N) = 64 by omega]; decide
    rw [e]; exact Int.mul_lt_mul_of_pos_right h3 pos
theorem fr_in (N : Int) : 0 ≤ fr N ∧ fr N < 4503599627370496 := by unfold fr; omega
theorem fr_low {N : Int} (h0 : 0 < N) (h1 : bl N ≤ 53) : fr N = N * 2 ^ (53 - bl N) - 4503599627370496 := by
  have hn := norm h0 (t := 53 - bl N) (by omega)
  have e : N * 2 ^ (64 - bl N) = N * 2 ^ (53 - bl N) * 2048 := by rw [show 64 - bl N = (53 - bl N) + 11 by omega, Int.pow_add, ← Int.mul_assoc]; rfl
  unfold fr
  rw [e]
  omega
theorem fi_core {N : Int} (s : Bool) (h0 : 0 ≤ N) (h1 : N < 18446744073709551616) : Ev (fun k => fbits_FromInt.j0 k s N s 1087 0) (fi s N) := by
  refine Ev.step (fun k => by simp only [fbits_FromInt.j0]; rfl) ?_
  by_cases c : N = 0
  · refine Ev.pos c (Ev.step (fun k => by simp only [fbits_FromInt.j1]; rfl) ?_)
    cases s
    · exact Ev.res (Ev.pos rfl (Ev.const rfl)) (by unfold fi; rw [if_pos c, if_neg (by simp)])
    · refine Ev.res (Ev.neg (by simp) (Ev.pos c (Ev.pre widths_f (Ev.pre (join_f fm64 true (by decide) (by decide) (by decide) (by decide)) (Ev.const rfl))))) (by unfold fi; rw [if_pos c, if_pos rfl])
  · obtain ⟨b1, b2, b3, b4⟩ := bl64 (N := N) (by omega) h1
    obtain ⟨m, hm, hc⟩ := ctz_spec (x := N) (by omega) h1
    obtain ⟨r0, r1⟩ := fr_in N
    refine Ev.neg c (Ev.step (fun k => by simp only [fbits_FromInt.j1]; rfl) (Ev.neg (by simp) (Ev.neg c (Ev.bind (len64_f N h0 h1) (Ev.pre (tz_f h0 h1) ?_)))))
    rw [wrap_id (x := (bl N : Int) - Lib.ctz 64 N.toNat) (by omega) (by omega)]
    by_cases d : (bl N : Int) - Lib.ctz 64 N.toNat > 53
    · exact Ev.res (Ev.pos d (Ev.const rfl)) (by unfold fi; rw [if_neg c, if_pos d])
    · rw [wrap_id (x := 64 - (bl N : Int)) (by omega) (by omega), wrap_id (x := 1023 + (bl N : Int)) (by omega) (by omega), wrap_id (x := 1023 + (bl N : Int) - 1) (by omega) (by omega), shl_n .u64 _ (64 - bl N) (by omega) (by show _ ≤ 64; omega), u64_id (n := N * 2 ^ (64 - bl N)) (by omega) b4, wrap_u64, show 1023 + (bl N : Int) - 1 = 1022 + bl N by omega]
      refine Ev.res (Ev.neg d (Ev.pos (by omega) (Ev.pre widths_f (Ev.pre (join_f fm64 s (by omega) (by omega) r0 r1) (Ev.const rfl))))) ?_
      unfold fi
      rw [if_neg c, if_neg d]; rfl
theorem fromint_f (s : Bool) {n : Int} (h0 : 0 ≤ n) (h1 : n < 18446744073709551616) : Ev (fun k => fbits_FromInt.f k s n) (fi s (if s = true then (n + 1) % 18446744073709551616 else n)) := by
  refine Ev.congr (fun k => by unfold fbits_FromInt.f; rfl) ?_
  cases s
  · exact Ev.neg (by simp) (fi_core false h0 h1)
  · refine Ev.pos rfl ?_
    rw [wrap_u64, if_pos rfl]
    exact fi_core true (by omega) (by omega)
def exa (b : Int) : Bool × Int × Int × Bool :=
  let s := b / (2048 * 4503599627370496) == 1
  let e := b / 4503599627370496 % 2048
  let m := b % 4503599627370496
  if e = 2047 then (false, 0, 0, false) else if e = 0 then (s, m, -1074, true) else (s, m + 4503599627370496, e - 1075, true)
theorem exact_f {b : Int} (b0 : 0 ≤ b) (b1 : b < 18446744073709551616) : Ev (fun k => fbits_Exact.f k b) (exa b) := by
  refine Ev.congr (fun k => by unfold fbits_Exact.f; rfl) (Ev.pre widths_f (Ev.pre (split_f fm64 b0 (by omega)) (Ev.bind (class_f fm64 _ _ _) ?_)))
  unfold exa
  simp only []
  have hp : 0 ≤ b / 4503599627370496 % 2048 ∧ b / 4503599627370496 % 2048 < 2048 ∧ 0 ≤ b % 4503599627370496 ∧ b % 4503599627370496 < 4503599627370496 := by omega
  obtain ⟨e0, e1, m0, m1⟩ := hp
  generalize (b / (2048 * 4503599627370496) == 1) = s at *
  generalize b / 4503599627370496 % 2048 = e at *
  generalize b % 4503599627370496 = m at *
  by_cases c : e = 2047
  · have hc : cls 2048 e m = 3 ∨ cls 2048 e m = 4 := by unfold cls; rw [if_pos (show e = 2048 - 1 by omega)]; split <;> simp
    rcases hc with hc | hc
    · rw [hc]; exact Ev.res (Ev.pos (show (3 : Int) = 3 from rfl) (Ev.const rfl)) (by rw [if_pos c])
    · rw [hc]; exact Ev.res (Ev.neg (by decide) (Ev.pos (show (4 : Int) = 4 from rfl) (Ev.const rfl))) (by rw [if_pos c])
  · by_cases d : e = 0
    · have hc : cls 2048 e m = 0 ∨ cls 2048 e m = 1 := by unfold cls; rw [if_neg (show ¬ e = 2048 - 1 by omega), if_pos d]; split <;> simp
      have hr : wrap64 (wrap64 (wrap64 (e - 1023) - 52) + 1) = -1074 := by rw [d]; decide +kernel
      rw [hr]
      rcases hc with hc | hc
      · rw [hc]; exact Ev.res (Ev.neg (by decide) (Ev.neg (by decide) (Ev.neg (by decide) (Ev.const rfl)))) (by rw [if_neg c, if_pos d])
      · rw [hc]; exact Ev.res (Ev.neg (by decide) (Ev.neg (by decide) (Ev.neg (by decide) (Ev.const rfl)))) (by rw [if_neg c, if_pos d])
    · have hc : cls 2048 e m = 2 := by unfold cls; rw [if_neg (show ¬ e = 2048 - 1 by omega), if_neg d]
      rw [hc, wrap_id (x := e - 1) (by omega) (by omega), wrap_id (x := e - 1 - 1023) (by omega) (by omega), wrap_id (x := e - 1 - 1023 - 52) (by omega) (by omega), wrap_id (x := e - 1 - 1023 - 52 + 1) (by omega) (by omega), or64' 52 (x := 4503599627370496) (by decide) (by decide) (by decide) m0 (by omega) (by omega), Int.add_comm 4503599627370496 m, show e - 1 - 1023 - 52 + 1 = e - 1075 by omega]
      exact Ev.res (Ev.neg (by decide) (Ev.neg (by decide) (Ev.pos (show (2 : Int) = 2 from rfl) (Ev.const rfl)))) (by rw [if_neg c, if_neg d])
theorem odd_pow {a : Nat} : ∀ {b : Nat} {m n : Int}, (2 : Int) ^ a * (2 * m + 1) = 2 ^ b * (2 * n + 1) → a = b ∧ m = n := by
  induction a with
  | zero =>
    intro b m n h
    cases b with
    | zero => simp at h; exact ⟨rfl, by omega⟩
    | succ b => rw [Int.pow_succ, Int.mul_comm (2 ^ b) 2, Int.mul_assoc] at h; simp at h; omega
  | succ a ih =>
    intro b m n h
    cases b with
    | zero => rw [Int.pow_succ, Int.mul_comm (2 ^ a) 2, Int.mul_assoc] at h; simp at h; omega
    | succ b =>
      rw [Int.pow_succ, Int.mul_comm (2 ^ a) 2, Int.mul_assoc, Int.pow_succ, Int.mul_comm (2 ^ b) 2, Int.mul_assoc] at h
      have := ih (b := b) (m := m) (n := n) (by omega)
      exact ⟨by omega, this.2⟩
theorem ctz_of {x m : Int} {z : Nat} (h0 : 0 < x) (h1 : x < 18446744073709551616) (h : x = 2 ^ z * (2 * m + 1)) : Lib.ctz 64 x.toNat = z := by
  obtain ⟨n, e, _⟩ := ctz_spec h0 h1
  exact (odd_pow (e.symm.trans h)).1
def itv (s : Bool) (m e : Int) : Bool × Int × Bool :=
  if e < 0 ∨ e > 64 - (bl m : Int) then (if s = true ∧ m = 1 ∧ e = 64 then (true, 18446744073709551615, true) else (false, 0, false)) else (s, if s = true then m * 2 ^ e.toNat - 1 else m * 2 ^ e.toNat, true)
theorem odd_fit {m : Int} {t : Nat} (h : 0 < m) (ht : bl m + t ≤ 64) : 0 < m * 2 ^ t ∧ m * 2 ^ t < 18446744073709551616 := by
  have h2 := lt_bl (n := m) (by omega)
  have pos : (0 : Int) < 2 ^ t := Int.pow_pos (by decide)
  refine ⟨Int.mul_pos h pos, ?_⟩
  have e1 := Int.mul_lt_mul_of_pos_right h2 pos
  rw [← Int.pow_add] at e1
  obtain ⟨d, hd⟩ := Nat.exists_eq_add_of_le ht
  have e2 : (18446744073709551616 : Int) = 2 ^ (bl m + t) * 2 ^ d := by rw [← Int.pow_add, ← hd]; decide
  have pd : (0 : Int) < 2 ^ d := Int.pow_pos (by decide)
  have pp : (0 : Int) < 2 ^ (bl m + t) := Int.pow_pos (by decide)
  have e3 : (2 : Int) ^ (bl m + t) * 1 ≤ 2 ^ (bl m + t) * 2 ^ d := Int.mul_le_mul_of_nonneg_left (by omega) (by omega)
  omega
theorem int_j1 (s : Bool) {m e : Int} (m0 : 0 < m) (m1 : m < 18446744073709551616) (x : Bool) (hx : x = decide (e < 0 ∨ e > 64 - (bl m : Int))) : Ev (fun k => fbits_Int.j1 k s m e x) (itv s m e) := by
  obtain ⟨b1, b2, _, _⟩ := bl64 m0 m1
  refine Ev.step (fun k => by simp only [fbits_Int.j1]; rfl) ?_
  by_cases c : e < 0 ∨ e > 64 - (bl m : Int)
  · rw [decide_eq_true c] at hx
    refine Ev.pos hx ?_
    have j2 : ∀ b : Bool, Ev (fun k => fbits_Int.j2 k b) (if b = true then (true, 18446744073709551615, true) else (false, 0, false)) := by
      intro b
      refine Ev.step (fun k => by simp only [fbits_Int.j2]; rfl) ?_
      cases b
      · exact Ev.neg (by simp) (Ev.const rfl)
      · exact Ev.pos rfl (Ev.const rfl)
    cases s
    · exact Ev.res (Ev.neg (by simp) (j2 false)) (by unfold itv; rw [if_pos c]; simp)
    · by_cases d : m = 1
      · refine Ev.res (Ev.pos rfl (Ev.pos d (j2 (e == 64)))) ?_
        unfold itv
        rw [if_pos c]
        by_cases f : e = 64
        · rw [if_pos (by simpa using f), if_pos ⟨rfl, d, f⟩]
        · rw [if_neg (by simpa using f), if_neg (fun h => f h.2.2)]
      · refine Ev.res (Ev.pos rfl (Ev.neg d (j2 false))) ?_
        unfold itv
        rw [if_pos c, if_neg (by simp), if_neg (fun h => d h.2.1)]
  · rw [decide_eq_false c] at hx
    have hf := odd_fit (t := e.toNat) m0 (by omega)
    rw [shl_n .u64 e e.toNat rfl (by show _ ≤ 64; omega), u64_id (n := m * 2 ^ e.toNat) (by omega) hf.2, u64_id (n := m * 2 ^ e.toNat - 1) (by omega) (by omega)]
    refine Ev.neg (by rw [hx]; simp) (Ev.pos (by omega) ?_)
    cases s
    · exact Ev.res (Ev.neg (by simp) (Ev.const rfl)) (by unfold itv; rw [if_neg c, if_neg (by simp)])
    · exact Ev.res (Ev.pos rfl (Ev.const rfl)) (by unfold itv; rw [if_neg c, if_pos rfl])
theorem int_core (s : Bool) {M E k' : Int} {z : Nat} (hM : M = 2 ^ z * (2 * k' + 1)) (hz : z < 64) (M0 : 0 < M) (M1 : M < 18446744073709551616) (E0 : -2000 ≤ E) (E1 : E ≤ 2000) : Ev (fun k => fbits_Int.j0 k s M E true false) (itv s (2 * k' + 1) (E + z)) := by
  have hc := ctz_of M0 M1 hM
  have pos : (0 : Int) < 2 ^ z := Int.pow_pos (by decide)
  have hd : M / 2 ^ z = 2 * k' + 1 := by rw [hM, Int.mul_ediv_cancel_left _ (by omega)]
  have k0 : 0 < 2 * k' + 1 := by
    rcases Int.lt_or_le 0 (2 * k' + 1) with o | o
    · exact o
    · have := Int.mul_nonpos_of_nonneg_of_nonpos (show (0 : Int) ≤ 2 ^ z by omega) o
      omega
  have k1 : 2 * k' + 1 < 18446744073709551616 := by
    have : (2 : Int) ^ z * (2 * k' + 1) ≥ 1 * (2 * k' + 1) := Int.mul_le_mul_of_nonneg_right (by omega) (by omega)
    omega
  refine Ev.step (fun k => by simp only [fbits_Int.j0]; rfl) (Ev.neg (by simp) (Ev.pre (tz_f (by omega) M1) ?_))
  rw [hc, shr_n .u64 (z : Int) z (by omega) (by show _ ≤ 64; omega), hd, wrap_id (x := E + z) (by omega) (by omega)]
  refine Ev.pos (by omega) ?_
  obtain ⟨b1, b2, _, _⟩ := bl64 k0 k1
  by_cases c : E + z < 0
  · exact Ev.pos c (int_j1 s k0 k1 true (decide_eq_true (.inl c)).symm)
  · refine Ev.neg c (Ev.bind (len64_f _ (by omega) k1) ?_)
    rw [wrap_id (x := 64 - (bl (2 * k' + 1) : Int)) (by omega) (by omega)]
    refine int_j1 s k0 k1 _ ?_
    by_cases d : E + z > 64 - (bl (2 * k' + 1) : Int)
    · rw [decide_eq_true d, decide_eq_true (.inr d)]
    · rw [decide_eq_false d, decide_eq_false (by omega)]
theorem fr_ctz {N k' : Int} {c : Nat} (h0 : 0 < N) (h1 : N < 18446744073709551616) (hN : N = 2 ^ c * (2 * k' + 1)) (hc : (bl N : Int) - c ≤ 53) : fr N + 4503599627370496 = 2 ^ (c + 53 - bl N) * (2 * k' + 1) := by
  obtain ⟨b1, b2, b3, b4⟩ := bl64 h0 h1
  have e : N * 2 ^ (64 - bl N) * 2 = 2 ^ (c + 53 - bl N) * (2 * k' + 1) * 4096 := by
    have e1 : (2 : Int) ^ c * 2 ^ (64 - bl N) * 2 = 2 ^ (c + 53 - bl N) * 4096 := by
      rw [show (4096 : Int) = 2 ^ 12 by decide, ← Int.pow_add, ← Int.pow_add, ← Int.pow_succ]
      congr 1
      omega
    calc N * 2 ^ (64 - bl N) * 2 = (2 ^ c * 2 ^ (64 - bl N) * 2) * (2 * k' + 1) := by rw [hN]; grind
      _ = 2 ^ (c + 53 - bl N) * 4096 * (2 * k' + 1) := by rw [e1]
      _ = 2 ^ (c + 53 - bl N) * (2 * k' + 1) * 4096 := by grind
  unfold fr
  generalize N * 2 ^ (64 - bl N) = Y at *
  generalize 2 ^ (c + 53 - bl N) * (2 * k' + 1) = M at *
  omega

theorem awake_f : Ev (fun k => glossatorlaw05_awake.f k) true := Ev.up glossatorlaw05_awake.mono (n := 20) (by decide +kernel)
theorem rexact_f {b : Int} (b0 : 0 ≤ b) (b1 : b < 18446744073709551616) : glossatorref05_Exact.f b = some (exa b) := by
  unfold glossatorref05_Exact.f
  rw [rparts_f fm64 b0 b1, if_pos (by omega), Option.bind_some]
  unfold exa
  simp only []
  have hp : 0 ≤ b / 4503599627370496 % 2048 ∧ b / 4503599627370496 % 2048 < 2048 ∧ 0 ≤ b % 4503599627370496 ∧ b % 4503599627370496 < 4503599627370496 := by omega
  obtain ⟨e0, e1, m0, m1⟩ := hp
  generalize (b / (2048 * 4503599627370496) == 1) = s at *
  generalize b / 4503599627370496 % 2048 = e at *
  generalize b % 4503599627370496 = m at *
  by_cases c : e = 2047
  · rw [if_pos c, if_pos c]
  · rw [if_neg c, if_neg c]
    by_cases d : e = 0
    · rw [if_pos d, if_pos d]
    · rw [if_neg d, if_neg d, or64' 52 (x := 4503599627370496) (by decide) (by decide) (by decide) m0 (by omega) (by omega), wrap_id (by omega) (by omega), Int.add_comm]
theorem rleast_f {b : Int} (b0 : 0 ≤ b) (b1 : b < 18446744073709551616) : Ev (fun k => glossatorref05_Least.f k b) (lst b) := by
  refine Ev.congr (fun k => by unfold glossatorref05_Least.f; rfl) (Ev.step (fun k => by simp only [glossatorref05_Least.l0]; rfl) (Ev.pos (by decide) (Ev.bind (rnarrow_f fm16 b0 b1) ?_)))
  unfold lst
  cases pn 16 32 1024 15 10 4398046511104 b with
  | some x => exact Ev.pos rfl (Ev.const rfl)
  | none =>
    refine Ev.neg (by simp [res]) (Ev.step (fun k => by simp only [show wrap64 (2 * 16) = 32 by decide +kernel, glossatorref05_Least.l0]; rfl) (Ev.pos (by decide) (Ev.bind (rnarrow_f fm32 b0 b1) ?_)))
    cases pn 32 256 8388608 127 23 536870912 b with
    | some x => exact Ev.pos rfl (Ev.const rfl)
    | none => exact Ev.neg (by simp [res]) (Ev.step (fun k => by simp only [show wrap64 (2 * 32) = 64 by decide +kernel, glossatorref05_Least.l0]; rfl) (Ev.neg (by decide) (Ev.const rfl)))
theorem rfi_l1 (s : Bool) : ∀ (t : Nat) (M x : Int), 0 < M → bl M + t = 53 → t ≤ x → x < 2048 → Ev (fun k => glossatorref05_FromInt.l1 k s M x) (jn s 2048 4503599627370496 (x - t) (M * 2 ^ t - 4503599627370496), true) := by
  intro t
  induction t with
  | zero =>
    intro M x hM hb h0 h1
    have hn := norm hM hb
    rw [Int.pow_zero, Int.mul_one] at hn ⊢
    refine Ev.step (fun k => by simp only [glossatorref05_FromInt.l1]; rfl) (Ev.neg (by omega) ?_)
    rw [mask64 52 (by decide) (m := 4503599627370495) (by decide) (by omega) (by omega), show M % 2 ^ 52 = M - 4503599627370496 by omega]
    rw [show x - ((0 : Nat) : Int) = x by omega]
    exact Ev.pre (rjoin_f s (by omega) h1 (by omega) (by omega)) (Ev.const rfl)
  | succ t ih =>
    intro M x hM hb h0 h1
    have hl : M < 2 ^ 52 := (bl_le (by omega)).1 (by omega)
    rw [show (2 : Int) ^ 52 = 4503599627370496 by decide] at hl
    refine Ev.step (fun k => by simp only [glossatorref05_FromInt.l1]; rfl) (Ev.pos (by omega) ?_)
    rw [wrap_id (x := x - 1) (by omega) (by omega), u64_id (n := M * 2) (by omega) (by omega)]
    have h2 := bl_mul hM 1
    rw [show M * 2 ^ 1 = M * 2 by rfl] at h2
    refine Ev.res (ih (M * 2) (x - 1) (by omega) (by omega) (by omega) (by omega)) ?_
    rw [Int.mul_assoc, show (2 : Int) * 2 ^ t = 2 ^ (t + 1) by rw [Int.pow_succ]; omega, show x - 1 - (t : Int) = x - ((t + 1 : Nat) : Int) by omega]
theorem rfi_l0 (s : Bool) : ∀ (t : Nat) (N x k' : Int) (c : Nat), 0 < N → N < 18446744073709551616 → N = 2 ^ c * (2 * k' + 1) → bl N = 53 + t → 0 ≤ x → x + t < 2048 → Ev (fun k => glossatorref05_FromInt.l0 k s N x) (if t ≤ c then (jn s 2048 4503599627370496 (x + t) (2 ^ (c - t) * (2 * k' + 1) - 4503599627370496), true) else (0, false)) := by
  intro t
  induction t with
  | zero =>
    intro N x k' c hN h64 hc hb x0 x1
    rw [if_pos (by omega), Nat.sub_zero, ← hc]
    have hn := norm hN (t := 0) (by omega)
    rw [Int.pow_zero, Int.mul_one] at hn
    refine Ev.step (fun k => by simp only [glossatorref05_FromInt.l0]; rfl) (Ev.pos (by omega) ?_)
    refine Ev.res (rfi_l1 s 0 N x hN (by omega) (by omega) (by omega)) ?_
    rw [Int.pow_zero, Int.mul_one, show x - ((0 : Nat) : Int) = x + ((0 : Nat) : Int) by omega]
  | succ t ih =>
    intro N x k' c hN h64 hc hb x0 x1
    have hl : ¬ bl N ≤ 53 := by omega
    have hg : ¬ N < 2 ^ 53 := fun h => hl ((bl_le (by omega)).2 h)
    rw [show (2 : Int) ^ 53 = 9007199254740992 by decide] at hg
    refine Ev.step (fun k => by simp only [glossatorref05_FromInt.l0]; rfl) (Ev.neg (by omega) ?_)
    rw [mask64 1 (by decide) (m := 1) (by decide) (by omega) h64]
    cases c with
    | zero =>
      rw [Int.pow_zero, Int.one_mul] at hc
      refine Ev.pos (by omega) (Ev.const ?_)
      rw [if_neg (by omega)]
    | succ c =>
      have h2 : N / 2 = 2 ^ c * (2 * k' + 1) := by
        rw [hc, Int.pow_succ, Int.mul_comm (2 ^ c) 2, Int.mul_assoc]; omega
      have h3 : N % 2 = 0 := by
        rw [hc, Int.pow_succ, Int.mul_comm (2 ^ c) 2, Int.mul_assoc]; omega
      have hb2 := bl_pos hN
      refine Ev.neg (by omega) ?_
      rw [wrap_id (x := x + 1) (by omega) (by omega)]
      refine Ev.res (ih (N / 2) (x + 1) k' c (by omega) (by omega) h2 (by omega) (by omega) (by omega)) ?_
      by_cases q : t ≤ c
      · rw [if_pos q, if_pos (by omega), show c + 1 - (t + 1) = c - t by omega, show x + 1 + (t : Int) = x + ((t + 1 : Nat) : Int) by omega]
      · rw [if_neg q, if_neg (by omega)]
theorem rfi_j1 (s : Bool) {N : Int} (h0 : 0 ≤ N) (h1 : N < 18446744073709551616) (hs : N = 0 → s = false) : Ev (fun k => glossatorref05_FromInt.j1 k s N) (fi s N) := by
  refine Ev.step (fun k => by simp only [glossatorref05_FromInt.j1]; rfl) ?_
  by_cases hz : N = 0
  · refine Ev.res (Ev.pos hz (Ev.const rfl)) ?_
    unfold fi
    rw [if_pos hz, hs hz, if_neg (by simp)]
  · have hp : 0 < N := by omega
    obtain ⟨k', hk, hc⟩ := ctz_spec hp h1
    obtain ⟨b1, b2, b3, b4⟩ := bl64 hp h1
    refine Ev.neg hz ?_
    by_cases q : bl N ≤ 53
    · have hN := norm hp (t := 53 - bl N) (by omega)
      have hl : N < 9007199254740992 := by have := (bl_le (k := 53) h0).1 q; rwa [show (2 : Int) ^ 53 = 9007199254740992 by decide] at this
      refine Ev.res (Ev.step (fun k => by simp only [glossatorref05_FromInt.l0]; rfl) (Ev.pos (by omega) (rfi_l1 s (53 - bl N) N 1075 hp (by omega) (by omega) (by decide)))) ?_
      unfold fi
      rw [if_neg hz, if_neg (by omega), fr_low hp q, show (1075 : Int) - ((53 - bl N : Nat) : Int) = 1022 + bl N by omega]
    · refine Ev.res (rfi_l0 s (bl N - 53) N 1075 k' _ hp h1 hk (by omega) (by decide) (by omega)) ?_
      unfold fi
      rw [if_neg hz]
      by_cases d : (bl N : Int) - Lib.ctz 64 N.toNat > 53
      · rw [if_pos d, if_neg (by omega)]
      · rw [if_neg d, if_pos (by omega), show (1075 : Int) + ((bl N - 53 : Nat) : Int) = 1022 + bl N by omega]
        have hM := fr_ctz hp h1 hk (by omega)
        rw [show Lib.ctz 64 N.toNat - (bl N - 53) = Lib.ctz 64 N.toNat + 53 - bl N by omega, ← hM, Int.add_sub_cancel]
theorem rfi_f (s : Bool) {n : Int} (h0 : 0 ≤ n) (h1 : n < 18446744073709551616) : Ev (fun k => glossatorref05_FromInt.f k s n) (fi s (if s = true then (n + 1) % 18446744073709551616 else n)) := by
  refine Ev.congr (fun k => by unfold glossatorref05_FromInt.f; rfl) ?_
  cases s
  · refine Ev.neg (by simp) (Ev.step (fun k => by simp only [glossatorref05_FromInt.j0]; rfl) (Ev.neg (by simp) (Ev.neg (by simp) ?_)))
    exact rfi_j1 false h0 h1 (fun _ => rfl)
  · refine Ev.pos rfl (Ev.step (fun k => by simp only [glossatorref05_FromInt.j0]; rfl) ?_)
    rw [if_pos rfl]
    by_cases c : n = 18446744073709551615
    · refine Ev.res (Ev.pos (by simpa using c) (Ev.pre (rjoin_f true (e := 1087) (m := 0) (by decide) (by decide) (by decide) (by decide)) (Ev.const rfl))) ?_
      subst c
      unfold fi
      rw [if_pos (by decide), if_pos rfl]
    · refine Ev.neg (by simpa using c) (Ev.pos (by trivial) ?_)
      rw [wrap_u64]
      exact rfi_j1 true (by omega) (by omega) (by omega)
theorem exa_cases (b : Int) : exa b = (false, 0, 0, false) ∨ ∃ s M E, exa b = (s, M, E, true) ∧ (M = 0 ∨ 0 < M ∧ M < 9007199254740992 ∧ -1074 ≤ E ∧ E ≤ 971 ∧ (0 ≤ E → bl M = 53)) := by
  unfold exa
  simp only []
  have hp : 0 ≤ b / 4503599627370496 % 2048 ∧ b / 4503599627370496 % 2048 < 2048 ∧ 0 ≤ b % 4503599627370496 ∧ b % 4503599627370496 < 4503599627370496 := by omega
  obtain ⟨e0, e1, m0, m1⟩ := hp
  generalize b / 4503599627370496 % 2048 = e at *
  generalize b % 4503599627370496 = m at *
  by_cases c : e = 2047
  · rw [if_pos c]; exact .inl rfl
  · rw [if_neg c]
    by_cases d : e = 0
    · rw [if_pos d]
      refine .inr ⟨_, _, _, rfl, ?_⟩
      by_cases f : m = 0
      · exact .inl f
      · exact .inr ⟨by omega, by omega, by decide, by decide, fun h => absurd h (by decide)⟩
    · rw [if_neg d]
      refine .inr ⟨_, _, _, rfl, .inr ⟨by omega, by omega, by omega, by omega, fun _ => ?_⟩⟩
      exact bl_of (k := 52) (by rw [show (2 : Int) ^ 52 = 4503599627370496 by decide]; omega) (by rw [show (2 : Int) ^ (52 + 1) = 9007199254740992 by decide]; omega)
theorem rj2 (s : Bool) {n : Int} (n0 : 0 < n) (n1 : n < 18446744073709551616) : Ev (fun k => glossatorref05_Int.j2 k s true n) (s, if s = true then n - 1 else n, true) := by
  refine Ev.step (fun k => by simp only [glossatorref05_Int.j2]; rfl) (Ev.pos (by trivial) (Ev.step (fun k => by simp only [glossatorref05_Int.j3]; rfl) (Ev.neg (by simp; omega) ?_)))
  rw [u64_id (n := n - 1) (by omega) (by omega)]
  cases s
  · exact Ev.res (Ev.neg (by simp) (Ev.const rfl)) (by rw [if_neg (by simp)])
  · exact Ev.res (Ev.pos (by trivial) (Ev.const rfl)) (by rw [if_pos rfl])
theorem rj2n (s : Bool) (n : Int) : Ev (fun k => glossatorref05_Int.j2 k s false n) (false, 0, false) := by
  exact Ev.step (fun k => by simp only [glossatorref05_Int.j2]; rfl) (Ev.neg (by simp) (Ev.step (fun k => by simp only [glossatorref05_Int.j3]; rfl) (Ev.pos (by trivial) (Ev.const rfl))))
theorem rint_j1 (s : Bool) {M E k' : Int} {z : Nat} (hM : M = 2 ^ z * (2 * k' + 1)) (hk : 0 < 2 * k' + 1) (M0 : 0 < M) (M1 : M < 9007199254740992) (E0 : -1074 ≤ E) (E1 : E ≤ 971) (hE : 0 ≤ E → bl M = 53) (x : Bool) (hx : x = decide (s = true ∧ E = 12 ∧ M = 4503599627370496)) : Ev (fun k => glossatorref05_Int.j1 k s M E true x) (itv s (2 * k' + 1) (E + z)) := by
  have hb : bl M = bl (2 * k' + 1) + z := by rw [hM, Int.mul_comm]; exact bl_mul hk z
  have hbm : bl M ≤ 53 := (bl_le (by omega)).2 (by rw [show (2 : Int) ^ 53 = 9007199254740992 by decide]; exact M1)
  have hb1 : 1 ≤ bl (2 * k' + 1) := by obtain ⟨k, h, _⟩ := bl_ge hk; omega
  have pz : (0 : Int) < 2 ^ z := Int.pow_pos (by decide)
  refine Ev.step (fun k => by simp only [glossatorref05_Int.j1]; rfl) ?_
  by_cases c : s = true ∧ E = 12 ∧ M = 4503599627370496
  · rw [decide_eq_true c] at hx
    refine Ev.res (Ev.pos hx (Ev.const rfl)) ?_
    obtain ⟨c1, c2, c3⟩ := c
    have h := odd_pow (a := z) (b := 52) (m := k') (n := 0) (by rw [← hM, c3]; decide)
    obtain ⟨h1, h2⟩ := h
    subst h1 h2 c1 c2
    decide +kernel
  · rw [decide_eq_false c] at hx
    refine Ev.neg (by rw [hx]; simp) ?_
    by_cases d : E > 11
    · refine Ev.res (Ev.pos d (Ev.const rfl)) ?_
      have := hE (by omega)
      unfold itv
      rw [if_pos (.inr (by omega)), if_neg]
      rintro ⟨r1, r2, r3⟩
      apply c
      rw [r2, show bl 1 = 1 by decide +kernel] at hb
      have hz : z = 52 := by omega
      refine ⟨r1, by omega, ?_⟩
      rw [hM, r2, hz]; decide
    · refine Ev.neg d ?_
      by_cases f : E ≥ 0
      · have h53 := hE f
        have hf := odd_fit (m := M) (t := E.toNat) M0 (by omega)
        refine Ev.pos f (Ev.pos f ?_)
        rw [shl_n .u64 E E.toNat rfl (by show _ ≤ 64; omega), u64_id (n := M * 2 ^ E.toNat) (by omega) hf.2]
        refine Ev.res (rj2 s hf.1 hf.2) ?_
        have e1 : (2 * k' + 1) * 2 ^ (E + z).toNat = M * 2 ^ E.toNat := by
          rw [hM, show (E + z).toNat = E.toNat + z by omega, Int.pow_add]; grind
        unfold itv
        rw [if_neg (show ¬ (E + (z : Int) < 0 ∨ E + (z : Int) > 64 - (bl (2 * k' + 1) : Int)) by omega), e1]
      · refine Ev.neg f ?_
        rw [wrap_id (x := -E) (by omega) (by omega)]
        have ht : mn (-E) 64 = ((min (-E).toNat 64 : Nat) : Int) := by unfold mn; split <;> omega
        rw [ht]
        refine Ev.bind (shift_f (min (-E).toNat 64) rfl (by omega) (by omega) (by omega)) ?_
        by_cases g : 0 ≤ E + z
        · have hz2 : min (-E).toNat 64 = (-E).toNat := by omega
          rw [hz2]
          have e1 : M = 2 ^ (-E).toNat * ((2 * k' + 1) * 2 ^ (E + z).toNat) := by
            rw [hM, show z = (-E).toNat + (E + z).toNat by omega, Int.pow_add, show (E + (((-E).toNat + (E + z).toNat : Nat) : Int)).toNat = (E + z).toNat by omega]; grind
          have pe : (0 : Int) < 2 ^ (-E).toNat := Int.pow_pos (by decide)
          have e2 : M % 2 ^ (-E).toNat = 0 := by rw [e1]; exact Int.mul_emod_right _ _
          have e3 : M / 2 ^ (-E).toNat = (2 * k' + 1) * 2 ^ (E + z).toNat := by
            conv => lhs; rw [e1]
            exact Int.mul_ediv_cancel_left _ (by omega)
          have hf := odd_fit (m := 2 * k' + 1) (t := (E + z).toNat) hk (by omega)
          rw [if_pos e2, e3]
          refine Ev.res (rj2 s hf.1 hf.2) ?_
          unfold itv
          rw [if_neg (show ¬ (E + (z : Int) < 0 ∨ E + (z : Int) > 64 - (bl (2 * k' + 1) : Int)) by omega)]
        · have e2 : ¬ M % 2 ^ min (-E).toNat 64 = 0 := by
            intro h
            have h2 := Int.mul_ediv_add_emod M (2 ^ min (-E).toNat 64)
            rw [h, Int.add_zero] at h2
            have pt : (0 : Int) < 2 ^ min (-E).toNat 64 := Int.pow_pos (by decide)
            have hq : 0 < M / 2 ^ min (-E).toNat 64 := by
              rcases Int.lt_or_le 0 (M / 2 ^ min (-E).toNat 64) with o | o
              · exact o
              · have := Int.mul_nonpos_of_nonneg_of_nonpos (show (0 : Int) ≤ 2 ^ min (-E).toNat 64 by omega) o
                omega
            have hlt : M / 2 ^ min (-E).toNat 64 < 18446744073709551616 := by
              have : (1 : Int) * (M / 2 ^ min (-E).toNat 64) ≤ 2 ^ min (-E).toNat 64 * (M / 2 ^ min (-E).toNat 64) := Int.mul_le_mul_of_nonneg_right (by omega) (by omega)
              omega
            obtain ⟨n, e4, _⟩ := ctz_spec hq hlt
            rw [e4, ← Int.mul_assoc, ← Int.pow_add] at h2
            have := (odd_pow (h2.trans hM)).1
            have hz : z ≤ 52 := by omega
            omega
          rw [if_neg e2]
          refine Ev.res (rj2n s 0) ?_
          unfold itv
          rw [if_pos (.inl (by omega)), if_neg (fun h => by omega)]
def pit (b : Int) : Bool × Int × Bool :=
  if (exa b).2.2.2 = false then (false, 0, false) else if (exa b).2.1 = 0 then (false, 0, !(exa b).1) else itv (exa b).1 ((exa b).2.1 / 2 ^ Lib.ctz 64 (exa b).2.1.toNat) ((exa b).2.2.1 + Lib.ctz 64 (exa b).2.1.toNat)
theorem odd_ok {M k' : Int} {z : Nat} (hM : M = 2 ^ z * (2 * k' + 1)) (M0 : 0 < M) : 0 < 2 * k' + 1 := by
  rcases Int.lt_or_le 0 (2 * k' + 1) with o | o
  · exact o
  · have := Int.mul_nonpos_of_nonneg_of_nonpos (show (0 : Int) ≤ 2 ^ z from Int.le_of_lt (Int.pow_pos (by decide))) o
    omega
theorem pint_f {b : Int} (b0 : 0 ≤ b) (b1 : b < 18446744073709551616) : Ev (fun k => fbits_Int.f k b) (pit b) := by
  refine Ev.congr (fun k => by unfold fbits_Int.f; rfl) (Ev.bind (exact_f b0 b1) ?_)
  unfold pit
  rcases exa_cases b with h | ⟨s, M, E, h, hM⟩
  · rw [h]
    exact Ev.neg (by simp) (Ev.step (fun k => by simp only [fbits_Int.j0]; rfl) (Ev.pos (by trivial) (Ev.neg (by simp) (Ev.const rfl))))
  · rw [h]
    refine Ev.pos (by trivial) ?_
    rcases hM with hM | ⟨M0, M1, E0, E1, _⟩
    · subst hM
      exact Ev.step (fun k => by simp only [fbits_Int.j0]; rfl) (Ev.pos (by decide) (Ev.pos (by trivial) (Ev.const rfl)))
    · obtain ⟨k', hk, hz⟩ := ctz_spec M0 (by omega)
      have hz0 : (M == 0) = false := by simp; omega
      simp only [hz0]
      refine Ev.res (int_core s hk hz M0 (by omega) (by omega) (by omega)) ?_
      rw [if_neg (by simp), if_neg (by omega)]
      congr 1
      conv => rhs; lhs; rw [hk]
      rw [Int.mul_ediv_cancel_left _ (Int.ne_of_gt (Int.pow_pos (by decide)))]
theorem rint_f {b : Int} (b0 : 0 ≤ b) (b1 : b < 18446744073709551616) : Ev (fun k => glossatorref05_Int.f k b) (pit b) := by
  refine Ev.congr (fun k => by unfold glossatorref05_Int.f; rfl) (Ev.pre (rexact_f b0 b1) ?_)
  unfold pit
  rcases exa_cases b with h | ⟨s, M, E, h, hM⟩
  · rw [h]
    exact Ev.neg (by simp) (Ev.step (fun k => by simp only [glossatorref05_Int.j0]; rfl) (Ev.pos (by trivial) (Ev.const rfl)))
  · rw [h]
    refine Ev.pos (by trivial) ?_
    rcases hM with hM | ⟨M0, M1, E0, E1, hE⟩
    · subst hM
      refine Ev.pos (by trivial) (Ev.step (fun k => by simp only [glossatorref05_Int.j0]; rfl) ?_)
      cases s
      · exact Ev.neg (by simp) (Ev.pos (by trivial) (Ev.const rfl))
      · exact Ev.pos (by trivial) (Ev.const rfl)
    · obtain ⟨k', hk, hz⟩ := ctz_spec M0 (by omega)
      have e : (if (s, M, E, true).2.2.2 = false then (false, 0, false) else if (s, M, E, true).2.1 = 0 then (false, 0, !(s, M, E, true).1) else itv (s, M, E, true).1 ((s, M, E, true).2.1 / 2 ^ Lib.ctz 64 (s, M, E, true).2.1.toNat) ((s, M, E, true).2.2.1 + Lib.ctz 64 (s, M, E, true).2.1.toNat) : Bool × Int × Bool) = itv s (2 * k' + 1) (E + Lib.ctz 64 M.toNat) := by
        rw [if_neg (by simp), if_neg (by show ¬ M = 0; omega)]
        congr 1
        show M / 2 ^ Lib.ctz 64 M.toNat = _
        conv => lhs; lhs; rw [hk]
        rw [Int.mul_ediv_cancel_left _ (Int.ne_of_gt (Int.pow_pos (by decide)))]
      rw [e]
      have go := fun x hx => rint_j1 s hk (odd_ok hk M0) M0 M1 E0 E1 hE x hx
      refine Ev.neg (show ¬ M = 0 by omega) (Ev.step (fun k => by simp only [glossatorref05_Int.j0]; rfl) (Ev.neg (by simp) (Ev.neg (show ¬ M = 0 by omega) ?_)))
      cases s
      · exact Ev.neg (by simp) (go false (by simp))
      · by_cases c : E = 12
        · refine Ev.pos (by trivial) (Ev.pos c (go _ ?_))
          rw [Bool.eq_iff_iff]; simp [c]
        · exact Ev.pos (by trivial) (Ev.neg c (go false (by simp [c])))
theorem FbitsInts : glossatorlaw05_FbitsInts.Pure := by
  intro b s n hb hn
  have ⟨b0, b1⟩ := wf_u64 hb
  have ⟨n0, n1⟩ := wf_u64 hn
  refine Ev.rounds (Ev.congr (fun k => by unfold glossatorlaw05_FbitsInts.f; rfl) ?_)
  refine Ev.bind (exact_f b0 b1) (Ev.pre (rexact_f b0 b1) (Ev.bind (pint_f b0 b1) (Ev.bind (rint_f b0 b1) (Ev.bind (fromint_f s n0 n1) (Ev.bind (rfi_f s n0 n1) (Ev.bind (least_f b0 b1) (Ev.bind (rleast_f b0 b1) ?_)))))))
  exact Ev.pos (by simp) (Ev.pos rfl (Ev.pos rfl (Ev.pos (by simp) (Ev.pos (by simp) (Ev.pos rfl (Ev.pos (by simp) (Ev.pos rfl (Ev.pos (by simp) (Ev.pos rfl (Ev.pos rfl (Ev.bind awake_f (Ev.const rfl))))))))))))

end Go.Proofs.YtjefhpbliihonaaDoor.Pure
