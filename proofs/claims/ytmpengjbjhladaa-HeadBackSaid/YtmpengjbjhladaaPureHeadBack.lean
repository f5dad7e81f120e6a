/- Proved: the pure statement of HeadBack: a head that is written is read as what was written, and one that is read is written so, for every major, number, size and slice of bytes. -/
import Derived.Test.YtmpengjbjhladaaPHeadBackx3
namespace Go.Proofs.Ytmpengjbjhladaa.Pure
open Go.RowKit Go.Proofs.Ytmpengjbjhladaa.PHeadBack Go.Proofs.YtmpengjbjhladaaW.PrintWords Go.Proofs.YtmpengjbjhladaaW.PrintLast Go.Proofs.YtmpengjbjhladaaW.PrintMore

theorem wf_i64 {n : Int} (h : (Lit.int .i64 n).wf = true) : -9223372036854775808 ≤ n ∧ n ≤ 9223372036854775807 := by
  simp [Lit.wf, IntKind.min, IntKind.max, IntKind.signed, IntKind.bits] at h; omega
theorem wf_u64 {n : Int} (h : (Lit.int .u64 n).wf = true) : 0 ≤ n ∧ n ≤ 18446744073709551615 := by
  simp [Lit.wf, IntKind.min, IntKind.max, IntKind.signed, IntKind.bits] at h; omega

theorem wf_u8 {n : Int} (h : (Lit.int .u8 n).wf = true) : 0 ≤ n ∧ n ≤ 255 := by
  simp [Lit.wf, IntKind.min, IntKind.max, IntKind.signed, IntKind.bits] at h; omega
theorem wrap_u64 (n : Int) : IntKind.u64.wrap n = n % 18446744073709551616 := by simp [IntKind.wrap, IntKind.bits, IntKind.signed]
theorem wraps_u64 (n : Int) (h0 : 0 ≤ n) (h1 : n < 2 ^ 64) : IntKind.u64.wrap n = n := by rw [wrap_u64]; omega
theorem or64 (a c : Int) (a0 : 0 ≤ a) (a1 : a < 72057594037927936) (c0 : 0 ≤ c) (c1 : c < 256) : Go.bits .or .u64 (IntKind.u64.wrap (a * 256)) (IntKind.u64.wrap c) = a * 256 + c := by
  rw [wraps_u64 (a * 256) (by omega) (by omega), wraps_u64 c (by omega) (by omega)]
  exact bits_join .u64 64 (by decide) wraps_u64 8 _ _ (by omega) (by omega) (by omega) c0 (by omega) (by omega)
theorem rd_of (l : List Int) (i : Int) (P : Int → Prop) (h : ∀ x ∈ l, P x) (i0 : 0 ≤ i) (i1 : i < l.length) : P (rd l i) := by
  unfold rd
  have hi : i.toNat < l.length := by omega
  rw [List.getD_eq_getElem?_getD, List.getElem?_eq_getElem hi]
  exact h _ (List.getElem_mem hi)
theorem rd_nat (l : List Int) (j : Nat) (h : j < l.length) : rd l (j : Int) = l[j] := by
  unfold rd
  rw [Int.toNat_natCast, List.getD_eq_getElem?_getD, List.getElem?_eq_getElem h]
  rfl
theorem pow256 (j : Nat) (h : j ≤ 7) : (256 : Int) ^ j ≤ 72057594037927936 := by
  have hj : j = 0 ∨ j = 1 ∨ j = 2 ∨ j = 3 ∨ j = 4 ∨ j = 5 ∨ j = 6 ∨ j = 7 := by omega
  rcases hj with rfl | rfl | rfl | rfl | rfl | rfl | rfl | rfl <;> decide

/-- The bytes of a number, j of them, the highest first. -/
def tl (x : Int) : Nat → List Int
  | 0 => []
  | j + 1 => (shr .u64 x (8 * (j : Int))) % 256 :: tl x j

theorem write_l0 (x : Int) : ∀ (j k : Nat) (acc : List Int), j ≤ 8 → acc.length ≤ 100 - j → j < k → head_write.l0 k x acc ((j : Int) - 1) = some (acc ++ tl x j) := by
  intro j
  induction j with
  | zero =>
    intro k acc _ _ hk
    obtain ⟨k, rfl⟩ : ∃ m, k = m + 1 := ⟨k - 1, by omega⟩
    simp only [head_write.l0]
    rw [if_neg (by omega)]
    simp [tl]
  | succ j ih =>
    intro k acc hj ha hk
    obtain ⟨k, rfl⟩ : ∃ m, k = m + 1 := ⟨k - 1, by omega⟩
    have e1 : ((j + 1 : Nat) : Int) - 1 = (j : Int) := by omega
    have e2 : wrap64 (8 * (j : Int)) = 8 * (j : Int) := by unfold wrap64; omega
    have e3 : wrap64 ((j : Int) - 1) = (j : Int) - 1 := by unfold wrap64; omega
    simp only [head_write.l0]
    rw [e1, e2, e3, if_pos (by omega), if_pos (by omega), if_pos (by omega), ih k _ (by omega) (by simp; omega) (by omega)]
    simp [tl]

/-- A head: of a first byte and s bytes more; s = 0: within it. -/
def hd (m x s : Int) : List Int := if s = 0 then [(m * 32 + x) % 256] else (m * 32 + (if s = 1 then 24 else if s = 2 then 25 else if s = 4 then 26 else 27)) :: tl x s.toNat

theorem or_first (m s : Int) (h0 : 0 ≤ m) (h1 : m ≤ 7) (s0 : 0 ≤ s) (s1 : s ≤ 3) : (wrap64 ((Go.bits .or .i64 (wrap64 (m * 32)) 24) + s)) % 256 = m * 32 + 24 + s ∧ (Go.bits .or .i64 (wrap64 (m * 32)) (24 + s)) % 256 = m * 32 + 24 + s := by
  have hm : m = 0 ∨ m = 1 ∨ m = 2 ∨ m = 3 ∨ m = 4 ∨ m = 5 ∨ m = 6 ∨ m = 7 := by omega
  have hs : s = 0 ∨ s = 1 ∨ s = 2 ∨ s = 3 := by omega
  rcases hm with rfl | rfl | rfl | rfl | rfl | rfl | rfl | rfl <;> rcases hs with rfl | rfl | rfl | rfl <;> decide +kernel

theorem or_small (m x : Int) (h0 : 0 ≤ m) (h1 : m ≤ 7) (s0 : 0 ≤ x) (s1 : x ≤ 23) : Go.bits .or .u8 ((wrap64 (m * 32)) % 256) (x % 256) = m * 32 + x := by
  have hm : m = 0 ∨ m = 1 ∨ m = 2 ∨ m = 3 ∨ m = 4 ∨ m = 5 ∨ m = 6 ∨ m = 7 := by omega
  have e1 : wrap64 (m * 32) % 256 = m * 32 := by unfold wrap64; omega
  have e2 : x % 256 = x := by omega
  rw [e1, e2]
  refine bits_join .u8 8 (by decide) wraps_u8 5 _ _ (by omega) (by omega) (by omega) s0 (by omega) (by omega)

theorem write_f (k : Nat) (m x s : Int) (hk : 10 < k) (h0 : 0 ≤ m) (h1 : m ≤ 7) (s0 : 0 ≤ s) (s1 : s ≤ 3) : head_write.f k m x s = some (hd m x (2 ^ s.toNat)) := by
  have hs : s = 0 ∨ s = 1 ∨ s = 2 ∨ s = 3 := by omega
  have e := (or_first m s h0 h1 s0 s1).1
  unfold head_write.f
  rw [if_neg (by omega), if_pos s0, e]
  rcases hs with rfl | rfl | rfl | rfl
  · rw [show wrap64 ((shl .i64 1 0) - 1) = ((1 : Nat) : Int) - 1 by decide +kernel, write_l0 x 1 k _ (by omega) (by simp) (by omega)]; simp [hd, tl]
  · rw [show wrap64 ((shl .i64 1 1) - 1) = ((2 : Nat) : Int) - 1 by decide +kernel, write_l0 x 2 k _ (by omega) (by simp) (by omega)]; simp [hd, tl]; omega
  · rw [show wrap64 ((shl .i64 1 2) - 1) = ((4 : Nat) : Int) - 1 by decide +kernel, write_l0 x 4 k _ (by omega) (by simp) (by omega)]; simp [hd, tl]; omega
  · rw [show wrap64 ((shl .i64 1 3) - 1) = ((8 : Nat) : Int) - 1 by decide +kernel, write_l0 x 8 k _ (by omega) (by simp) (by omega)]; simp [hd, tl]; omega

theorem write_in (k : Nat) (m x : Int) (h0 : 0 ≤ m) (h1 : m ≤ 7) (x0 : 0 ≤ x) (x1 : x ≤ 23) : head_write.f k m x 4 = some (hd m x 0) := by
  unfold head_write.f
  rw [if_pos rfl, or_small m x h0 h1 x0 x1]
  have : (m * 32 + x) % 256 = m * 32 + x := by omega
  simp [hd, this]

/-- May a head be written, with so many bytes behind the first (-1: the fewest)? -/
def mayH (m x : Int) : Prop := 0 ≤ m ∧ m ≤ 7 ∧ (m = 7 → x < 24 ∨ (32 ≤ x ∧ x ≤ 255))
def need (x : Int) : Int := if x < 24 then 0 else if x < 256 then 1 else if x < 65536 then 2 else if x < 4294967296 then 4 else 8
instance (m x : Int) : Decidable (mayH m x) := by unfold mayH; infer_instance
def mayW (m x s : Int) : Prop := mayH m x ∧ (s = 0 ∨ s = 1 ∨ s = 2 ∨ s = 4 ∨ s = 8) ∧ need x ≤ s ∧ (m = 7 → s = need x)
instance (m x s : Int) : Decidable (mayW m x s) := by unfold mayW; infer_instance

theorem dec_t {p : Prop} [Decidable p] (h : p) : some true = some (decide p) := by rw [decide_eq_true h]
theorem dec_f {p : Prop} [Decidable p] (h : ¬ p) : some false = some (decide p) := by rw [decide_eq_false h]
theorem may_f (m x : Int) (x0 : 0 ≤ x) : head_may.f m x = some (decide (mayH m x)) := by
  unfold head_may.f mayH
  by_cases h1 : m < 0
  · rw [if_pos h1]; exact dec_f (by omega)
  · rw [if_neg h1]
    by_cases h2 : m > 7
    · rw [if_pos h2]; exact dec_f (by omega)
    · rw [if_neg h2]
      by_cases h3 : m = 7
      · rw [if_pos h3]
        by_cases h4 : x < 24
        · rw [if_pos h4]; exact dec_t (by omega)
        · rw [if_neg h4]
          by_cases h5 : x > 31
          · rw [if_pos h5]
            by_cases h6 : x / 256 = 0
            · rw [beq_iff_eq.mpr h6]; exact dec_t (by omega)
            · rw [beq_eq_false_iff_ne.mpr h6]; exact dec_f (by omega)
          · rw [if_neg h5]; exact dec_f (by omega)
      · rw [if_neg h3]; exact dec_t (by omega)

/-- The program's word for a size. -/
def lv (x : Int) : Int := if x < 24 then 4 else if x < 256 then 0 else if x < 65536 then 1 else if x < 4294967296 then 2 else 3
theorem size_f (x : Int) (x0 : 0 ≤ x) : head_size.f x = some (lv x) := by
  unfold head_size.f lv
  have e1 : x / 256 = 0 ↔ x < 256 := by omega
  have e2 : x / 65536 = 0 ↔ x < 65536 := by omega
  have e3 : x / 4294967296 = 0 ↔ x < 4294967296 := by omega
  simp only [e1, e2, e3]
  repeat' split
  all_goals rfl

theorem put_f (k : Nat) (m x : Int) (hk : 10 < k) (x0 : 0 ≤ x) : head_Put.f k m x = some (if mayH m x then (hd m x (need x), 0) else ([], 1)) := by
  unfold head_Put.f
  rw [may_f m x x0]
  simp only [Option.bind_some]
  by_cases h : mayH m x
  · rw [if_pos h, if_pos (by simpa using h), size_f x x0]
    simp only [Option.bind_some]
    obtain ⟨h0, h1, _⟩ := h
    by_cases a1 : x < 24
    · simp only [lv, need, if_pos a1]; rw [write_in k m x h0 h1 x0 (by omega)]; rfl
    · by_cases a2 : x < 256
      · simp only [lv, need, if_neg a1, if_pos a2]; rw [write_f k m x 0 hk h0 h1 (by omega) (by omega)]; rfl
      · by_cases a3 : x < 65536
        · simp only [lv, need, if_neg a1, if_neg a2, if_pos a3]; rw [write_f k m x 1 hk h0 h1 (by omega) (by omega)]; rfl
        · by_cases a4 : x < 4294967296
          · simp only [lv, need, if_neg a1, if_neg a2, if_neg a3, if_pos a4]; rw [write_f k m x 2 hk h0 h1 (by omega) (by omega)]; rfl
          · simp only [lv, need, if_neg a1, if_neg a2, if_neg a3, if_neg a4]; rw [write_f k m x 3 hk h0 h1 (by omega) (by omega)]; rfl
  · rw [if_neg h, if_neg (by simpa using h)]

theorem lv_cases (x : Int) : (x < 24 ∧ lv x = 4 ∧ need x = 0) ∨ (24 ≤ x ∧ x < 256 ∧ lv x = 0 ∧ need x = 1) ∨ (256 ≤ x ∧ x < 65536 ∧ lv x = 1 ∧ need x = 2) ∨ (65536 ≤ x ∧ x < 4294967296 ∧ lv x = 2 ∧ need x = 4) ∨ (4294967296 ≤ x ∧ lv x = 3 ∧ need x = 8) := by
  unfold lv need
  repeat' split
  all_goals omega

theorem tl_length (x : Int) (j : Nat) : (tl x j).length = j := by
  induction j with
  | zero => rfl
  | succ j ih => simp [tl, ih]
theorem hd_length (m x s : Int) (s0 : 0 ≤ s) : ((hd m x s).length : Int) = s + 1 := by
  unfold hd
  by_cases h : s = 0
  · rw [if_pos h]; simp [h]
  · rw [if_neg h]; simp [tl_length]; omega

/-- The program's Wide behind its switch: c the word of the size s. -/
theorem wide_in (k : Nat) (m x c s : Int) (hk : 20 < k) (x0 : 0 ≤ x) (hc : (c = 4 ∧ s = 0) ∨ (c = 0 ∧ s = 1) ∨ (c = 1 ∧ s = 2) ∨ (c = 2 ∧ s = 4) ∨ (c = 3 ∧ s = 8)) : head_Wide.j0 k m x c = some (if mayW m x s then (hd m x s, 0) else ([], 1)) := by
  obtain ⟨k, rfl⟩ : ∃ j, k = j + 3 := ⟨k - 3, by omega⟩
  simp only [head_Wide.j0, head_Wide.j1, head_Wide.j2]
  rw [size_f x x0, may_f m x x0]
  simp only [Option.bind_some]
  have hl := lv_cases x
  rw [if_neg (show ¬ c < 0 by omega)]
  by_cases h : mayH m x
  · rw [if_pos (by simpa using h)]
    have hh := h
    obtain ⟨h0, h1, h7⟩ := h
    have hw : c ≠ 4 → head_write.f k m x c = some (hd m x s) := by
      intro hc4
      rw [write_f k m x c (by omega) h0 h1 (by omega) (by omega)]
      rcases hc with ⟨rfl, rfl⟩ | ⟨rfl, rfl⟩ | ⟨rfl, rfl⟩ | ⟨rfl, rfl⟩ | ⟨rfl, rfl⟩
      · exact absurd rfl hc4
      all_goals rfl
    by_cases c4 : c = 4
    · have hs0 : s = 0 := by omega
      subst c4 hs0
      by_cases hx : x < 24
      · have hl4 : lv x = 4 := by omega
        have hn : need x = 0 := by omega
        have hmw : mayW m x 0 := ⟨hh, .inl rfl, by omega, by omega⟩
        rw [hl4, if_pos hmw, write_in k m x h0 h1 x0 (by omega)]
        simp
      · have hmw : ¬ mayW m x 0 := fun hq => by have := hq.2.2.1; omega
        have hl4 : (lv x != 4) = true := by simp; omega
        rw [hl4, if_neg hmw]
        simp
    · rw [hw c4]
      simp only [if_neg c4, Option.bind_some]
      have hsx : (s = 0 ∨ s = 1 ∨ s = 2 ∨ s = 4 ∨ s = 8) := by omega
      by_cases l4 : lv x = 4
      · rw [if_pos l4, if_neg (show ¬ (false = true) by simp), if_neg (show ¬ (false = true) by simp)]
        by_cases m7 : m = 7
        · have hmw : ¬ mayW m x s := fun hq => by have := hq.2.2.2 m7; omega
          rw [if_pos m7, if_neg (show ¬ c = lv x by omega), if_neg hmw]
        · have hmw : mayW m x s := ⟨hh, hsx, by omega, fun h => absurd h m7⟩
          rw [if_neg m7, if_pos hmw]
      · rw [if_neg l4, if_neg (show ¬ (false = true) by simp)]
        by_cases cl : c < lv x
        · have hmw : ¬ mayW m x s := fun hq => by have := hq.2.2.1; omega
          rw [decide_eq_true cl, if_pos rfl, if_neg hmw]
        · rw [decide_eq_false cl, if_neg (show ¬ (false = true) by simp)]
          by_cases m7 : m = 7
          · rw [if_pos m7]
            by_cases ce : c = lv x
            · have hmw : mayW m x s := ⟨hh, hsx, by omega, by omega⟩
              rw [if_pos ce, if_pos hmw]
            · have hmw : ¬ mayW m x s := fun hq => by have := hq.2.2.2 m7; omega
              rw [if_neg ce, if_neg hmw]
          · have hmw : mayW m x s := ⟨hh, hsx, by omega, fun h => absurd h m7⟩
            rw [if_neg m7, if_pos hmw]
  · rw [if_neg (by simpa using h), if_neg (fun hq : mayW m x s => h hq.1)]

theorem wide_f (k : Nat) (m x s : Int) (hk : 20 < k) (x0 : 0 ≤ x) : head_Wide.f k m x s = some (if mayW m x s then (hd m x s, 0) else ([], 1)) := by
  unfold head_Wide.f
  by_cases s0 : s = 0
  · rw [if_pos s0]; exact wide_in k m x 4 s hk x0 (by omega)
  · rw [if_neg s0]
    by_cases s1 : s = 1
    · rw [if_pos s1]; exact wide_in k m x 0 s hk x0 (by omega)
    · rw [if_neg s1]
      by_cases s2 : s = 2
      · rw [if_pos s2]; exact wide_in k m x 1 s hk x0 (by omega)
      · rw [if_neg s2]
        by_cases s4 : s = 4
        · rw [if_pos s4]; exact wide_in k m x 2 s hk x0 (by omega)
        · rw [if_neg s4]
          by_cases s8 : s = 8
          · rw [if_pos s8]; exact wide_in k m x 3 s hk x0 (by omega)
          · rw [if_neg s8, if_neg (fun hq : mayW m x s => by have := hq.2.1; omega)]
            obtain ⟨k, rfl⟩ : ∃ j, k = j + 1 := ⟨k - 1, by omega⟩
            simp only [head_Wide.j0]
            rw [size_f x x0]
            simp

theorem awake_f (k : Nat) (hk : 10 < k) : glossatorlaw10_awake.f k = some true := by
  unfold glossatorlaw10_awake.f
  rw [put_f k 0 5 hk (by omega)]
  decide +kernel

/-- The number of bytes, behind a number. -/
def be : Int → List Int → Int
  | a, [] => a
  | a, c :: l => be (a * 256 + c) l

def getM (b : List Int) : Int × Int × Int × Int × Int :=
  if b.length = 0 then (0, 0, 0, 0, 3)
  else if rd b 0 % 32 < 24 then (rd b 0 / 32, rd b 0 % 32, rd b 0 % 32, 1, 0)
  else if rd b 0 % 32 = 31 ∧ rd b 0 / 32 > 1 ∧ rd b 0 / 32 ≠ 6 then (rd b 0 / 32, rd b 0 % 32, 0, 1, 0)
  else if rd b 0 % 32 > 27 then (0, 0, 0, 0, 4)
  else if rd b 0 / 32 = 7 ∧ rd b 0 % 32 = 24 ∧ (b.length : Int) > 1 ∧ rd b 1 ≤ 31 then (0, 0, 0, 1, 4)
  else if (b.length : Int) ≤ 2 ^ (rd b 0 % 32 - 24).toNat then (0, 0, 0, (b.length : Int), 3)
  else (rd b 0 / 32, rd b 0 % 32, be 0 ((b.take ((2 : Int) ^ (rd b 0 % 32 - 24).toNat + 1).toNat).drop 1), 2 ^ (rd b 0 % 32 - 24).toNat + 1, 0)

theorem get_l0 (m i n : Int) (xs : List Int) (hb : ∀ x ∈ xs, 0 ≤ x ∧ x ≤ 255) (hn : 0 ≤ n ∧ n ≤ 8) : ∀ (d j k : Nat) (acc : Int), j + d = xs.length → j + d ≤ 8 → 0 ≤ acc → acc < 256 ^ j → d < k → head_Get.l0 k m i n acc xs (xs.length : Int) (j : Int) = some (m, i, be acc (xs.drop j), n + 1, 0) := by
  intro d
  induction d with
  | zero =>
    intro j k acc hj h8 a0 a1 hk
    obtain ⟨k, rfl⟩ : ∃ m, k = m + 1 := ⟨k - 1, by omega⟩
    simp only [head_Get.l0]
    rw [if_neg (by omega), List.drop_eq_nil_of_le (by omega), show wrap64 (n + 1) = n + 1 by unfold wrap64; omega]
    rfl
  | succ d ih =>
    intro j k acc hj h8 a0 a1 hk
    obtain ⟨k, rfl⟩ : ∃ m, k = m + 1 := ⟨k - 1, by omega⟩
    simp only [head_Get.l0]
    have hlt : j < xs.length := by omega
    have hp : (256 : Int) ^ j ≤ 72057594037927936 := pow256 j (by omega)
    have hx := hb _ (List.getElem_mem hlt)
    rw [if_pos (by omega), if_pos (by omega), if_pos (by omega), rd_nat xs j hlt, or64 acc _ a0 (by omega) hx.1 (by omega), show wrap64 ((j : Int) + 1) = ((j + 1 : Nat) : Int) by unfold wrap64; omega]
    rw [ih (j + 1) k _ (by omega) (by omega) (by omega) (by rw [Int.pow_succ]; omega) (by omega), List.drop_eq_getElem_cons hlt]
    rfl

theorem head_get (k : Nat) (b : List Int) (hb : ∀ x ∈ b, 0 ≤ x ∧ x ≤ 255) (hk : 20 < k) : head_Get.f k b = some (getM b) := by
  unfold head_Get.f getM
  by_cases h0 : b.length = 0
  · rw [if_pos (by omega), if_pos h0]
  · rw [if_neg (by omega), if_neg h0, if_pos (by omega)]
    have hr := rd_of b 0 _ hb (by omega) (by omega)
    rw [u8_and31 _ hr.1 (by omega)]
    generalize hx : rd b 0 = x at hr ⊢
    rw [show wrap64 (x % 32) = x % 32 by unfold wrap64; omega, show wrap64 (x / 32) = x / 32 by unfold wrap64; omega, show IntKind.u64.wrap (x % 32) = x % 32 by rw [wrap_u64]; omega]
    by_cases h1 : x % 32 < 24
    · rw [if_pos h1, if_pos h1]
    · rw [if_neg h1, if_neg h1]
      have key : ∀ c : Bool, (c = true ↔ x % 32 = 31 ∧ x / 32 > 1 ∧ x / 32 ≠ 6) → head_Get.j0 k b (x / 32) (x % 32) c = some (if x % 32 = 31 ∧ x / 32 > 1 ∧ x / 32 ≠ 6 then (x / 32, x % 32, 0, 1, 0)
          else if x % 32 > 27 then (0, 0, 0, 0, 4)
          else if x / 32 = 7 ∧ x % 32 = 24 ∧ (b.length : Int) > 1 ∧ rd b 1 ≤ 31 then (0, 0, 0, 1, 4)
          else if (b.length : Int) ≤ 2 ^ (x % 32 - 24).toNat then (0, 0, 0, (b.length : Int), 3)
          else (x / 32, x % 32, be 0 ((b.take ((2 : Int) ^ (x % 32 - 24).toNat + 1).toNat).drop 1), 2 ^ (x % 32 - 24).toNat + 1, 0)) := by
        intro c hc
        obtain ⟨k, rfl⟩ : ∃ j, k = j + 2 := ⟨k - 2, by omega⟩
        simp only [head_Get.j0]
        by_cases c1 : c = true
        · rw [if_pos c1, if_pos (hc.1 c1)]
        · rw [if_neg c1, if_neg (fun hq => c1 (hc.2 hq))]
          by_cases h2 : x % 32 > 27
          · rw [if_pos h2, if_pos h2]
          · rw [if_neg h2, if_neg h2]
            have hj1 : head_Get.j1 (k + 1) b (x / 32) (x % 32) = some (if (b.length : Int) ≤ 2 ^ (x % 32 - 24).toNat then (0, 0, 0, (b.length : Int), 3)
                else (x / 32, x % 32, be 0 ((b.take ((2 : Int) ^ (x % 32 - 24).toNat + 1).toNat).drop 1), 2 ^ (x % 32 - 24).toNat + 1, 0)) := by
              simp only [head_Get.j1]
              have hn : (shl .i64 1 (wrap64 (x % 32 - 24))) = 2 ^ (x % 32 - 24).toNat ∧ (2 : Int) ^ (x % 32 - 24).toNat ≤ 8 ∧ (1 : Int) ≤ 2 ^ (x % 32 - 24).toNat := by
                have hcs : x % 32 - 24 = 0 ∨ x % 32 - 24 = 1 ∨ x % 32 - 24 = 2 ∨ x % 32 - 24 = 3 := by omega
                rcases hcs with e | e | e | e <;> rw [e] <;> decide +kernel
              rw [if_pos (show 0 ≤ wrap64 (x % 32 - 24) by unfold wrap64; omega), hn.1]
              generalize (2 : Int) ^ (x % 32 - 24).toNat = n at hn ⊢
              by_cases h3 : (b.length : Int) ≤ n
              · rw [if_pos h3, if_pos h3]
              · rw [if_neg h3, if_neg h3, show wrap64 (n + 1) = n + 1 by unfold wrap64; omega, if_pos (by omega), if_pos (by omega)]
                have hl : ((b.take (n + 1).toNat).drop 1).length = n.toNat := by rw [List.length_drop, List.length_take]; omega
                have := get_l0 (x / 32) (x % 32) n ((b.take (n + 1).toNat).drop 1) (fun y hy => hb y (List.mem_of_mem_take (List.mem_of_mem_drop hy))) (by omega) n.toNat 0 k 0 (by omega) (by omega) (by omega) (by decide) (by omega)
                rw [List.drop_zero] at this
                exact this
            by_cases h7 : x / 32 = 7
            · rw [if_pos h7]
              by_cases h24 : x % 32 = 24
              · rw [if_pos h24]
                by_cases hlen : (b.length : Int) > 1
                · rw [if_pos hlen, if_pos hlen]
                  by_cases h31 : rd b 1 ≤ 31
                  · rw [if_pos h31, if_pos ⟨h7, h24, hlen, h31⟩]
                  · rw [if_neg h31, if_neg (fun hq => h31 hq.2.2.2), hj1]
                · rw [if_neg hlen, if_neg (fun hq => hlen hq.2.2.1), hj1]
              · rw [if_neg h24, if_neg (fun hq => h24 hq.2.1), hj1]
            · rw [if_neg h7, if_neg (fun hq => h7 hq.1), hj1]
      by_cases h31 : x % 32 = 31
      · rw [if_pos h31]
        by_cases hm : x / 32 > 1
        · rw [if_pos hm]; exact key _ (by simp [h31, hm])
        · rw [if_neg hm]; exact key _ (by simp [hm])
      · rw [if_neg h31]; exact key _ (by simp [h31])

theorem rd_app (b m : List Int) (i : Int) (h0 : 0 ≤ i) (h1 : i < b.length) : rd (b ++ m) i = rd b i := by
  unfold rd
  rw [List.getD_eq_getElem?_getD, List.getD_eq_getElem?_getD, List.getElem?_append_left (by omega)]

theorem pow_cases (i : Int) (h0 : 24 ≤ i) (h1 : i ≤ 27) : (i = 24 ∧ (2 : Int) ^ (i - 24).toNat = 1) ∨ (i = 25 ∧ (2 : Int) ^ (i - 24).toNat = 2) ∨ (i = 26 ∧ (2 : Int) ^ (i - 24).toNat = 4) ∨ (i = 27 ∧ (2 : Int) ^ (i - 24).toNat = 8) := by
  have : i = 24 ∨ i = 25 ∨ i = 26 ∨ i = 27 := by omega
  rcases this with rfl | rfl | rfl | rfl <;> decide

theorem shr_pow (x : Int) (j : Nat) (hj : j ≤ 7) : shr .u64 x (8 * (j : Int)) = x / 256 ^ j := by
  unfold shr
  have e : min (8 * (j : Int)).toNat IntKind.u64.bits = 8 * j := by
    have : IntKind.u64.bits = 64 := rfl
    omega
  rw [e, Int.pow_mul]
  rfl

theorem mod_div_nat (n P : Nat) : ((n : Int) % ((P : Int) * 256)) / (P : Int) = (n : Int) / (P : Int) % 256 := by
  have h := congrArg (fun z : Nat => (z : Int)) (Nat.mod_mul_right_div_self n P 256)
  simp only [Int.natCast_ediv, Int.natCast_emod, Int.natCast_mul] at h
  exact h
theorem be_tl (x : Int) (x0 : 0 ≤ x) : ∀ (j : Nat) (a : Int), j ≤ 8 → be a (tl x j) = a * 256 ^ j + x % 256 ^ j := by
  intro j
  induction j with
  | zero => intro a _; simp [tl, be, Int.emod_one]
  | succ j ih =>
    intro a hj
    simp only [tl, be]
    rw [ih _ (by omega), shr_pow x j (by omega)]
    have h := Int.mul_ediv_add_emod (x % 256 ^ (j + 1)) (256 ^ j)
    have p : (256 : Int) ^ (j + 1) = 256 ^ j * 256 := Int.pow_succ ..
    have pos : (0 : Int) < 256 ^ j := Int.pow_pos (by decide)
    have e1 : x % 256 ^ (j + 1) % 256 ^ j = x % 256 ^ j := by rw [p]; exact Int.emod_emod_of_dvd x ⟨256, rfl⟩
    have e2 : x % 256 ^ (j + 1) / 256 ^ j = x / 256 ^ j % 256 := by
      rw [p]
      obtain ⟨n, rfl⟩ := Int.eq_ofNat_of_zero_le x0
      have hc : ((256 : Int) ^ j) = ((256 ^ j : Nat) : Int) := by simp
      rw [hc]
      exact mod_div_nat n (256 ^ j)
    rw [e1, e2] at h
    rw [← h, p, Int.add_mul, Int.mul_assoc a, Int.mul_comm 256 ((256 : Int) ^ j), Int.mul_comm (x / 256 ^ j % 256)]
    omega

theorem be_split (l : List Int) (hb : ∀ x ∈ l, 0 ≤ x ∧ x ≤ 255) : ∀ a : Int, be a l = a * 256 ^ l.length + be 0 l ∧ 0 ≤ be 0 l ∧ be 0 l < 256 ^ l.length := by
  induction l with
  | nil => intro a; simp [be]
  | cons c l ih =>
    intro a
    have hc := hb c (by simp)
    have ih := ih (fun x hx => hb x (by simp [hx]))
    simp only [be, List.length_cons]
    obtain ⟨e1, p1, p2⟩ := ih (a * 256 + c)
    obtain ⟨e2, _, _⟩ := ih (0 * 256 + c)
    have pos : (0 : Int) < 256 ^ l.length := Int.pow_pos (by decide)
    have p : (256 : Int) ^ (l.length + 1) = 256 * 256 ^ l.length := by rw [Int.pow_succ, Int.mul_comm]
    rw [e1, e2, p]
    generalize (256 : Int) ^ l.length = P at pos p2 ⊢
    generalize be 0 l = B at p1 p2 ⊢
    have h1 : (a * 256 + c) * P = a * (256 * P) + c * P := by rw [Int.add_mul, Int.mul_assoc]
    have h2 : (0 * 256 + c) * P = c * P := by rw [Int.zero_mul, Int.zero_add]
    have h3 : 0 ≤ c * P := Int.mul_nonneg hc.1 (by omega)
    have h4 : c * P ≤ 255 * P := Int.mul_le_mul_of_nonneg_right hc.2 (by omega)
    rw [h1, h2]
    refine ⟨by omega, by omega, by omega⟩

theorem tl_be (l : List Int) (hb : ∀ x ∈ l, 0 ≤ x ∧ x ≤ 255) (h8 : l.length ≤ 8) : ∀ a : Int, tl (be a l) l.length = l := by
  induction l with
  | nil => intro a; rfl
  | cons c l ih =>
    intro a
    have hc := hb c (by simp)
    have hb' : ∀ x ∈ l, 0 ≤ x ∧ x ≤ 255 := fun x hx => hb x (by simp [hx])
    simp only [be, List.length_cons, tl]
    rw [ih hb' (by simp at h8; omega), shr_pow _ _ (by simp at h8; omega)]
    obtain ⟨e1, p1, p2⟩ := be_split l hb' (a * 256 + c)
    have pos : (0 : Int) < 256 ^ l.length := Int.pow_pos (by decide)
    have e : be (a * 256 + c) l / 256 ^ l.length = a * 256 + c := by
      rw [e1, Int.add_comm, Int.add_mul_ediv_right _ _ (by omega), Int.ediv_eq_zero_of_lt p1 p2]
      omega
    rw [e]
    congr 1
    omega

theorem need_pow (x s : Int) (x0 : 0 ≤ x) (x1 : x ≤ 18446744073709551615) (hs : s = 1 ∨ s = 2 ∨ s = 4 ∨ s = 8) (h : need x ≤ s) : x % 256 ^ s.toNat = x := by
  have hl := lv_cases x
  rcases hs with rfl | rfl | rfl | rfl
  · show x % 256 ^ 1 = x; omega
  · show x % 256 ^ 2 = x; omega
  · show x % 256 ^ 4 = x; omega
  · show x % 256 ^ 8 = x; omega

/-- A head, whatever stands behind it, is read as what was written. -/
theorem get_hd (m x s : Int) (r : List Int) (x0 : 0 ≤ x) (x1 : x ≤ 18446744073709551615) (h : mayW m x s) : (getM (hd m x s ++ r)).2.2.2.2 = 0 ∧ (getM (hd m x s ++ r)).1 = m ∧ (getM (hd m x s ++ r)).2.2.1 = x ∧ (getM (hd m x s ++ r)).2.2.2.1 = s + 1 := by
  have hl := lv_cases x
  obtain ⟨⟨m0, m1, m7⟩, hs, hn, hn7⟩ := h
  by_cases s0 : s = 0
  · subst s0
    have hx : x < 24 := by omega
    have e : hd m x 0 ++ r = (m * 32 + x) :: r := by
      unfold hd
      rw [if_pos rfl, show (m * 32 + x) % 256 = m * 32 + x by omega]
      rfl
    rw [e]
    have e2 : getM ((m * 32 + x) :: r) = (m, x, x, 1, 0) := by
      unfold getM
      have er : rd ((m * 32 + x) :: r) 0 = m * 32 + x := rfl
      rw [er, if_neg (by simp), if_pos (by omega), show (m * 32 + x) % 32 = x by omega, show (m * 32 + x) / 32 = m by omega]
    rw [e2]
    exact ⟨rfl, rfl, rfl, rfl⟩
  · have hs' : s = 1 ∨ s = 2 ∨ s = 4 ∨ s = 8 := by omega
    obtain ⟨i, hi⟩ : ∃ i : Int, i = (if s = 1 then 24 else if s = 2 then 25 else if s = 4 then 26 else 27) := ⟨_, rfl⟩
    have hi2 : (s = 1 ∧ i = 24) ∨ (s = 2 ∧ i = 25) ∨ (s = 4 ∧ i = 26) ∨ (s = 8 ∧ i = 27) := by
      rcases hs' with rfl | rfl | rfl | rfl
      · exact .inl ⟨rfl, hi⟩
      · exact .inr (.inl ⟨rfl, hi⟩)
      · exact .inr (.inr (.inl ⟨rfl, hi⟩))
      · exact .inr (.inr (.inr ⟨rfl, hi⟩))
    have e : hd m x s ++ r = (m * 32 + i) :: (tl x s.toNat ++ r) := by
      unfold hd
      rw [if_neg s0, ← hi]
      rfl
    rw [e]
    have hp : (2 : Int) ^ (i - 24).toNat = s := by have := pow_cases i (by omega) (by omega); omega
    have hlen : ((m * 32 + i) :: (tl x s.toNat ++ r)).length = s.toNat + r.length + 1 := by simp [tl_length]
    have e2 : getM ((m * 32 + i) :: (tl x s.toNat ++ r)) = (m, i, x, s + 1, 0) := by
      unfold getM
      have er : rd ((m * 32 + i) :: (tl x s.toNat ++ r)) 0 = m * 32 + i := rfl
      have h7 : ¬ ((m * 32 + i) / 32 = 7 ∧ (m * 32 + i) % 32 = 24 ∧ (((m * 32 + i) :: (tl x s.toNat ++ r)).length : Int) > 1 ∧ rd ((m * 32 + i) :: (tl x s.toNat ++ r)) 1 ≤ 31) := by
        rintro ⟨q7, q24, _, q31⟩
        have s1 : s = 1 := by omega
        subst s1
        have ev : rd ((m * 32 + i) :: (tl x (1 : Int).toNat ++ r)) 1 = shr .u64 x (8 * ((0 : Nat) : Int)) % 256 := rfl
        have hm7 : m = 7 := by omega
        have hx7 := m7 hm7
        have hn7 := hn7 hm7
        rw [ev, shr_pow x 0 (by omega)] at q31
        have : (256 : Int) ^ 0 = 1 := rfl
        rw [this] at q31
        omega
      rw [er, if_neg (by omega), if_neg (by omega), if_neg (by omega), if_neg (by omega)]
      rw [if_neg h7, show (m * 32 + i) % 32 = i by omega, show (m * 32 + i) / 32 = m by omega, hp, if_neg (by omega)]
      have et : ((((m * 32 + i) :: (tl x s.toNat ++ r)).take (s + 1).toNat).drop 1) = tl x s.toNat := by
        rw [show (s + 1).toNat = s.toNat + 1 by omega, List.take_succ_cons, List.drop_one, List.tail_cons, List.take_append_of_le_length (by rw [tl_length]; omega), List.take_of_length_le (by rw [tl_length]; omega)]
      rw [et, be_tl x x0 s.toNat 0 (by omega), need_pow x s x0 x1 hs' hn]
      simp
    rw [e2]
    exact ⟨rfl, rfl, rfl, rfl⟩

/-- A head that is read is written so. -/
theorem hd_get (b : List Int) (hb : ∀ x ∈ b, 0 ≤ x ∧ x ≤ 255) (h0 : (getM b).2.2.2.2 = 0) (h31 : (getM b).2.1 ≠ 31) (h7 : ¬ ((getM b).1 = 7 ∧ (getM b).2.1 > 24)) :
    mayW (getM b).1 (getM b).2.2.1 ((getM b).2.2.2.1 - 1) ∧ hd (getM b).1 (getM b).2.2.1 ((getM b).2.2.2.1 - 1) = b.take (getM b).2.2.2.1.toNat ∧ 0 ≤ (getM b).2.2.1 ∧ 1 ≤ (getM b).2.2.2.1 ∧ (getM b).2.2.2.1 ≤ b.length ∧ (getM b).2.2.2.1 ≤ 9 := by
  unfold getM at h0
  by_cases hl : b.length = 0
  · rw [if_pos hl] at h0; cases h0
  · rw [if_neg hl] at h0
    have hr := rd_of b 0 _ hb (by omega) (by omega)
    obtain ⟨y, l, rfl⟩ : ∃ y l, b = y :: l := by
      cases b with
      | nil => exact absurd rfl hl
      | cons y l => exact ⟨y, l, rfl⟩
    have er : rd (y :: l) 0 = y := rfl
    rw [er] at h0 hr
    by_cases h1 : y % 32 < 24
    · have e : getM (y :: l) = (y / 32, y % 32, y % 32, 1, 0) := by unfold getM; rw [er, if_neg hl, if_pos h1]
      rw [e]
      simp only
      have hc := lv_cases (y % 32)
      refine ⟨⟨⟨by omega, by omega, fun _ => by omega⟩, by omega, by omega, fun _ => by omega⟩, ?_, by omega, by omega, by simp; omega, by omega⟩
      unfold hd
      rw [if_pos (by omega), show (y / 32 * 32 + y % 32) % 256 = y by omega]
      rfl
    · rw [if_neg h1] at h0
      by_cases h2 : y % 32 = 31 ∧ y / 32 > 1 ∧ y / 32 ≠ 6
      · have e : getM (y :: l) = (y / 32, y % 32, 0, 1, 0) := by unfold getM; rw [er, if_neg hl, if_neg h1, if_pos h2]
        rw [e] at h31
        exact absurd h2.1 h31
      · rw [if_neg h2] at h0
        by_cases h3 : y % 32 > 27
        · rw [if_pos h3] at h0; cases h0
        · rw [if_neg h3] at h0
          by_cases h4 : y / 32 = 7 ∧ y % 32 = 24 ∧ ((y :: l).length : Int) > 1 ∧ rd (y :: l) 1 ≤ 31
          · rw [if_pos h4] at h0; cases h0
          · rw [if_neg h4] at h0
            have hp := pow_cases (y % 32) (by omega) (by omega)
            by_cases h5 : ((y :: l).length : Int) ≤ 2 ^ (y % 32 - 24).toNat
            · rw [if_pos h5] at h0; cases h0
            · have e : getM (y :: l) = (y / 32, y % 32, be 0 (((y :: l).take ((2 : Int) ^ (y % 32 - 24).toNat + 1).toNat).drop 1), 2 ^ (y % 32 - 24).toNat + 1, 0) := by
                unfold getM; rw [er, if_neg hl, if_neg h1, if_neg h2, if_neg h3, if_neg h4, if_neg h5]
              rw [e] at h7 ⊢
              simp only at h7 ⊢
              obtain ⟨n, hn⟩ : ∃ n : Int, n = (2 : Int) ^ (y % 32 - 24).toNat := ⟨_, rfl⟩
              rw [← hn] at h5 hp ⊢
              have ht : (((y :: l).take (n + 1).toNat).drop 1) = l.take n.toNat := by
                rw [show (n + 1).toNat = n.toNat + 1 by omega, List.take_succ_cons, List.drop_one, List.tail_cons]
              rw [ht]
              have hll : (l.take n.toNat).length = n.toNat := by rw [List.length_take]; simp at h5; omega
              have hbl : ∀ x ∈ l.take n.toNat, 0 ≤ x ∧ x ≤ 255 := fun x hx => hb x (List.mem_cons_of_mem _ (List.mem_of_mem_take hx))
              obtain ⟨_, p1, p2⟩ := be_split (l.take n.toNat) hbl 0
              have htb := tl_be (l.take n.toNat) hbl (by omega) 0
              rw [hll] at p2 htb
              obtain ⟨x, hx⟩ : ∃ x : Int, x = be 0 (l.take n.toNat) := ⟨_, rfl⟩
              rw [← hx] at p1 p2 htb ⊢
              have hc := lv_cases x
              have hneed : need x ≤ n := by
                rcases hp with ⟨_, q⟩ | ⟨_, q⟩ | ⟨_, q⟩ | ⟨_, q⟩
                · rw [q] at p2; have : (256 : Int) ^ (1 : Int).toNat = 256 := rfl; omega
                · rw [q] at p2; have : (256 : Int) ^ (2 : Int).toNat = 65536 := rfl; omega
                · rw [q] at p2; have : (256 : Int) ^ (4 : Int).toNat = 4294967296 := rfl; omega
                · omega
              have h7x : y / 32 = 7 → 32 ≤ x ∧ x ≤ 255 ∧ n = 1 := by
                intro q7
                have n1 : n = 1 := by omega
                subst n1
                have hlt : 0 < l.length := by simp at h5; omega
                obtain ⟨z, l', rfl⟩ : ∃ z l', l = z :: l' := by
                  cases l with
                  | nil => exact absurd hlt (by simp)
                  | cons z l' => exact ⟨z, l', rfl⟩
                have ez : rd (y :: z :: l') 1 = z := rfl
                have ex : x = 0 * 256 + z := hx
                rw [ez] at h4
                have hz := hb z (by simp)
                have hq : ¬ z ≤ 31 := fun hq => h4 ⟨q7, by omega, by simp; omega, hq⟩
                omega
              refine ⟨⟨⟨by omega, by omega, fun q => by have := h7x q; omega⟩, by omega, by omega, fun q => by have := h7x q; omega⟩, ?_, p1, by omega, by simp at h5 ⊢; omega, by omega⟩
              rw [show n + 1 - 1 = n by omega, show (n + 1).toNat = n.toNat + 1 by omega, List.take_succ_cons]
              unfold hd
              rw [if_neg (by omega), htb]
              congr 1
              rcases hp with ⟨q, r⟩ | ⟨q, r⟩ | ⟨q, r⟩ | ⟨q, r⟩ <;> rw [r] <;> simp <;> omega

theorem HeadBack : glossatorlaw10_HeadBack.Pure := by
  intro m x s b hm hx hs hlm hlz hw
  have hb : ∀ x ∈ b, 0 ≤ x ∧ x ≤ 255 := fun x hx => wf_u8 (hw x hx)
  have hx := wf_u64 hx
  have tail : glossatorlaw10_HeadBack.j0 60 b = some true := by
    simp only [glossatorlaw10_HeadBack.j0]
    rw [head_get 59 b hb (by omega)]
    simp only [Option.bind_some]
    have yes : glossatorlaw10_HeadBack.j1 59 b (getM b).1 (getM b).2.2.1 (getM b).2.2.2.1 true = some true := by
      simp only [glossatorlaw10_HeadBack.j1, if_true]
      rw [awake_f 58 (by omega)]
      rfl
    by_cases h0 : (getM b).2.2.2.2 = 0
    · rw [if_pos h0]
      by_cases h31 : (getM b).2.1 = 31
      · rw [if_pos h31]; exact yes
      · rw [if_neg h31]
        have no : ¬ ((getM b).1 = 7 ∧ (getM b).2.1 > 24) → glossatorlaw10_HeadBack.j1 59 b (getM b).1 (getM b).2.2.1 (getM b).2.2.2.1 false = some true := by
          intro h7
          obtain ⟨hw, he, hx0, h1, h2, h9⟩ := hd_get b hb h0 h31 h7
          simp only [glossatorlaw10_HeadBack.j1, Bool.false_eq_true, if_false]
          rw [show wrap64 ((getM b).2.2.2.1 - 1) = (getM b).2.2.2.1 - 1 by unfold wrap64; omega, wide_f 58 _ _ _ (by omega) hx0, if_pos hw]
          simp only [Option.bind_some, if_true]
          rw [if_pos (by omega), if_pos h2, he, if_pos rfl, awake_f 58 (by omega)]
          rfl
        by_cases h7 : (getM b).1 = 7
        · rw [if_pos h7]
          by_cases h24 : (getM b).2.1 > 24
          · rw [decide_eq_true h24]; exact yes
          · rw [decide_eq_false h24]; exact no (fun hq => h24 hq.2)
        · rw [if_neg h7]; exact no (fun hq => h7 hq.1)
    · rw [if_neg h0]; exact yes
  refine ⟨60, ?_⟩
  unfold glossatorlaw10_HeadBack.f
  rw [wide_f 60 m x s (by omega) hx.1]
  simp only [Option.bind_some, List.nil_append, List.length_nil, Nat.zero_add]
  by_cases h : mayW m x s
  · rw [if_pos h]
    simp only [if_true]
    have hs0 : 0 ≤ s := by have := h.2.1; omega
    have hs8 : s ≤ 8 := by have := h.2.1; omega
    have hl := hd_length m x s hs0
    have hbh : ∀ y ∈ hd m x s ++ b, 0 ≤ y ∧ y ≤ 255 := by
      intro y hy
      rcases List.mem_append.1 hy with q | q
      · unfold hd at q
        by_cases s0 : s = 0
        · rw [if_pos s0] at q; simp at q; omega
        · rw [if_neg s0] at q
          rcases List.mem_cons.1 q with q | q
          · have := h.1; obtain ⟨a, c, _⟩ := this
            rw [q]; split <;> (try split) <;> (try split) <;> omega
          · clear tail
            have : ∀ j : Nat, ∀ y ∈ tl x j, 0 ≤ y ∧ y ≤ 255 := by
              intro j
              induction j with
              | zero => intro y hy; simp [tl] at hy
              | succ j ih =>
                intro y hy
                simp only [tl] at hy
                rcases List.mem_cons.1 hy with e | e
                · rw [e]; omega
                · exact ih y e
            exact this _ y q
      · exact hb y q
    obtain ⟨g0, g1, g2, g3⟩ := get_hd m x s b hx.1 hx.2 h
    rw [if_pos (by omega), if_pos (by omega), head_get 60 _ hbh (by omega)]
    simp only [Option.bind_some]
    rw [if_pos g0, if_pos g1, if_pos g2, if_pos (by rw [g3]; omega), if_pos (by rw [hl]; unfold wrap64; omega)]
    exact tail
  · rw [if_neg h, if_neg (by decide)]
    exact tail

end Go.Proofs.Ytmpengjbjhladaa.Pure
