/- Proved: the pure statement of HeadLeast: for every major and number, Put's head is Wide's with its size, and no smaller size has one. -/
import Derived.Test.YtmpengjbjhladaaPHeadLeastx2
namespace Go.Proofs.Ytmpengjbjhladaa.Pure
open Go.RowKit Go.Proofs.Ytmpengjbjhladaa.PHeadLeast Go.Proofs.YtmpengjbjhladaaW.PrintWords Go.Proofs.YtmpengjbjhladaaW.PrintLast Go.Proofs.YtmpengjbjhladaaW.PrintMore

theorem wf_i64 {n : Int} (h : (Lit.int .i64 n).wf = true) : -9223372036854775808 ≤ n ∧ n ≤ 9223372036854775807 := by
  simp [Lit.wf, IntKind.min, IntKind.max, IntKind.signed, IntKind.bits] at h; omega
theorem wf_u64 {n : Int} (h : (Lit.int .u64 n).wf = true) : 0 ≤ n ∧ n ≤ 18446744073709551615 := by
  simp [Lit.wf, IntKind.min, IntKind.max, IntKind.signed, IntKind.bits] at h; omega

/-- The bytes of a number, j of them, the highest first. -/
def tl (x : Int) : Nat → List Int
  | 0 => []
  | j + 1 => (shr .u64 x (8 * (j : Int))) % 256 :: tl x j

theorem write_l0 (x : Int) : ∀ (j k : Nat) (acc : List Int), j ≤ 8 → acc.length ≤ 100 - j → j < k → head_write.l0 k x acc ((j : Int) - 1) = some (acc ++ tl x j) := by
  intro j
  induction j with
  | zero =>
    intro k acc _ _ hk
    obtain ⟨k, rfl⟩ : ∃ m, k = m + 1 := ⟨k - 1, by omega⟩
    simp only [head_write.l0]
    rw [if_neg (by omega)]
    simp [tl]
  | succ j ih =>
    intro k acc hj ha hk
    obtain ⟨k, rfl⟩ : ∃ m, k = m + 1 := ⟨k - 1, by omega⟩
    have e1 : ((j + 1 : Nat) : Int) - 1 = (j : Int) := by omega
    have e2 : wrap64 (8 * (j : Int)) = 8 * (j : Int) := by unfold wrap64; omega
    have e3 : wrap64 ((j : Int) - 1) = (j : Int) - 1 := by unfold wrap64; omega
    simp only [head_write.l0]
    rw [e1, e2, e3, if_pos (by omega), if_pos (by omega), if_pos (by omega), ih k _ (by omega) (by simp; omega) (by omega)]
    simp [tl]

/-- A head: of a first byte and s bytes more; s = 0: within it. -/
def hd (m x s : Int) : List Int := if s = 0 then [(m * 32 + x) % 256] else (m * 32 + (if s = 1 then 24 else if s = 2 then 25 else if s = 4 then 26 else 27)) :: tl x s.toNat

theorem or_first (m s : Int) (h0 : 0 ≤ m) (h1 : m ≤ 7) (s0 : 0 ≤ s) (s1 : s ≤ 3) : (wrap64 ((Go.bits .or .i64 (wrap64 (m * 32)) 24) + s)) % 256 = m * 32 + 24 + s ∧ (Go.bits .or .i64 (wrap64 (m * 32)) (24 + s)) % 256 = m * 32 + 24 + s := by
  have hm : m = 0 ∨ m = 1 ∨ m = 2 ∨ m = 3 ∨ m = 4 ∨ m = 5 ∨ m = 6 ∨ m = 7 := by omega
  have hs : s = 0 ∨ s = 1 ∨ s = 2 ∨ s = 3 := by omega
  rcases hm with rfl | rfl | rfl | rfl | rfl | rfl | rfl | rfl <;> rcases hs with rfl | rfl | rfl | rfl <;> decide +kernel

theorem or_small (m x : Int) (h0 : 0 ≤ m) (h1 : m ≤ 7) (s0 : 0 ≤ x) (s1 : x ≤ 23) : Go.bits .or .u8 ((wrap64 (m * 32)) % 256) (x % 256) = m * 32 + x := by
  have hm : m = 0 ∨ m = 1 ∨ m = 2 ∨ m = 3 ∨ m = 4 ∨ m = 5 ∨ m = 6 ∨ m = 7 := by omega
  have e1 : wrap64 (m * 32) % 256 = m * 32 := by unfold wrap64; omega
  have e2 : x % 256 = x := by omega
  rw [e1, e2]
  refine bits_join .u8 8 (by decide) wraps_u8 5 _ _ (by omega) (by omega) (by omega) s0 (by omega) (by omega)

theorem write_f (k : Nat) (m x s : Int) (hk : 10 < k) (h0 : 0 ≤ m) (h1 : m ≤ 7) (s0 : 0 ≤ s) (s1 : s ≤ 3) : head_write.f k m x s = some (hd m x (2 ^ s.toNat)) := by
  have hs : s = 0 ∨ s = 1 ∨ s = 2 ∨ s = 3 := by omega
  have e := (or_first m s h0 h1 s0 s1).1
  unfold head_write.f
  rw [if_neg (by omega), if_pos s0, e]
  rcases hs with rfl | rfl | rfl | rfl
  · rw [show wrap64 ((shl .i64 1 0) - 1) = ((1 : Nat) : Int) - 1 by decide +kernel, write_l0 x 1 k _ (by omega) (by simp) (by omega)]; simp [hd, tl]
  · rw [show wrap64 ((shl .i64 1 1) - 1) = ((2 : Nat) : Int) - 1 by decide +kernel, write_l0 x 2 k _ (by omega) (by simp) (by omega)]; simp [hd, tl]; omega
  · rw [show wrap64 ((shl .i64 1 2) - 1) = ((4 : Nat) : Int) - 1 by decide +kernel, write_l0 x 4 k _ (by omega) (by simp) (by omega)]; simp [hd, tl]; omega
  · rw [show wrap64 ((shl .i64 1 3) - 1) = ((8 : Nat) : Int) - 1 by decide +kernel, write_l0 x 8 k _ (by omega) (by simp) (by omega)]; simp [hd, tl]; omega

theorem write_in (k : Nat) (m x : Int) (h0 : 0 ≤ m) (h1 : m ≤ 7) (x0 : 0 ≤ x) (x1 : x ≤ 23) : head_write.f k m x 4 = some (hd m x 0) := by
  unfold head_write.f
  rw [if_pos rfl, or_small m x h0 h1 x0 x1]
  have : (m * 32 + x) % 256 = m * 32 + x := by omega
  simp [hd, this]

/-- May a head be written, with so many bytes behind the first (-1: the fewest)? -/
def mayH (m x : Int) : Prop := 0 ≤ m ∧ m ≤ 7 ∧ (m = 7 → x < 24 ∨ (32 ≤ x ∧ x ≤ 255))
def need (x : Int) : Int := if x < 24 then 0 else if x < 256 then 1 else if x < 65536 then 2 else if x < 4294967296 then 4 else 8
instance (m x : Int) : Decidable (mayH m x) := by unfold mayH; infer_instance
def mayW (m x s : Int) : Prop := mayH m x ∧ (s = 0 ∨ s = 1 ∨ s = 2 ∨ s = 4 ∨ s = 8) ∧ need x ≤ s ∧ (m = 7 → s = need x)
instance (m x s : Int) : Decidable (mayW m x s) := by unfold mayW; infer_instance

theorem dec_t {p : Prop} [Decidable p] (h : p) : some true = some (decide p) := by rw [decide_eq_true h]
theorem dec_f {p : Prop} [Decidable p] (h : ¬ p) : some false = some (decide p) := by rw [decide_eq_false h]
theorem may_f (m x : Int) (x0 : 0 ≤ x) : head_may.f m x = some (decide (mayH m x)) := by
  unfold head_may.f mayH
  by_cases h1 : m < 0
  · rw [if_pos h1]; exact dec_f (by omega)
  · rw [if_neg h1]
    by_cases h2 : m > 7
    · rw [if_pos h2]; exact dec_f (by omega)
    · rw [if_neg h2]
      by_cases h3 : m = 7
      · rw [if_pos h3]
        by_cases h4 : x < 24
        · rw [if_pos h4]; exact dec_t (by omega)
        · rw [if_neg h4]
          by_cases h5 : x > 31
          · rw [if_pos h5]
            by_cases h6 : x / 256 = 0
            · rw [beq_iff_eq.mpr h6]; exact dec_t (by omega)
            · rw [beq_eq_false_iff_ne.mpr h6]; exact dec_f (by omega)
          · rw [if_neg h5]; exact dec_f (by omega)
      · rw [if_neg h3]; exact dec_t (by omega)

/-- The program's word for a size. -/
def lv (x : Int) : Int := if x < 24 then 4 else if x < 256 then 0 else if x < 65536 then 1 else if x < 4294967296 then 2 else 3
theorem size_f (x : Int) (x0 : 0 ≤ x) : head_size.f x = some (lv x) := by
  unfold head_size.f lv
  have e1 : x / 256 = 0 ↔ x < 256 := by omega
  have e2 : x / 65536 = 0 ↔ x < 65536 := by omega
  have e3 : x / 4294967296 = 0 ↔ x < 4294967296 := by omega
  simp only [e1, e2, e3]
  repeat' split
  all_goals rfl

theorem put_f (k : Nat) (m x : Int) (hk : 10 < k) (x0 : 0 ≤ x) : head_Put.f k m x = some (if mayH m x then (hd m x (need x), 0) else ([], 1)) := by
  unfold head_Put.f
  rw [may_f m x x0]
  simp only [Option.bind_some]
  by_cases h : mayH m x
  · rw [if_pos h, if_pos (by simpa using h), size_f x x0]
    simp only [Option.bind_some]
    obtain ⟨h0, h1, _⟩ := h
    by_cases a1 : x < 24
    · simp only [lv, need, if_pos a1]; rw [write_in k m x h0 h1 x0 (by omega)]; rfl
    · by_cases a2 : x < 256
      · simp only [lv, need, if_neg a1, if_pos a2]; rw [write_f k m x 0 hk h0 h1 (by omega) (by omega)]; rfl
      · by_cases a3 : x < 65536
        · simp only [lv, need, if_neg a1, if_neg a2, if_pos a3]; rw [write_f k m x 1 hk h0 h1 (by omega) (by omega)]; rfl
        · by_cases a4 : x < 4294967296
          · simp only [lv, need, if_neg a1, if_neg a2, if_neg a3, if_pos a4]; rw [write_f k m x 2 hk h0 h1 (by omega) (by omega)]; rfl
          · simp only [lv, need, if_neg a1, if_neg a2, if_neg a3, if_neg a4]; rw [write_f k m x 3 hk h0 h1 (by omega) (by omega)]; rfl
  · rw [if_neg h, if_neg (by simpa using h)]

theorem lv_cases (x : Int) : (x < 24 ∧ lv x = 4 ∧ need x = 0) ∨ (24 ≤ x ∧ x < 256 ∧ lv x = 0 ∧ need x = 1) ∨ (256 ≤ x ∧ x < 65536 ∧ lv x = 1 ∧ need x = 2) ∨ (65536 ≤ x ∧ x < 4294967296 ∧ lv x = 2 ∧ need x = 4) ∨ (4294967296 ≤ x ∧ lv x = 3 ∧ need x = 8) := by
  unfold lv need
  repeat' split
  all_goals omega

/-- The program's Wide behind its switch: c the word of the size s. -/
theorem wide_in (k : Nat) (m x c s : Int) (hk : 20 < k) (x0 : 0 ≤ x) (hc : (c = 4 ∧ s = 0) ∨ (c = 0 ∧ s = 1) ∨ (c = 1 ∧ s = 2) ∨ (c = 2 ∧ s = 4) ∨ (c = 3 ∧ s = 8)) : head_Wide.j0 k m x c = some (if mayW m x s then (hd m x s, 0) else ([], 1)) := by
  obtain ⟨k, rfl⟩ : ∃ j, k = j + 3 := ⟨k - 3, by omega⟩
  simp only [head_Wide.j0, head_Wide.j1, head_Wide.j2]
  rw [size_f x x0, may_f m x x0]
  simp only [Option.bind_some]
  have hl := lv_cases x
  rw [if_neg (show ¬ c < 0 by omega)]
  by_cases h : mayH m x
  · rw [if_pos (by simpa using h)]
    have hh := h
    obtain ⟨h0, h1, h7⟩ := h
    have hw : c ≠ 4 → head_write.f k m x c = some (hd m x s) := by
      intro hc4
      rw [write_f k m x c (by omega) h0 h1 (by omega) (by omega)]
      rcases hc with ⟨rfl, rfl⟩ | ⟨rfl, rfl⟩ | ⟨rfl, rfl⟩ | ⟨rfl, rfl⟩ | ⟨rfl, rfl⟩
      · exact absurd rfl hc4
      all_goals rfl
    by_cases c4 : c = 4
    · have hs0 : s = 0 := by omega
      subst c4 hs0
      by_cases hx : x < 24
      · have hl4 : lv x = 4 := by omega
        have hn : need x = 0 := by omega
        have hmw : mayW m x 0 := ⟨hh, .inl rfl, by omega, by omega⟩
        rw [hl4, if_pos hmw, write_in k m x h0 h1 x0 (by omega)]
        simp
      · have hmw : ¬ mayW m x 0 := fun hq => by have := hq.2.2.1; omega
        have hl4 : (lv x != 4) = true := by simp; omega
        rw [hl4, if_neg hmw]
        simp
    · rw [hw c4]
      simp only [if_neg c4, Option.bind_some]
      have hsx : (s = 0 ∨ s = 1 ∨ s = 2 ∨ s = 4 ∨ s = 8) := by omega
      by_cases l4 : lv x = 4
      · rw [if_pos l4, if_neg (show ¬ (false = true) by simp), if_neg (show ¬ (false = true) by simp)]
        by_cases m7 : m = 7
        · have hmw : ¬ mayW m x s := fun hq => by have := hq.2.2.2 m7; omega
          rw [if_pos m7, if_neg (show ¬ c = lv x by omega), if_neg hmw]
        · have hmw : mayW m x s := ⟨hh, hsx, by omega, fun h => absurd h m7⟩
          rw [if_neg m7, if_pos hmw]
      · rw [if_neg l4, if_neg (show ¬ (false = true) by simp)]
        by_cases cl : c < lv x
        · have hmw : ¬ mayW m x s := fun hq => by have := hq.2.2.1; omega
          rw [decide_eq_true cl, if_pos rfl, if_neg hmw]
        · rw [decide_eq_false cl, if_neg (show ¬ (false = true) by simp)]
          by_cases m7 : m = 7
          · rw [if_pos m7]
            by_cases ce : c = lv x
            · have hmw : mayW m x s := ⟨hh, hsx, by omega, by omega⟩
              rw [if_pos ce, if_pos hmw]
            · have hmw : ¬ mayW m x s := fun hq => by have := hq.2.2.2 m7; omega
              rw [if_neg ce, if_neg hmw]
          · have hmw : mayW m x s := ⟨hh, hsx, by omega, fun h => absurd h m7⟩
            rw [if_neg m7, if_pos hmw]
  · rw [if_neg (by simpa using h), if_neg (fun hq : mayW m x s => h hq.1)]

theorem wide_f (k : Nat) (m x s : Int) (hk : 20 < k) (x0 : 0 ≤ x) : head_Wide.f k m x s = some (if mayW m x s then (hd m x s, 0) else ([], 1)) := by
  unfold head_Wide.f
  by_cases s0 : s = 0
  · rw [if_pos s0]; exact wide_in k m x 4 s hk x0 (by omega)
  · rw [if_neg s0]
    by_cases s1 : s = 1
    · rw [if_pos s1]; exact wide_in k m x 0 s hk x0 (by omega)
    · rw [if_neg s1]
      by_cases s2 : s = 2
      · rw [if_pos s2]; exact wide_in k m x 1 s hk x0 (by omega)
      · rw [if_neg s2]
        by_cases s4 : s = 4
        · rw [if_pos s4]; exact wide_in k m x 2 s hk x0 (by omega)
        · rw [if_neg s4]
          by_cases s8 : s = 8
          · rw [if_pos s8]; exact wide_in k m x 3 s hk x0 (by omega)
          · rw [if_neg s8, if_neg (fun hq : mayW m x s => by have := hq.2.1; omega)]
            obtain ⟨k, rfl⟩ : ∃ j, k = j + 1 := ⟨k - 1, by omega⟩
            simp only [head_Wide.j0]
            rw [size_f x x0]
            simp


theorem tl_length (x : Int) (j : Nat) : (tl x j).length = j := by
  induction j with
  | zero => rfl
  | succ j ih => simp [tl, ih]
theorem hd_length (m x s : Int) (s0 : 0 ≤ s) : ((hd m x s).length : Int) = s + 1 := by
  unfold hd
  by_cases h : s = 0
  · rw [if_pos h]; simp [h]
  · rw [if_neg h]; simp [tl_length]; omega

theorem awake_f (k : Nat) (hk : 10 < k) : glossatorlaw10_awake.f k = some true := by
  unfold glossatorlaw10_awake.f
  rw [put_f k 0 5 hk (by omega)]
  decide +kernel

theorem least_loop (m x : Int) (x0 : 0 ≤ x) (l : List Int) (hl : (l.length : Int) = need x + 1) : ∀ (d : Nat) (i : Int) (k : Nat), 0 ≤ i → i ≤ need x → need x - i = d → d + 30 < k → glossatorlaw10_HeadLeast.l0 k m x l i = some true := by
  have hc := lv_cases x
  intro d
  induction d with
  | zero =>
    intro i k h0 h1 hd hk
    obtain ⟨k, rfl⟩ : ∃ j, k = j + 1 := ⟨k - 1, by omega⟩
    simp only [glossatorlaw10_HeadLeast.l0]
    rw [hl, show wrap64 (need x + 1 - 1) = need x by unfold wrap64; omega, if_neg (by omega), awake_f k (by omega)]
    rfl
  | succ d ih =>
    intro i k h0 h1 hd hk
    obtain ⟨k, rfl⟩ : ∃ j, k = j + 1 := ⟨k - 1, by omega⟩
    simp only [glossatorlaw10_HeadLeast.l0]
    rw [hl, show wrap64 (need x + 1 - 1) = need x by unfold wrap64; omega, if_pos (by omega), wide_f k m x i (by omega) x0, if_neg (fun hq : mayW m x i => by have := hq.2.2.1; omega)]
    simp only [Option.bind_some, if_true]
    rw [show wrap64 (i + 1) = i + 1 by unfold wrap64; omega]
    exact ih (i + 1) k (by omega) (by omega) (by omega) (by omega)

theorem HeadLeast : glossatorlaw10_HeadLeast.Pure := by
  intro m x hm hx
  have x0 := (wf_u64 hx).1
  refine ⟨60, ?_⟩
  have hc := lv_cases x
  unfold glossatorlaw10_HeadLeast.f
  rw [put_f 60 m x (by omega) x0]
  simp only [Option.bind_some]
  by_cases h : mayH m x
  · rw [if_pos h]
    simp only [if_true]
    have hw : mayW m x (need x) := ⟨h, by omega, by omega, fun _ => rfl⟩
    have hl := hd_length m x (need x) (by omega)
    rw [hl, show wrap64 (need x + 1 - 1) = need x by unfold wrap64; omega, wide_f 60 m x _ (by omega) x0, if_pos hw]
    simp only [Option.bind_some, if_true, bne_self_eq_false, glossatorlaw10_HeadLeast.j0, Bool.false_eq_true, if_false]
    exact least_loop m x x0 _ hl (need x).toNat 0 59 (by omega) (by omega) (by omega) (by omega)
  · rw [if_neg h, awake_f 60 (by omega)]
    rfl

end Go.Proofs.Ytmpengjbjhladaa.Pure
