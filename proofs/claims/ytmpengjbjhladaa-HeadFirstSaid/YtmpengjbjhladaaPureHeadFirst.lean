/- Proved: the pure statement of HeadFirst: a head errs in its first byte or its second, and cut short it is short, for every two slices of bytes. -/
import Derived.Test.YtmpengjbjhladaaPHeadFirstx3
namespace Go.Proofs.Ytmpengjbjhladaa.Pure
open Go.RowKit Go.Proofs.Ytmpengjbjhladaa.PHeadFirst Go.Proofs.YtmpengjbjhladaaW.PrintWords Go.Proofs.YtmpengjbjhladaaW.PrintLast Go.Proofs.YtmpengjbjhladaaW.PrintMore

theorem wf_i64 {n : Int} (h : (Lit.int .i64 n).wf = true) : -9223372036854775808 ≤ n ∧ n ≤ 9223372036854775807 := by
  simp [Lit.wf, IntKind.min, IntKind.max, IntKind.signed, IntKind.bits] at h; omega
theorem wf_u64 {n : Int} (h : (Lit.int .u64 n).wf = true) : 0 ≤ n ∧ n ≤ 18446744073709551615 := by
  simp [Lit.wf, IntKind.min, IntKind.max, IntKind.signed, IntKind.bits] at h; omega

theorem wf_u8 {n : Int} (h : (Lit.int .u8 n).wf = true) : 0 ≤ n ∧ n ≤ 255 := by
  simp [Lit.wf, IntKind.min, IntKind.max, IntKind.signed, IntKind.bits] at h; omega
theorem wrap_u64 (n : Int) : IntKind.u64.wrap n = n % 18446744073709551616 := by simp [IntKind.wrap, IntKind.bits, IntKind.signed]
theorem wraps_u64 (n : Int) (h0 : 0 ≤ n) (h1 : n < 2 ^ 64) : IntKind.u64.wrap n = n := by rw [wrap_u64]; omega
theorem or64 (a c : Int) (a0 : 0 ≤ a) (a1 : a < 72057594037927936) (c0 : 0 ≤ c) (c1 : c < 256) : Go.bits .or .u64 (IntKind.u64.wrap (a * 256)) (IntKind.u64.wrap c) = a * 256 + c := by
  rw [wraps_u64 (a * 256) (by omega) (by omega), wraps_u64 c (by omega) (by omega)]
  exact bits_join .u64 64 (by decide) wraps_u64 8 _ _ (by omega) (by omega) (by omega) c0 (by omega) (by omega)
theorem rd_of (l : List Int) (i : Int) (P : Int → Prop) (h : ∀ x ∈ l, P x) (i0 : 0 ≤ i) (i1 : i < l.length) : P (rd l i) := by
  unfold rd
  have hi : i.toNat < l.length := by omega
  rw [List.getD_eq_getElem?_getD, List.getElem?_eq_getElem hi]
  exact h _ (List.getElem_mem hi)
theorem rd_nat (l : List Int) (j : Nat) (h : j < l.length) : rd l (j : Int) = l[j] := by
  unfold rd
  rw [Int.toNat_natCast, List.getD_eq_getElem?_getD, List.getElem?_eq_getElem h]
  rfl
theorem pow256 (j : Nat) (h : j ≤ 7) : (256 : Int) ^ j ≤ 72057594037927936 := by
  have hj : j = 0 ∨ j = 1 ∨ j = 2 ∨ j = 3 ∨ j = 4 ∨ j = 5 ∨ j = 6 ∨ j = 7 := by omega
  rcases hj with rfl | rfl | rfl | rfl | rfl | rfl | rfl | rfl <;> decide

/-- The bytes of a number, j of them, the highest first. -/
def tl (x : Int) : Nat → List Int
  | 0 => []
  | j + 1 => (shr .u64 x (8 * (j : Int))) % 256 :: tl x j

theorem write_l0 (x : Int) : ∀ (j k : Nat) (acc : List Int), j ≤ 8 → acc.length ≤ 100 - j → j < k → head_write.l0 k x acc ((j : Int) - 1) = some (acc ++ tl x j) := by
  intro j
  induction j with
  | zero =>
    intro k acc _ _ hk
    obtain ⟨k, rfl⟩ : ∃ m, k = m + 1 := ⟨k - 1, by omega⟩
    simp only [head_write.l0]
    rw [if_neg (by omega)]
    simp [tl]
  | succ j ih =>
    intro k acc hj ha hk
    obtain ⟨k, rfl⟩ : ∃ m, k = m + 1 := ⟨k - 1, by omega⟩
    have e1 : ((j + 1 : Nat) : Int) - 1 = (j : Int) := by omega
    have e2 : wrap64 (8 * (j : Int)) = 8 * (j : Int) := by unfold wrap64; omega
    have e3 : wrap64 ((j : Int) - 1) = (j : Int) - 1 := by unfold wrap64; omega
    simp only [head_write.l0]
    rw [e1, e2, e3, if_pos (by omega), if_pos (by omega), if_pos (by omega), ih k _ (by omega) (by simp; omega) (by omega)]
    simp [tl]

/-- A head: of a first byte and s bytes more; s = 0: within it. -/
def hd (m x s : Int) : List Int := if s = 0 then [(m * 32 + x) % 256] else (m * 32 + (if s = 1 then 24 else if s = 2 then 25 else if s = 4 then 26 else 27)) :: tl x s.toNat

theorem or_first (m s : Int) (h0 : 0 ≤ m) (h1 : m ≤ 7) (s0 : 0 ≤ s) (s1 : s ≤ 3) : (wrap64 ((Go.bits .or .i64 (wrap64 (m * 32)) 24) + s)) % 256 = m * 32 + 24 + s ∧ (Go.bits .or .i64 (wrap64 (m * 32)) (24 + s)) % 256 = m * 32 + 24 + s := by
  have hm : m = 0 ∨ m = 1 ∨ m = 2 ∨ m = 3 ∨ m = 4 ∨ m = 5 ∨ m = 6 ∨ m = 7 := by omega
  have hs : s = 0 ∨ s = 1 ∨ s = 2 ∨ s = 3 := by omega
  rcases hm with rfl | rfl | rfl | rfl | rfl | rfl | rfl | rfl <;> rcases hs with rfl | rfl | rfl | rfl <;> decide +kernel

theorem or_small (m x : Int) (h0 : 0 ≤ m) (h1 : m ≤ 7) (s0 : 0 ≤ x) (s1 : x ≤ 23) : Go.bits .or .u8 ((wrap64 (m * 32)) % 256) (x % 256) = m * 32 + x := by
  have hm : m = 0 ∨ m = 1 ∨ m = 2 ∨ m = 3 ∨ m = 4 ∨ m = 5 ∨ m = 6 ∨ m = 7 := by omega
  have e1 : wrap64 (m * 32) % 256 = m * 32 := by unfold wrap64; omega
  have e2 : x % 256 = x := by omega
  rw [e1, e2]
  refine bits_join .u8 8 (by decide) wraps_u8 5 _ _ (by omega) (by omega) (by omega) s0 (by omega) (by omega)

theorem write_f (k : Nat) (m x s : Int) (hk : 10 < k) (h0 : 0 ≤ m) (h1 : m ≤ 7) (s0 : 0 ≤ s) (s1 : s ≤ 3) : head_write.f k m x s = some (hd m x (2 ^ s.toNat)) := by
  have hs : s = 0 ∨ s = 1 ∨ s = 2 ∨ s = 3 := by omega
  have e := (or_first m s h0 h1 s0 s1).1
  unfold head_write.f
  rw [if_neg (by omega), if_pos s0, e]
  rcases hs with rfl | rfl | rfl | rfl
  · rw [show wrap64 ((shl .i64 1 0) - 1) = ((1 : Nat) : Int) - 1 by decide +kernel, write_l0 x 1 k _ (by omega) (by simp) (by omega)]; simp [hd, tl]
  · rw [show wrap64 ((shl .i64 1 1) - 1) = ((2 : Nat) : Int) - 1 by decide +kernel, write_l0 x 2 k _ (by omega) (by simp) (by omega)]; simp [hd, tl]; omega
  · rw [show wrap64 ((shl .i64 1 2) - 1) = ((4 : Nat) : Int) - 1 by decide +kernel, write_l0 x 4 k _ (by omega) (by simp) (by omega)]; simp [hd, tl]; omega
  · rw [show wrap64 ((shl .i64 1 3) - 1) = ((8 : Nat) : Int) - 1 by decide +kernel, write_l0 x 8 k _ (by omega) (by simp) (by omega)]; simp [hd, tl]; omega

theorem write_in (k : Nat) (m x : Int) (h0 : 0 ≤ m) (h1 : m ≤ 7) (x0 : 0 ≤ x) (x1 : x ≤ 23) : head_write.f k m x 4 = some (hd m x 0) := by
  unfold head_write.f
  rw [if_pos rfl, or_small m x h0 h1 x0 x1]
  have : (m * 32 + x) % 256 = m * 32 + x := by omega
  simp [hd, this]

/-- May a head be written, with so many bytes behind the first (-1: the fewest)? -/
def mayH (m x : Int) : Prop := 0 ≤ m ∧ m ≤ 7 ∧ (m = 7 → x < 24 ∨ (32 ≤ x ∧ x ≤ 255))
def need (x : Int) : Int := if x < 24 then 0 else if x < 256 then 1 else if x < 65536 then 2 else if x < 4294967296 then 4 else 8
instance (m x : Int) : Decidable (mayH m x) := by unfold mayH; infer_instance
def mayW (m x s : Int) : Prop := mayH m x ∧ (s = 0 ∨ s = 1 ∨ s = 2 ∨ s = 4 ∨ s = 8) ∧ need x ≤ s ∧ (m = 7 → s = need x)
instance (m x s : Int) : Decidable (mayW m x s) := by unfold mayW; infer_instance

theorem dec_t {p : Prop} [Decidable p] (h : p) : some true = some (decide p) := by rw [decide_eq_true h]
theorem dec_f {p : Prop} [Decidable p] (h : ¬ p) : some false = some (decide p) := by rw [decide_eq_false h]
theorem may_f (m x : Int) (x0 : 0 ≤ x) : head_may.f m x = some (decide (mayH m x)) := by
  unfold head_may.f mayH
  by_cases h1 : m < 0
  · rw [if_pos h1]; exact dec_f (by omega)
  · rw [if_neg h1]
    by_cases h2 : m > 7
    · rw [if_pos h2]; exact dec_f (by omega)
    · rw [if_neg h2]
      by_cases h3 : m = 7
      · rw [if_pos h3]
        by_cases h4 : x < 24
        · rw [if_pos h4]; exact dec_t (by omega)
        · rw [if_neg h4]
          by_cases h5 : x > 31
          · rw [if_pos h5]
            by_cases h6 : x / 256 = 0
            · rw [beq_iff_eq.mpr h6]; exact dec_t (by omega)
            · rw [beq_eq_false_iff_ne.mpr h6]; exact dec_f (by omega)
          · rw [if_neg h5]; exact dec_f (by omega)
      · rw [if_neg h3]; exact dec_t (by omega)

/-- The program's word for a size. -/
def lv (x : Int) : Int := if x < 24 then 4 else if x < 256 then 0 else if x < 65536 then 1 else if x < 4294967296 then 2 else 3
theorem size_f (x : Int) (x0 : 0 ≤ x) : head_size.f x = some (lv x) := by
  unfold head_size.f lv
  have e1 : x / 256 = 0 ↔ x < 256 := by omega
  have e2 : x / 65536 = 0 ↔ x < 65536 := by omega
  have e3 : x / 4294967296 = 0 ↔ x < 4294967296 := by omega
  simp only [e1, e2, e3]
  repeat' split
  all_goals rfl

theorem put_f (k : Nat) (m x : Int) (hk : 10 < k) (x0 : 0 ≤ x) : head_Put.f k m x = some (if mayH m x then (hd m x (need x), 0) else ([], 1)) := by
  unfold head_Put.f
  rw [may_f m x x0]
  simp only [Option.bind_some]
  by_cases h : mayH m x
  · rw [if_pos h, if_pos (by simpa using h), size_f x x0]
    simp only [Option.bind_some]
    obtain ⟨h0, h1, _⟩ := h
    by_cases a1 : x < 24
    · simp only [lv, need, if_pos a1]; rw [write_in k m x h0 h1 x0 (by omega)]; rfl
    · by_cases a2 : x < 256
      · simp only [lv, need, if_neg a1, if_pos a2]; rw [write_f k m x 0 hk h0 h1 (by omega) (by omega)]; rfl
      · by_cases a3 : x < 65536
        · simp only [lv, need, if_neg a1, if_neg a2, if_pos a3]; rw [write_f k m x 1 hk h0 h1 (by omega) (by omega)]; rfl
        · by_cases a4 : x < 4294967296
          · simp only [lv, need, if_neg a1, if_neg a2, if_neg a3, if_pos a4]; rw [write_f k m x 2 hk h0 h1 (by omega) (by omega)]; rfl
          · simp only [lv, need, if_neg a1, if_neg a2, if_neg a3, if_neg a4]; rw [write_f k m x 3 hk h0 h1 (by omega) (by omega)]; rfl
  · rw [if_neg h, if_neg (by simpa using h)]

theorem lv_cases (x : Int) : (x < 24 ∧ lv x = 4 ∧ need x = 0) ∨ (24 ≤ x ∧ x < 256 ∧ lv x = 0 ∧ need x = 1) ∨ (256 ≤ x ∧ x < 65536 ∧ lv x = 1 ∧ need x = 2) ∨ (65536 ≤ x ∧ x < 4294967296 ∧ lv x = 2 ∧ need x = 4) ∨ (4294967296 ≤ x ∧ lv x = 3 ∧ need x = 8) := by
  unfold lv need
  repeat' split
  all_goals omega

theorem tl_length (x : Int) (j : Nat) : (tl x j).length = j := by
  induction j with
  | zero => rfl
  | succ j ih => simp [tl, ih]
theorem hd_length (m x s : Int) (s0 : 0 ≤ s) : ((hd m x s).length : Int) = s + 1 := by
  unfold hd
  by_cases h : s = 0
  · rw [if_pos h]; simp [h]
  · rw [if_neg h]; simp [tl_length]; omega

theorem awake_f (k : Nat) (hk : 10 < k) : glossatorlaw10_awake.f k = some true := by
  unfold glossatorlaw10_awake.f
  rw [put_f k 0 5 hk (by omega)]
  decide +kernel

/-- The number of bytes, behind a number. -/
def be : Int → List Int → Int
  | a, [] => a
  | a, c :: l => be (a * 256 + c) l

def getM (b : List Int) : Int × Int × Int × Int × Int :=
  if b.length = 0 then (0, 0, 0, 0, 3)
  else if rd b 0 % 32 < 24 then (rd b 0 / 32, rd b 0 % 32, rd b 0 % 32, 1, 0)
  else if rd b 0 % 32 = 31 ∧ rd b 0 / 32 > 1 ∧ rd b 0 / 32 ≠ 6 then (rd b 0 / 32, rd b 0 % 32, 0, 1, 0)
  else if rd b 0 % 32 > 27 then (0, 0, 0, 0, 4)
  else if rd b 0 / 32 = 7 ∧ rd b 0 % 32 = 24 ∧ (b.length : Int) > 1 ∧ rd b 1 ≤ 31 then (0, 0, 0, 1, 4)
  else if (b.length : Int) ≤ 2 ^ (rd b 0 % 32 - 24).toNat then (0, 0, 0, (b.length : Int), 3)
  else (rd b 0 / 32, rd b 0 % 32, be 0 ((b.take ((2 : Int) ^ (rd b 0 % 32 - 24).toNat + 1).toNat).drop 1), 2 ^ (rd b 0 % 32 - 24).toNat + 1, 0)

theorem get_l0 (m i n : Int) (xs : List Int) (hb : ∀ x ∈ xs, 0 ≤ x ∧ x ≤ 255) (hn : 0 ≤ n ∧ n ≤ 8) : ∀ (d j k : Nat) (acc : Int), j + d = xs.length → j + d ≤ 8 → 0 ≤ acc → acc < 256 ^ j → d < k → head_Get.l0 k m i n acc xs (xs.length : Int) (j : Int) = some (m, i, be acc (xs.drop j), n + 1, 0) := by
  intro d
  induction d with
  | zero =>
    intro j k acc hj h8 a0 a1 hk
    obtain ⟨k, rfl⟩ : ∃ m, k = m + 1 := ⟨k - 1, by omega⟩
    simp only [head_Get.l0]
    rw [if_neg (by omega), List.drop_eq_nil_of_le (by omega), show wrap64 (n + 1) = n + 1 by unfold wrap64; omega]
    rfl
  | succ d ih =>
    intro j k acc hj h8 a0 a1 hk
    obtain ⟨k, rfl⟩ : ∃ m, k = m + 1 := ⟨k - 1, by omega⟩
    simp only [head_Get.l0]
    have hlt : j < xs.length := by omega
    have hp : (256 : Int) ^ j ≤ 72057594037927936 := pow256 j (by omega)
    have hx := hb _ (List.getElem_mem hlt)
    rw [if_pos (by omega), if_pos (by omega), if_pos (by omega), rd_nat xs j hlt, or64 acc _ a0 (by omega) hx.1 (by omega), show wrap64 ((j : Int) + 1) = ((j + 1 : Nat) : Int) by unfold wrap64; omega]
    rw [ih (j + 1) k _ (by omega) (by omega) (by omega) (by rw [Int.pow_succ]; omega) (by omega), List.drop_eq_getElem_cons hlt]
    rfl

theorem head_get (k : Nat) (b : List Int) (hb : ∀ x ∈ b, 0 ≤ x ∧ x ≤ 255) (hk : 20 < k) : head_Get.f k b = some (getM b) := by
  unfold head_Get.f getM
  by_cases h0 : b.length = 0
  · rw [if_pos (by omega), if_pos h0]
  · rw [if_neg (by omega), if_neg h0, if_pos (by omega)]
    have hr := rd_of b 0 _ hb (by omega) (by omega)
    rw [u8_and31 _ hr.1 (by omega)]
    generalize hx : rd b 0 = x at hr ⊢
    rw [show wrap64 (x % 32) = x % 32 by unfold wrap64; omega, show wrap64 (x / 32) = x / 32 by unfold wrap64; omega, show IntKind.u64.wrap (x % 32) = x % 32 by rw [wrap_u64]; omega]
    by_cases h1 : x % 32 < 24
    · rw [if_pos h1, if_pos h1]
    · rw [if_neg h1, if_neg h1]
      have key : ∀ c : Bool, (c = true ↔ x % 32 = 31 ∧ x / 32 > 1 ∧ x / 32 ≠ 6) → head_Get.j0 k b (x / 32) (x % 32) c = some (if x % 32 = 31 ∧ x / 32 > 1 ∧ x / 32 ≠ 6 then (x / 32, x % 32, 0, 1, 0)
          else if x % 32 > 27 then (0, 0, 0, 0, 4)
          else if x / 32 = 7 ∧ x % 32 = 24 ∧ (b.length : Int) > 1 ∧ rd b 1 ≤ 31 then (0, 0, 0, 1, 4)
          else if (b.length : Int) ≤ 2 ^ (x % 32 - 24).toNat then (0, 0, 0, (b.length : Int), 3)
          else (x / 32, x % 32, be 0 ((b.take ((2 : Int) ^ (x % 32 - 24).toNat + 1).toNat).drop 1), 2 ^ (x % 32 - 24).toNat + 1, 0)) := by
        intro c hc
        obtain ⟨k, rfl⟩ : ∃ j, k = j + 2 := ⟨k - 2, by omega⟩
        simp only [head_Get.j0]
        by_cases c1 : c = true
        · rw [if_pos c1, if_pos (hc.1 c1)]
        · rw [if_neg c1, if_neg (fun hq => c1 (hc.2 hq))]
          by_cases h2 : x % 32 > 27
          · rw [if_pos h2, if_pos h2]
          · rw [if_neg h2, if_neg h2]
            have hj1 : head_Get.j1 (k + 1) b (x / 32) (x % 32) = some (if (b.length : Int) ≤ 2 ^ (x % 32 - 24).toNat then (0, 0, 0, (b.length : Int), 3)
                else (x / 32, x % 32, be 0 ((b.take ((2 : Int) ^ (x % 32 - 24).toNat + 1).toNat).drop 1), 2 ^ (x % 32 - 24).toNat + 1, 0)) := by
              simp only [head_Get.j1]
              have hn : (shl .i64 1 (wrap64 (x % 32 - 24))) = 2 ^ (x % 32 - 24).toNat ∧ (2 : Int) ^ (x % 32 - 24).toNat ≤ 8 ∧ (1 : Int) ≤ 2 ^ (x % 32 - 24).toNat := by
                have hcs : x % 32 - 24 = 0 ∨ x % 32 - 24 = 1 ∨ x % 32 - 24 = 2 ∨ x % 32 - 24 = 3 := by omega
                rcases hcs with e | e | e | e <;> rw [e] <;> decide +kernel
              rw [if_pos (show 0 ≤ wrap64 (x % 32 - 24) by unfold wrap64; omega), hn.1]
              generalize (2 : Int) ^ (x % 32 - 24).toNat = n at hn ⊢
              by_cases h3 : (b.length : Int) ≤ n
              · rw [if_pos h3, if_pos h3]
              · rw [if_neg h3, if_neg h3, show wrap64 (n + 1) = n + 1 by unfold wrap64; omega, if_pos (by omega), if_pos (by omega)]
                have hl : ((b.take (n + 1).toNat).drop 1).length = n.toNat := by rw [List.length_drop, List.length_take]; omega
                have := get_l0 (x / 32) (x % 32) n ((b.take (n + 1).toNat).drop 1) (fun y hy => hb y (List.mem_of_mem_take (List.mem_of_mem_drop hy))) (by omega) n.toNat 0 k 0 (by omega) (by omega) (by omega) (by decide) (by omega)
                rw [List.drop_zero] at this
                exact this
            by_cases h7 : x / 32 = 7
            · rw [if_pos h7]
              by_cases h24 : x % 32 = 24
              · rw [if_pos h24]
                by_cases hlen : (b.length : Int) > 1
                · rw [if_pos hlen, if_pos hlen]
                  by_cases h31 : rd b 1 ≤ 31
                  · rw [if_pos h31, if_pos ⟨h7, h24, hlen, h31⟩]
                  · rw [if_neg h31, if_neg (fun hq => h31 hq.2.2.2), hj1]
                · rw [if_neg hlen, if_neg (fun hq => hlen hq.2.2.1), hj1]
              · rw [if_neg h24, if_neg (fun hq => h24 hq.2.1), hj1]
            · rw [if_neg h7, if_neg (fun hq => h7 hq.1), hj1]
      by_cases h31 : x % 32 = 31
      · rw [if_pos h31]
        by_cases hm : x / 32 > 1
        · rw [if_pos hm]; exact key _ (by simp [h31, hm])
        · rw [if_neg hm]; exact key _ (by simp [hm])
      · rw [if_neg h31]; exact key _ (by simp [h31])

theorem rd_app (b m : List Int) (i : Int) (h0 : 0 ≤ i) (h1 : i < b.length) : rd (b ++ m) i = rd b i := by
  unfold rd
  rw [List.getD_eq_getElem?_getD, List.getD_eq_getElem?_getD, List.getElem?_append_left (by omega)]
theorem rd_take (b : List Int) (j : Nat) (i : Int) (h0 : 0 ≤ i) (h1 : i < j) : rd (b.take j) i = rd b i := by
  unfold rd
  rw [List.getD_eq_getElem?_getD, List.getD_eq_getElem?_getD, List.getElem?_take, if_pos (by omega)]

theorem pow_cases (i : Int) (h0 : 24 ≤ i) (h1 : i ≤ 27) : (i = 24 ∧ (2 : Int) ^ (i - 24).toNat = 1) ∨ (i = 25 ∧ (2 : Int) ^ (i - 24).toNat = 2) ∨ (i = 26 ∧ (2 : Int) ^ (i - 24).toNat = 4) ∨ (i = 27 ∧ (2 : Int) ^ (i - 24).toNat = 8) := by
  have : i = 24 ∨ i = 25 ∨ i = 26 ∨ i = 27 := by omega
  rcases this with rfl | rfl | rfl | rfl <;> decide

/-- What is known of what is read. -/
theorem get_ways (b : List Int) (hb : ∀ x ∈ b, 0 ≤ x ∧ x ≤ 255) :
    ((getM b).2.2.2.2 = 3 ∧ (getM b).2.2.2.1 = b.length ∧ (b.length : Int) < 9) ∨
    ((getM b).2.2.2.2 = 4 ∧ (getM b).2.2.2.1 = 0 ∧ 0 < b.length ∧ ∀ c : List Int, 0 < c.length → rd c 0 = rd b 0 → (getM c).2.2.2.1 = 0 ∧ (getM c).2.2.2.2 = 4) ∨
    ((getM b).2.2.2.2 = 4 ∧ (getM b).2.2.2.1 = 1 ∧ 1 < b.length ∧ ∀ c : List Int, 1 < c.length → rd c 0 = rd b 0 → rd c 1 = rd b 1 → (getM c).2.2.2.1 = 1 ∧ (getM c).2.2.2.2 = 4) ∨
    ((getM b).2.2.2.2 = 0 ∧ 1 ≤ (getM b).2.2.2.1 ∧ (getM b).2.2.2.1 ≤ b.length ∧ ∀ c : List Int, (c.length : Int) = (getM b).2.2.2.1 - 1 → (0 < c.length → rd c 0 = rd b 0) → (getM c).2.2.2.1 = (getM b).2.2.2.1 - 1 ∧ (getM c).2.2.2.2 = 3) := by
  by_cases h0 : b.length = 0
  · refine .inl ?_
    unfold getM
    rw [if_pos h0]
    exact ⟨rfl, by simp [h0], by omega⟩
  · have hr := rd_of b 0 _ hb (by omega) (by omega)
    by_cases h1 : rd b 0 % 32 < 24
    · refine .inr (.inr (.inr ?_))
      have e : getM b = (rd b 0 / 32, rd b 0 % 32, rd b 0 % 32, 1, 0) := by unfold getM; rw [if_neg h0, if_pos h1]
      rw [e]
      refine ⟨rfl, Int.le_refl 1, by simp only; omega, fun c hc _ => ?_⟩
      have hc0 : c.length = 0 := by simp only at hc; omega
      unfold getM
      rw [if_pos hc0]
      exact ⟨rfl, rfl⟩
    · by_cases h2 : rd b 0 % 32 = 31 ∧ rd b 0 / 32 > 1 ∧ rd b 0 / 32 ≠ 6
      · refine .inr (.inr (.inr ?_))
        have e : getM b = (rd b 0 / 32, rd b 0 % 32, 0, 1, 0) := by unfold getM; rw [if_neg h0, if_neg h1, if_pos h2]
        rw [e]
        refine ⟨rfl, Int.le_refl 1, by simp only; omega, fun c hc _ => ?_⟩
        have hc0 : c.length = 0 := by simp only at hc; omega
        unfold getM
        rw [if_pos hc0]
        exact ⟨rfl, rfl⟩
      · by_cases h3 : rd b 0 % 32 > 27
        · refine .inr (.inl ?_)
          have e : ∀ c : List Int, 0 < c.length → rd c 0 = rd b 0 → getM c = (0, 0, 0, 0, 4) := by
            intro c hc hq
            unfold getM
            rw [hq, if_neg (by omega), if_neg h1, if_neg h2, if_pos h3]
          rw [e b (by omega) rfl]
          exact ⟨rfl, rfl, by omega, fun c hc hq => by rw [e c hc hq]; exact ⟨rfl, rfl⟩⟩
        · by_cases h4 : rd b 0 / 32 = 7 ∧ rd b 0 % 32 = 24 ∧ (b.length : Int) > 1 ∧ rd b 1 ≤ 31
          · refine .inr (.inr (.inl ?_))
            have e : ∀ c : List Int, 1 < c.length → rd c 0 = rd b 0 → rd c 1 = rd b 1 → getM c = (0, 0, 0, 1, 4) := by
              intro c hc hq hq1
              unfold getM
              rw [hq, hq1, if_neg (by omega), if_neg h1, if_neg h2, if_neg h3, if_pos ⟨h4.1, h4.2.1, by omega, h4.2.2.2⟩]
            rw [e b (by omega) rfl rfl]
            exact ⟨rfl, rfl, by omega, fun c hc hq hq1 => by rw [e c hc hq hq1]; exact ⟨rfl, rfl⟩⟩
          · have hp := pow_cases (rd b 0 % 32) (by omega) (by omega)
            by_cases h5 : (b.length : Int) ≤ 2 ^ (rd b 0 % 32 - 24).toNat
            · refine .inl ?_
              have e : getM b = (0, 0, 0, (b.length : Int), 3) := by unfold getM; rw [if_neg h0, if_neg h1, if_neg h2, if_neg h3, if_neg h4, if_pos h5]
              rw [e]
              exact ⟨rfl, rfl, by omega⟩
            · refine .inr (.inr (.inr ?_))
              have e : getM b = (rd b 0 / 32, rd b 0 % 32, be 0 ((b.take ((2 : Int) ^ (rd b 0 % 32 - 24).toNat + 1).toNat).drop 1), 2 ^ (rd b 0 % 32 - 24).toNat + 1, 0) := by
                unfold getM; rw [if_neg h0, if_neg h1, if_neg h2, if_neg h3, if_neg h4, if_neg h5]
              rw [e]
              refine ⟨rfl, by simp only; omega, by simp only; omega, fun c hc hq => ?_⟩
              simp only at hc ⊢
              have hc0 : 0 < c.length := by omega
              have e2 : getM c = (0, 0, 0, (c.length : Int), 3) := by
                unfold getM
                rw [hq hc0, if_neg (by omega), if_neg h1, if_neg h2, if_neg h3, if_neg (fun hz => by have := hz.2.2.1; have := hz.2.1; omega), if_pos (by omega)]
              rw [e2]
              exact ⟨by simp only; omega, rfl⟩

theorem HeadFirst : glossatorlaw10_HeadFirst.Pure := by
  intro b m hm hz hw hm1 hz1 hw1
  have hb : ∀ x ∈ b, 0 ≤ x ∧ x ≤ 255 := fun x hx => wf_u8 (hw x hx)
  have hbm : ∀ x ∈ m, 0 ≤ x ∧ x ≤ 255 := fun x hx => wf_u8 (hw1 x hx)
  refine ⟨40, ?_⟩
  unfold glossatorlaw10_HeadFirst.f
  rw [head_get 40 b hb (by omega)]
  simp only [Option.bind_some, List.nil_append, List.length_nil, Nat.zero_add]
  have happ : ∀ (j : Nat), ∀ x ∈ b.take j ++ m, 0 ≤ x ∧ x ≤ 255 := by
    intro j x hx
    rcases List.mem_append.1 hx with h | h
    · exact hb x (List.mem_of_mem_take h)
    · exact hbm x h
  rcases get_ways b hb with ⟨h3, hp, hl⟩ | ⟨h4, hp, hl, hc⟩ | ⟨h4, hp, hl, hc⟩ | ⟨h0, hp, hl, hc⟩
  · rw [if_pos h3, if_pos hp, if_pos (by omega), awake_f 40 (by omega)]
    rfl
  · rw [h4, hp, if_neg (by decide), if_pos rfl, if_neg (by omega), if_neg (by omega), if_neg (by omega), show wrap64 ((0 : Int) + 1) = 1 by decide +kernel, if_pos (by omega), if_pos (by omega), if_pos (by rw [List.length_take]; omega), if_pos (by rw [List.length_take]; omega)]
    rw [head_get 40 _ (happ _) (by omega)]
    obtain ⟨q1, q2⟩ := hc (b.take (1 : Int).toNat ++ m) (by rw [List.length_append, List.length_take]; omega) (by rw [rd_app _ _ 0 (by omega) (by rw [List.length_take]; omega), rd_take _ _ 0 (by omega) (by decide)])
    simp only [Option.bind_some]
    rw [if_pos q1, q2]
    rfl
  · rw [h4, hp, if_neg (by decide), if_pos rfl, if_neg (by omega), if_neg (by omega), if_neg (by omega), show wrap64 ((1 : Int) + 1) = 2 by decide +kernel, if_pos (by omega), if_pos (by omega), if_pos (by rw [List.length_take]; omega), if_pos (by rw [List.length_take]; omega)]
    rw [head_get 40 _ (happ _) (by omega)]
    obtain ⟨q1, q2⟩ := hc (b.take (2 : Int).toNat ++ m) (by rw [List.length_append, List.length_take]; omega) (by rw [rd_app _ _ 0 (by omega) (by rw [List.length_take]; omega), rd_take _ _ 0 (by omega) (by decide)]) (by rw [rd_app _ _ 1 (by omega) (by rw [List.length_take]; omega), rd_take _ _ 1 (by omega) (by decide)])
    simp only [Option.bind_some]
    rw [if_pos q1, q2]
    rfl
  · rw [h0, if_neg (by decide), if_neg (by decide), if_pos rfl, if_neg (by omega), decide_eq_false (by omega)]
    simp only [glossatorlaw10_HeadFirst.j0]
    rw [if_neg (by simp), show wrap64 ((getM b).2.2.2.1 - 1) = (getM b).2.2.2.1 - 1 by unfold wrap64; unfold maxLen at hm; omega, if_pos (by omega), if_pos (by omega)]
    rw [head_get 39 _ (fun x hx => hb x (List.mem_of_mem_take hx)) (by omega)]
    obtain ⟨q1, q2⟩ := hc (b.take ((getM b).2.2.2.1 - 1).toNat) (by rw [List.length_take]; omega) (fun h => rd_take _ _ 0 (by omega) (by rw [List.length_take] at h; omega))
    simp only [Option.bind_some]
    rw [if_pos q1, if_pos q2, awake_f 39 (by omega)]
    rfl

end Go.Proofs.Ytmpengjbjhladaa.Pure
