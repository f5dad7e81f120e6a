/- Proved: the pure statement of CborFloats: a float is its first byte and its bits, the highest first, of whatever width. -/
import Derived.Test.YtlbdjjiblhdpmaaPCborFloatsx4
import Derived.Test.YtlbdjjiblhdpmaaUtf
namespace Go.Proofs.Ytlbdjjiblhdpmaa.Pure
open Go.RowKit Go.Proofs.Ytlbdjjiblhdpmaa.PCborFloats Go.Proofs.YtlbdjjiblhdpmaaW.PrintWords Go.Proofs.YtlbdjjiblhdpmaaW.PrintLast Go.Proofs.YtlbdjjiblhdpmaaW.PrintMore

theorem Ev.pos {α : Type} {c : Prop} [Decidable c] {f g : Nat → Option α} {r : α} (h : c) (k : Ev f r) : Ev (fun n => if c then f n else g n) r := Ev.congr (fun _ => if_pos h) k
theorem Ev.neg {α : Type} {c : Prop} [Decidable c] {f g : Nat → Option α} {r : α} (h : ¬ c) (k : Ev g r) : Ev (fun n => if c then f n else g n) r := Ev.congr (fun _ => if_neg h) k
theorem Ev.const {α : Type} {x : Option α} {r : α} (h : x = some r) : Ev (fun _ => x) r := ⟨0, fun _ _ => h⟩
theorem Ev.pre {α β : Type} {x : Option α} {a : α} {f : Nat → α → Option β} {r : β} (h : x = some a) (k : Ev (fun n => f n a) r) : Ev (fun n => x.bind (f n)) r := Ev.congr (fun _ => by rw [h]; rfl) k
theorem Ev.res {α : Type} {g : Nat → Option α} {r r' : α} (k : Ev g r') (e : r' = r) : Ev g r := e ▸ k
theorem wrap_id {x : Int} (h0 : -9223372036854775808 ≤ x) (h1 : x ≤ 9223372036854775807) : wrap64 x = x := by unfold wrap64; omega

theorem wf_i64 {n : Int} (h : (Lit.int .i64 n).wf = true) : -9223372036854775808 ≤ n ∧ n ≤ 9223372036854775807 := by
  simp [Lit.wf, IntKind.min, IntKind.max, IntKind.signed, IntKind.bits] at h; omega
theorem wf_u64 {n : Int} (h : (Lit.int .u64 n).wf = true) : 0 ≤ n ∧ n ≤ 18446744073709551615 := by
  simp [Lit.wf, IntKind.min, IntKind.max, IntKind.signed, IntKind.bits] at h; omega

theorem wf_u8 {n : Int} (h : (Lit.int .u8 n).wf = true) : 0 ≤ n ∧ n ≤ 255 := by
  simp [Lit.wf, IntKind.min, IntKind.max, IntKind.signed, IntKind.bits] at h; omega
theorem wrap_u64 (n : Int) : IntKind.u64.wrap n = n % 18446744073709551616 := by simp [IntKind.wrap, IntKind.bits, IntKind.signed]
theorem wraps_u64 (n : Int) (h0 : 0 ≤ n) (h1 : n < 2 ^ 64) : IntKind.u64.wrap n = n := by rw [wrap_u64]; omega
theorem or64 (a c : Int) (a0 : 0 ≤ a) (a1 : a < 72057594037927936) (c0 : 0 ≤ c) (c1 : c < 256) : Go.bits .or .u64 (IntKind.u64.wrap (a * 256)) (IntKind.u64.wrap c) = a * 256 + c := by
  rw [wraps_u64 (a * 256) (by omega) (by omega), wraps_u64 c (by omega) (by omega)]
  exact bits_join .u64 64 (by decide) wraps_u64 8 _ _ (by omega) (by omega) (by omega) c0 (by omega) (by omega)
theorem rd_of (l : List Int) (i : Int) (P : Int → Prop) (h : ∀ x ∈ l, P x) (i0 : 0 ≤ i) (i1 : i < l.length) : P (rd l i) := by
  unfold rd
  have hi : i.toNat < l.length := by omega
  rw [List.getD_eq_getElem?_getD, List.getElem?_eq_getElem hi]
  exact h _ (List.getElem_mem hi)
theorem rd_nat (l : List Int) (j : Nat) (h : j < l.length) : rd l (j : Int) = l[j] := by
  unfold rd
  rw [Int.toNat_natCast, List.getD_eq_getElem?_getD, List.getElem?_eq_getElem h]
  rfl
theorem pow256 (j : Nat) (h : j ≤ 7) : (256 : Int) ^ j ≤ 72057594037927936 := by
  have hj : j = 0 ∨ j = 1 ∨ j = 2 ∨ j = 3 ∨ j = 4 ∨ j = 5 ∨ j = 6 ∨ j = 7 := by omega
  rcases hj with rfl | rfl | rfl | rfl | rfl | rfl | rfl | rfl <;> decide

theorem mask64 (i : Nat) (hi : i ≤ 64) {m x : Int} (hm : m = 2 ^ i - 1) (h0 : 0 ≤ x) (h1 : x < 18446744073709551616) : Go.bits .and .u64 x m = x % 2 ^ i := by
  rw [hm]; exact bits_mask .u64 64 (by decide) wraps_u64 i hi x h0 h1

mutual
/-- Within its types' bounds (as the rows over any data tell it). -/
def wfS25 : S25 → Prop
  | ⟨f0, f1, f2, f3, f4⟩ => (fun n => (Lit.int .i64 n).wf = true) f0 ∧ (fun _ => True) f1 ∧ (fun n => (Lit.int .u64 n).wf = true) f2 ∧ (fun s => s.size ≤ 140737488351232) f3 ∧ (f4.length * 64 ≤ 140737488351232 ∧ wfL25 f4)
def wfL25 : List S25 → Prop
  | [] => True
  | x :: l => wfS25 x ∧ wfL25 l
end
mutual
/-- How many values and letters it holds. -/
def szS25 : S25 → Nat
  | ⟨f0, f1, f2, f3, f4⟩ => (fun _ => 1) f0 + (fun _ => 1) f1 + (fun _ => 1) f2 + (fun s => s.size + 1) f3 + (szL25 f4 + 1) + 1
def szL25 : List S25 → Nat
  | [] => 0
  | x :: l => szS25 x + szL25 l
end
theorem wfL25_iff : ∀ l : List S25, wfL25 l ↔ ∀ x ∈ l, wfS25 x
  | [] => ⟨fun _ x h => (nomatch h), fun _ => trivial⟩
  | y :: l => by
    simp only [wfL25, wfL25_iff l, List.mem_cons, forall_eq_or_imp]

theorem wf_kids {f0 : Int} {f1 : Bool} {f2 : Int} {f3 : ByteArray} {l : List S25} (h : wfS25 ⟨f0, f1, f2, f3, l⟩) : l.length * 64 ≤ 140737488351232 ∧ ∀ y ∈ l, wfS25 y := by
  simp only [wfS25] at h
  exact ⟨h.2.2.2.2.1, (wfL25_iff _).1 h.2.2.2.2.2⟩
theorem rdT_get (xs : List S25) (j : Nat) (h : j < xs.length) : rd_T25 xs (j : Int) = xs[j] := by
  simp [rd_T25, List.getElem?_eq_getElem h]
theorem dep_kid {f0 : Int} {f1 : Bool} {f2 : Int} {f3 : ByteArray} {l : List S25} {y : S25} (h : y ∈ l) : dep25 y < dep25 ⟨f0, f1, f2, f3, l⟩ := by
  have := dep25_mem l y h; simp only [dep25]; omega

mutual
/-- How many values a tree has. -/
def cnt : S25 → Nat
  | ⟨_, _, _, _, l⟩ => cntL l + 1
def cntL : List S25 → Nat
  | [] => 0
  | x :: l => cnt x + cntL l
end
mutual
/-- A tree's values, each ahead of those within it. -/
def subs : S25 → List S25
  | ⟨a, b, c, d, l⟩ => ⟨a, b, c, d, l⟩ :: subsL l
def subsL : List S25 → List S25
  | [] => []
  | x :: l => subs x ++ subsL l
end
mutual
theorem subs_len : ∀ x : S25, (subs x).length = cnt x
  | ⟨a, b, c, d, l⟩ => by simp only [subs, cnt, List.length_cons, subsL_len l]
theorem subsL_len : ∀ l : List S25, (subsL l).length = cntL l
  | [] => rfl
  | x :: l => by simp only [subsL, cntL, List.length_append, subs_len x, subsL_len l]
end
theorem nodesL_subs (f : List Int → S25 → List (List Int × S25)) (p : List Int) : ∀ (l : List S25) (i : Nat), (∀ y ∈ l, ∀ q, (f q y).map (·.2) = subs y) → (Each.Tree.nodesL f p l i).map (·.2) = subsL l
  | [], _, _ => rfl
  | y :: l, i, h => by simp only [Each.Tree.nodesL, List.map_append, subsL, h y (by simp), nodesL_subs f p l (i + 1) (fun z hz => h z (by simp [hz]))]
theorem nodes_subs : ∀ (m : Nat) (x : S25) (p : List Int), dep25 x < m → (T25.nodes m p x).map (·.2) = subs x := by
  intro m
  induction m with
  | zero => intro x p h; omega
  | succ m ih =>
    rintro ⟨a, b, c, d, l⟩ p h
    have e : T25.nodes (m + 1) p ⟨a, b, c, d, l⟩ = (p, ⟨a, b, c, d, l⟩) :: Each.Tree.nodesL (T25.nodes m) p l 0 := rfl
    rw [e, List.map_cons, nodesL_subs _ _ _ _ (fun y hy q => ih y q (by have := dep_kid (f0 := a) (f1 := b) (f2 := c) (f3 := d) hy; omega))]
    rfl
theorem nodes_len (x : S25) (p : List Int) : (T25.nodes (dep25 x + 1) p x).length = cnt x := by
  rw [← subs_len, ← nodes_subs _ x p (Nat.lt_succ_self _), List.length_map]
mutual
theorem dep_sz : ∀ x : S25, dep25 x ≤ szS25 x
  | ⟨a, b, c, d, l⟩ => by have := depL_sz l; simp only [dep25, szS25]; omega
theorem depL_sz : ∀ l : List S25, depL25 l ≤ szL25 l
  | [] => Nat.le_refl _
  | x :: l => by have := dep_sz x; have := depL_sz l; simp only [depL25, szL25]; omega
end
mutual
theorem cnt_sz : ∀ x : S25, cnt x ≤ szS25 x
  | ⟨a, b, c, d, l⟩ => by have := cntL_sz l; simp only [cnt, szS25]; omega
theorem cntL_sz : ∀ l : List S25, cntL l ≤ szL25 l
  | [] => Nat.le_refl _
  | x :: l => by have := cnt_sz x; have := cntL_sz l; simp only [cntL, szL25]; omega
end
theorem cnt_pos : ∀ x : S25, 1 ≤ cnt x
  | ⟨_, _, _, _, l⟩ => by simp only [cnt]; omega
/-- Are none within it. -/
def leafR (k : Int) : Bool := decide (k ≠ 11 ∧ k ≠ 12 ∧ k ≠ 13)
mutual
/-- How deep. -/
def depR : S25 → Int
  | ⟨k, _, _, _, l⟩ => if leafR k = true then (if k = 5 then 1 else 0) else depRL l + 1
def depRL : List S25 → Int
  | [] => 0
  | x :: l => max (depR x) (depRL l)
end
mutual
theorem depR_pos : ∀ x : S25, 0 ≤ depR x ∧ depR x ≤ dep25 x
  | ⟨k, _, _, _, l⟩ => by
    have := depRL_pos l
    simp only [depR, dep25]
    by_cases h : leafR k = true
    · rw [if_pos h]; by_cases h5 : k = 5
      · rw [if_pos h5]; omega
      · rw [if_neg h5]; omega
    · rw [if_neg h]; omega
theorem depRL_pos : ∀ l : List S25, 0 ≤ depRL l ∧ depRL l ≤ depL25 l
  | [] => by simp [depRL, depL25]
  | x :: l => by have := depR_pos x; have := depRL_pos l; simp only [depRL, depL25]; omega
end
theorem leaf_f (a0 : Int) (a1 : Bool) (a2 : Int) (a3 : ByteArray) (a4 : List S25) : value_Leaf.f a0 a1 a2 a3 a4 = some (leafR a0) := by
  unfold value_Leaf.f leafR
  by_cases h1 : a0 = 11
  · rw [if_pos h1]; simp [h1]
  · by_cases h2 : a0 = 12
    · rw [if_neg h1, if_pos h2]; simp [h2]
    · by_cases h3 : a0 = 13
      · rw [if_neg h1, if_neg h2, if_pos h3]; simp [h3]
      · rw [if_neg h1, if_neg h2, if_neg h3]; simp [h1, h2, h3]
theorem mx_max (a b : Int) : mx a b = max a b := by unfold mx; omega
theorem depth_l0 (l : List S25) (hl : l.length * 64 ≤ 140737488351232) (hd : depL25 l ≤ 9000000000000000000) (hf : ∀ x ∈ l, Ev (fun k => value_Depth.f k x.f0 x.f1 x.f2 x.f3 x.f4) (depR x)) :
    ∀ (d j : Nat) (a : Int), j + d = l.length → 0 ≤ a → a ≤ 9000000000000000000 → Ev (fun k => value_Depth.l0 k a l (l.length : Int) (j : Int)) (max a (depRL (l.drop j)) + 1) := by
  intro d
  induction d with
  | zero =>
    intro j a hj h0 h1
    refine Ev.step (fun k => by simp only [value_Depth.l0]; rfl) (Ev.neg (by omega) (Ev.const ?_))
    rw [List.drop_of_length_le (by omega), wrap_id (by omega) (by omega)]
    simp only [depRL]
    rw [show max a 0 = a by omega]
  | succ d ih =>
    intro j a hj h0 h1
    have hlt : j < l.length := by omega
    have hb := depR_pos l[j]
    have hm := dep25_mem l l[j] (List.getElem_mem hlt)
    refine Ev.step (fun k => by simp only [value_Depth.l0]; rfl) (Ev.pos (by omega) (Ev.pos (by omega) (Ev.pos (by omega) ?_)))
    rw [rdT_get l j hlt, wrap_id (by omega) (by omega)]
    refine Ev.bind (hf _ (List.getElem_mem hlt)) ?_
    rw [mx_max]
    refine Ev.res (ih (j + 1) _ (by omega) (by omega) (by omega)) ?_
    rw [List.drop_eq_getElem_cons hlt]
    simp only [depRL]
    omega
theorem depth_f : ∀ (m : Nat) (x : S25), dep25 x < m → m ≤ 9000000000000000000 → wfS25 x → Ev (fun k => value_Depth.f k x.f0 x.f1 x.f2 x.f3 x.f4) (depR x) := by
  intro m
  induction m with
  | zero => intro x h; omega
  | succ m ih =>
    rintro ⟨a0, a1, a2, a3, a4⟩ hd hm hw
    obtain ⟨hl, hk⟩ := wf_kids hw
    refine Ev.step (fun k => by simp only [value_Depth.f]; rfl) (Ev.pre (leaf_f a0 a1 a2 a3 a4) ?_)
    simp only [depR]
    by_cases h : leafR a0 = true
    · rw [if_pos h]
      refine Ev.pos h ?_
      by_cases h5 : a0 = 5
      · exact Ev.pos h5 (Ev.const (by rw [if_pos h5]))
      · exact Ev.neg h5 (Ev.const (by rw [if_neg h5]))
    · rw [if_neg h]
      have hdl : depL25 a4 < m := by simp only [dep25] at hd; omega
      refine Ev.neg h (Ev.res (depth_l0 a4 hl (by omega) (fun x hx => ih x (by have := dep25_mem a4 x hx; omega) (by omega) (hk x hx)) a4.length 0 0 (by omega) (by omega) (by omega)) ?_)
      have := depRL_pos a4
      rw [List.drop_zero]; omega

/-- Could bytes be a great number's. -/
def bigR (s : ByteArray) : Bool := decide (8 < (s.size : Int) ∧ (s.size : Int) ≤ 512) && (bt s 0 != 0)
theorem big_f (s : ByteArray) : value_big.f s = some (bigR s) := by
  unfold value_big.f bigR
  by_cases h1 : (s.size : Int) > 8
  · rw [if_pos h1]
    by_cases h2 : (s.size : Int) ≤ 512
    · rw [if_pos h2, if_pos (by omega)]; simp [show 8 < (s.size : Int) by omega, h2]
    · rw [if_neg h2]; simp [h2]
  · rw [if_neg h1]; simp [show ¬ 8 < (s.size : Int) by omega]
/-- How many bits a kind's number may have. -/
def bitsR (k : Int) : Nat := if k = 1 then 1 else if k = 6 then 16 else if k = 7 then 32 else if k = 4 ∨ k = 8 ∨ k = 13 then 64 else if k = 3 ∨ k = 14 then 8 else 0
/-- Is a value right, but for those within it. -/
def oneR (y : S25) : Bool :=
  decide (0 ≤ y.f0 ∧ y.f0 ≤ 14) && !(y.f1 && decide (y.f0 ≠ 4 ∧ y.f0 ≠ 5)) && decide (y.f2 < 2 ^ bitsR y.f0) &&
  (if y.f0 = 10 then (Utf.checkF y.f3).2 == 0 else if y.f0 = 9 ∨ y.f0 = 14 then true else if y.f0 = 5 then bigR y.f3 else
    (y.f3.toList == ([] : List UInt8)) && (if y.f0 = 3 then !decide (19 < y.f2 ∧ y.f2 < 32) else if y.f0 = 12 then decide ((y.f4.length : Int) % 2 = 0) else
      if y.f0 = 13 then decide (y.f4.length = 1) && !(decide (y.f2 / 2 = 1) && decide ((rd_T25 y.f4 0).f0 = 9) && bigR (rd_T25 y.f4 0).f3) else true))
theorem shr_ne (n : Int) (b : Nat) (hb : b ≤ 64) (h0 : 0 ≤ n) : (shr .u64 n (b : Int) != 0) = !decide (n < 2 ^ b) := by
  unfold shr
  rw [Int.toNat_natCast, Nat.min_eq_left (by simpa [IntKind.bits] using hb)]
  have hp : (0 : Int) < 2 ^ b := Int.pow_pos (by decide)
  by_cases h : n < 2 ^ b
  · rw [Int.ediv_eq_zero_of_lt h0 h]; simp [h]
  · have : n / 2 ^ b ≠ 0 := fun e => h (by
      have := Int.lt_ediv_add_one_mul_self n hp
      rw [e] at this; omega)
    simp [h, this]
theorem bits_f (k : Int) (m : Nat) : value_bits.f (m + 1) k = some (bitsR k : Int) := by
  unfold value_bits.f bitsR
  by_cases h1 : k = 1
  · rw [if_pos h1, if_pos h1]; rfl
  by_cases h6 : k = 6
  · rw [if_neg h1, if_neg h1, if_pos h6, if_pos h6]; rfl
  by_cases h7 : k = 7
  · rw [if_neg h1, if_neg h1, if_neg h6, if_neg h6, if_pos h7, if_pos h7]; rfl
  rw [if_neg h1, if_neg h1, if_neg h6, if_neg h6, if_neg h7, if_neg h7]
  by_cases h4 : k = 4
  · rw [if_pos h4, if_pos (.inl h4)]; subst h4; rfl
  by_cases h8 : k = 8
  · rw [if_neg h4, if_pos h8, if_pos (.inr (.inl h8))]; subst h8; rfl
  rw [if_neg h4, if_neg h8]
  by_cases h13 : k = 13
  · rw [if_pos (.inr (.inr h13))]; subst h13; rfl
  rw [if_neg (by omega)]
  have e : (k == 13) = false := by simp [h13]
  rw [e]
  simp only [value_bits.j0]
  by_cases h3 : k = 3
  · rw [if_neg (by simp), if_pos h3, if_pos (.inl h3)]; rfl
  by_cases h14 : k = 14
  · rw [if_neg (by simp), if_neg h3, if_pos h14, if_pos (.inr h14)]; rfl
  rw [if_neg (by simp), if_neg h3, if_neg h14, if_neg (by omega)]; rfl
theorem bitsR_le (k : Int) : bitsR k ≤ 64 := by unfold bitsR; (repeat' split) <;> omega
theorem one_j2 (m : Nat) (k : Int) (neg : Bool) (n : Int) (s : ByteArray) (l : List S25) (_hk : k ≠ 9 ∧ k ≠ 10) :
    value_One.j2 (m + 1) k (k == 14) k neg n s l = some (if k = 14 then true else if k = 5 then bigR s else
    (s.toList == ([] : List UInt8)) && (if k = 3 then !decide (19 < n ∧ n < 32) else if k = 12 then decide ((l.length : Int) % 2 = 0) else
      if k = 13 then decide (l.length = 1) && !(decide (n / 2 = 1) && decide ((rd_T25 l 0).f0 = 9) && bigR (rd_T25 l 0).f3) else true)) := by
  simp only [value_One.j2]
  by_cases h14 : k = 14
  · rw [if_pos (by simp [h14]), if_pos h14]
  rw [if_neg (by simp [h14]), if_neg h14]
  by_cases h5 : k = 5
  · rw [if_pos h5, if_pos h5, big_f]; rfl
  rw [if_neg h5, if_neg h5]
  by_cases h3 : k = 3
  · rw [if_pos h3, if_pos h3]
    by_cases c1 : n > 19
    · rw [if_pos c1]
      by_cases c2 : n < 32
      · rw [if_pos c2]; simp [show 19 < n by omega, c2]
      · rw [if_neg c2]; simp [c2]
    · rw [if_neg c1]; simp [show ¬ 19 < n by omega]
  rw [if_neg h3, if_neg h3]
  by_cases h12 : k = 12
  · rw [if_pos h12, if_pos h12]
    by_cases c1 : (l.length : Int) % 2 = 0
    · rw [if_pos c1]; simp [c1]
    · rw [if_neg c1]; simp [c1]
  rw [if_neg h12, if_neg h12]
  by_cases h13 : k = 13
  · rw [if_pos h13, if_pos h13]
    by_cases c1 : (l.length : Int) = 1
    · have c1' : l.length = 1 := by omega
      rw [if_pos c1]
      by_cases c2 : n / 2 = 1
      · rw [if_pos c2, if_pos (by omega)]
        by_cases c3 : (rd_T25 l 0).f0 = 9
        · rw [if_pos c3, big_f]
          simp only [Option.bind_some]
          by_cases c4 : bigR (rd_T25 l 0).f3 = true
          · rw [if_pos c4]; simp [c1', c2, c3, c4]
          · rw [if_neg c4]; simp [c1', c2, c3, c4]
        · rw [if_neg c3]; simp [c1', c3]
      · rw [if_neg c2]; simp [c1', c2]
    · have c1' : ¬ l.length = 1 := by omega
      rw [if_neg c1]; simp [c1']
  rw [if_neg h13, if_neg h13]; simp
theorem one_j1 (m : Nat) (k : Int) (neg : Bool) (n : Int) (s : ByteArray) (l : List S25) (b : Bool) (hs : s.size ≤ 140737488351232) :
    value_One.j1 (m + 2) (!b) k neg n s l = some (b && (if k = 10 then (Utf.checkF s).2 == 0 else if k = 9 ∨ k = 14 then true else if k = 5 then bigR s else
    (s.toList == ([] : List UInt8)) && (if k = 3 then !decide (19 < n ∧ n < 32) else if k = 12 then decide ((l.length : Int) % 2 = 0) else
      if k = 13 then decide (l.length = 1) && !(decide (n / 2 = 1) && decide ((rd_T25 l 0).f0 = 9) && bigR (rd_T25 l 0).f3) else true))) := by
  rw [show m + 2 = (m + 1) + 1 from rfl]
  simp only [value_One.j1]
  cases b
  · simp
  · rw [if_neg (by simp)]
    by_cases h10 : k = 10
    · rw [if_pos h10, if_pos h10]; unfold utf_Check.f; rw [if_pos hs]; simp
    rw [if_neg h10, if_neg h10]
    by_cases h9 : k = 9
    · rw [if_pos h9, if_pos (.inl h9)]; subst h9; simp [value_One.j2]
    rw [if_neg h9, one_j2 m k neg n s l ⟨h9, h10⟩]
    by_cases h14 : k = 14
    · rw [if_pos h14, if_pos (.inr h14)]; simp
    · rw [if_neg h14, if_neg (show ¬ (k = 9 ∨ k = 14) by omega)]; simp
theorem one_j0 (m : Nat) (k : Int) (neg : Bool) (n : Int) (s : ByteArray) (l : List S25) (hs : s.size ≤ 140737488351232) (hn : 0 ≤ n ∧ n ≤ 18446744073709551615) :
    value_One.j0 (m + 3) false k neg n s l = some (decide (n < 2 ^ bitsR k) && (if k = 10 then (Utf.checkF s).2 == 0 else if k = 9 ∨ k = 14 then true else if k = 5 then bigR s else
    (s.toList == ([] : List UInt8)) && (if k = 3 then !decide (19 < n ∧ n < 32) else if k = 12 then decide ((l.length : Int) % 2 = 0) else
      if k = 13 then decide (l.length = 1) && !(decide (n / 2 = 1) && decide ((rd_T25 l 0).f0 = 9) && bigR (rd_T25 l 0).f3) else true))) := by
  rw [show m + 3 = (m + 2) + 1 from rfl]
  simp only [value_One.j0]
  have hb := bitsR_le k
  rw [if_neg (by simp), show m + 2 = (m + 1) + 1 from rfl, bits_f, Option.bind_some]
  by_cases h : (bitsR k : Int) < 64
  · rw [if_pos h, if_pos (by omega), shr_ne n (bitsR k) hb hn.1]
    exact one_j1 m k neg n s l _ hs
  · rw [if_neg h]
    have e : bitsR k = 64 := by omega
    have e2 : decide (n < 2 ^ bitsR k) = true := by rw [e]; simp; omega
    rw [e2]
    exact one_j1 m k neg n s l true hs
theorem one_f (y : S25) (hw : wfS25 y) : Ev (fun k => value_One.f k y.f0 y.f1 y.f2 y.f3 y.f4) (oneR y) := by
  obtain ⟨k, neg, n, s, l⟩ := y
  simp only [wfS25] at hw
  have hn := wf_u64 hw.2.2.1
  have hs : s.size ≤ 140737488351232 := hw.2.2.2.1
  refine ⟨3, fun q hq => ?_⟩
  obtain ⟨m, rfl⟩ : ∃ m, q = m + 3 := ⟨q - 3, by omega⟩
  have ht : value_One.j0 (m + 3) true k neg n s l = some false := by rw [show m + 3 = (m + 2) + 1 from rfl]; simp [value_One.j0]
  unfold value_One.f oneR
  simp only
  by_cases h0 : k < 0
  · rw [if_pos h0, ht]; simp [show ¬ 0 ≤ k by omega]
  by_cases h1 : k > 14
  · rw [if_neg h0, if_pos h1, ht]; simp [show ¬ k ≤ 14 by omega]
  rw [if_neg h0, if_neg h1]
  have e : decide (0 ≤ k ∧ k ≤ 14) = true := decide_eq_true ⟨by omega, by omega⟩
  rw [e, Bool.true_and]
  by_cases h2 : neg = true
  · rw [if_pos h2]
    by_cases h4 : k = 4
    · rw [if_pos h4, one_j0 m k neg n s l hs hn]; simp [h4]
    · rw [if_neg h4]
      by_cases h5 : k = 5
      · rw [show (k != 5) = false by simp [h5], one_j0 m k neg n s l hs hn]; simp [h5]
      · rw [show (k != 5) = true by simp [h5], ht]; simp [h2, h4, h5]
  · rw [if_neg h2, one_j0 m k neg n s l hs hn]; simp [h2]
/-- Is all of a value right. -/
def okR (y : S25) : Bool := oneR y && !(leafR y.f0 && decide (0 < y.f4.length))
/-- May a tree be. -/
def checkR (x : S25) : Int := if 64 < depR x then 2 else if 65536 < cnt x then 2 else if (subs x).all okR then 0 else 9
theorem chk_f : ∀ l : List S25, (∀ y ∈ l, wfS25 y) → Ev (fun k => Each.chk T25 (fun y => value_One.f k y.f0 y.f1 y.f2 y.f3 y.f4) (fun y => value_Leaf.f y.f0 y.f1 y.f2 y.f3 y.f4) l) (if l.all okR then 0 else 9)
  | [], _ => Ev.const rfl
  | y :: l, h => by
    refine Ev.congr (fun k => by simp only [Each.chk]; rfl) (Ev.bind (one_f y (h y (by simp))) ?_)
    simp only [List.all_cons]
    by_cases h1 : oneR y = true
    · refine Ev.pos h1 (Ev.pre (leaf_f ..) ?_)
      by_cases h2 : leafR y.f0 = true
      · refine Ev.pos h2 ?_
        by_cases h3 : 0 < y.f4.length
        · refine Ev.pos h3 (Ev.const ?_)
          simp [okR, h2, h3]
        · refine Ev.neg h3 (Ev.res (chk_f l (fun z hz => h z (by simp [hz]))) ?_)
          simp [okR, h1, h3]
      · refine Ev.neg h2 (Ev.res (chk_f l (fun z hz => h z (by simp [hz]))) ?_)
        simp [okR, h1, h2]
    · refine Ev.neg h1 (Ev.const ?_)
      simp [okR, h1]
mutual
theorem wf_subs : ∀ x : S25, wfS25 x → ∀ y ∈ subs x, wfS25 y
  | ⟨a, b, c, d, l⟩, h, y, hy => by
    simp only [subs, List.mem_cons] at hy
    rcases hy with rfl | hy
    · exact h
    · exact wf_subsL l (wf_kids h).2 y hy
theorem wf_subsL : ∀ l : List S25, (∀ x ∈ l, wfS25 x) → ∀ y ∈ subsL l, wfS25 y
  | [], _, y, hy => by simp [subsL] at hy
  | x :: l, h, y, hy => by
    simp only [subsL, List.mem_append] at hy
    rcases hy with hy | hy
    · exact wf_subs x (h x (by simp)) y hy
    · exact wf_subsL l (fun z hz => h z (by simp [hz])) y hy
end
theorem count_f (x : S25) (hs : szS25 x ≤ 4194304) : value_Count.f x.f0 x.f1 x.f2 x.f3 x.f4 = some (cnt x : Int) := by
  obtain ⟨a, b, c, d, l⟩ := x
  have h1 := dep_sz ⟨a, b, c, d, l⟩
  have h2 := cnt_sz ⟨a, b, c, d, l⟩
  unfold value_Count.f
  dsimp only
  rw [if_pos (by omega), nodes_len, wrap_id (by omega) (by omega)]
theorem check_f (x : S25) (hw : wfS25 x) (hs : szS25 x ≤ 4194304) : Ev (fun k => value_Check.f k x.f0 x.f1 x.f2 x.f3 x.f4) (checkR x) := by
  obtain ⟨a, b, c, d, l⟩ := x
  have h1 := dep_sz ⟨a, b, c, d, l⟩
  have h2 := cnt_sz ⟨a, b, c, d, l⟩
  dsimp only
  refine Ev.congr (fun k => by unfold value_Check.f; rfl) (Ev.bind (depth_f _ ⟨a, b, c, d, l⟩ (Nat.lt_succ_self _) (by omega) hw) ?_)
  refine Ev.pos (by omega) ?_
  unfold checkR
  by_cases c1 : 64 < depR ⟨a, b, c, d, l⟩
  · exact Ev.pos c1 (Ev.const (by rw [if_pos c1]))
  rw [if_neg c1]
  refine Ev.neg c1 ?_
  rw [nodes_len, wrap_id (by omega) (by omega), nodes_subs _ _ _ (Nat.lt_succ_self _)]
  by_cases c2 : 65536 < cnt ⟨a, b, c, d, l⟩
  · exact Ev.pos (by omega) (Ev.const (by rw [if_pos c2]))
  rw [if_neg c2]
  exact Ev.neg (by omega) (chk_f _ (wf_subs _ hw))

mutual
/-- A value's item. -/
def itC (o : Bool) : S25 → List Int
  | ⟨k, b, n, s, l⟩ => Cw.hdC T25 o ⟨k, b, n, s, l⟩ ++ ((if k = 11 ∨ k = 12 then itCL o l else if k = 13 then itC1 o l else []) ++ Cw.enC T25 o ⟨k, b, n, s, l⟩)
def itCL (o : Bool) : List S25 → List Int
  | [] => []
  | x :: l => itC o x ++ itCL o l
def itC1 (o : Bool) : List S25 → List Int
  | [] => []
  | x :: _ => itC o x
end
theorem itCL_flat (o : Bool) : ∀ l : List S25, itCL o l = (l.map (itC o)).flatten
  | [] => by simp [itCL]
  | x :: l => by simp [itCL, itCL_flat o l]
theorem itmC_R (o : Bool) : ∀ (m : Nat) (x : S25), dep25 x < m → Cw.itmC T25 o m x = itC o x := by
  intro m
  induction m with
  | zero => intro x h; omega
  | succ m ih =>
    rintro ⟨k, b, n, s, l⟩ h
    simp only [dep25] at h
    show Cw.hdC T25 o ⟨k, b, n, s, l⟩ ++ (((Cw.kdC T25 ⟨k, b, n, s, l⟩).map (Cw.itmC T25 o m)).flatten ++ Cw.enC T25 o ⟨k, b, n, s, l⟩) = _
    rw [itC]
    congr 2
    show ((if k = 11 ∨ k = 12 then l else if k = 13 then l.take 1 else []).map (Cw.itmC T25 o m)).flatten = _
    have hm : ∀ y ∈ l, Cw.itmC T25 o m y = itC o y := fun y hy => ih y (by have := dep25_mem l y hy; omega)
    split
    · rw [itCL_flat]
      congr 1
      exact List.map_congr_left hm
    · split
      · cases l with
        | nil => simp [itC1]
        | cons a l => simp [itC1, hm a (List.mem_cons_self ..)]
      · simp
theorem txtP_len (o : Bool) (M : Int) (t : ByteArray) : (Cw.txtP o M t).length ≤ 19 + t.size := by
  have h1 := Cw.begP_len o M (t.size : Int)
  have h2 := Cw.headP_len M (t.size : Int)
  simp only [Cw.txtP, List.length_append, bytesOf_length]
  (repeat' split) <;> (try simp only [List.length_cons, List.length_nil]) <;> omega
theorem hdC_len (o : Bool) (x : S25) : (Cw.hdC T25 o x).length ≤ 28 + x.f3.size := by
  unfold Cw.hdC
  have h1 := Cw.headP_len
  have h2 := txtP_len o 2 (T25.s x)
  have h3 := txtP_len o 3 (T25.s x)
  have h4 := Cw.fltP_len 1 (by omega) (T25.n x)
  have h5 := Cw.fltP_len 2 (by omega) (T25.n x)
  have h6 := Cw.fltP_len 3 (by omega) (T25.n x)
  have h7 := Cw.begP_len o
  have e : (T25.s x).size = x.f3.size := rfl
  have a1 := h1 7 22; have a2 := h1 7 23; have a3 := h1 7 ((T25.n x + 20) % 18446744073709551616); have a4 := h1 7 (T25.n x)
  have a5 := h1 (if T25.neg x = true then 1 else 0) (T25.n x); have a6 := h1 6 (2 + if T25.neg x = true then 1 else 0); have a7 := h1 6 (T25.n x)
  have a8 := h7 4 ((T25.kids x).length : Int); have a9 := h7 5 (((T25.kids x).length : Int) / 2)
  clear h1 h7
  by_cases c0 : T25.k x = 0
  · rw [if_pos c0]; omega
  rw [if_neg c0]
  by_cases c : T25.k x = 2
  · rw [if_pos c]; omega
  rw [if_neg c]
  by_cases c : T25.k x = 1
  · rw [if_pos c]; omega
  rw [if_neg c]
  by_cases c : T25.k x = 3
  · rw [if_pos c]; omega
  rw [if_neg c]
  by_cases c : T25.k x = 4
  · rw [if_pos c]; omega
  rw [if_neg c]
  by_cases c : T25.k x = 6
  · rw [if_pos c]; omega
  rw [if_neg c]
  by_cases c : T25.k x = 7
  · rw [if_pos c]; omega
  rw [if_neg c]
  by_cases c : T25.k x = 8
  · rw [if_pos c]; omega
  rw [if_neg c]
  by_cases c : T25.k x = 5
  · rw [if_pos c, List.length_append]; omega
  rw [if_neg c]
  by_cases c : T25.k x = 9
  · rw [if_pos c]; omega
  rw [if_neg c]
  by_cases c : T25.k x = 10
  · rw [if_pos c]; omega
  rw [if_neg c]
  by_cases c : T25.k x = 13
  · rw [if_pos c]; omega
  rw [if_neg c]
  by_cases c : T25.k x = 11
  · rw [if_pos c]; omega
  rw [if_neg c]
  by_cases c : T25.k x = 12
  · rw [if_pos c]; omega
  rw [if_neg c]
  simp
mutual
theorem itC_len (o : Bool) : ∀ x : S25, (itC o x).length ≤ 5 * szS25 x
  | ⟨k, b, n, s, l⟩ => by
    have h1 := hdC_len o ⟨k, b, n, s, l⟩
    have h2 := itCL_len o l
    have h3 := itC1_len o l
    have h4 : (Cw.enC T25 o ⟨k, b, n, s, l⟩).length ≤ 1 := by unfold Cw.enC; split <;> simp
    simp only [itC, List.length_append, szS25] at h1 ⊢
    split
    · omega
    · split
      · omega
      · simp only [List.length_nil]; omega
theorem itCL_len (o : Bool) : ∀ l : List S25, (itCL o l).length ≤ 5 * szL25 l
  | [] => by simp [itCL]
  | x :: l => by
    have h1 := itC_len o x
    have h2 := itCL_len o l
    simp only [itCL, List.length_append, szL25] at h1 ⊢
    omega
theorem itC1_len (o : Bool) : ∀ l : List S25, (itC1 o l).length ≤ 5 * szL25 l
  | [] => by simp [itC1]
  | x :: l => by
    have h1 := itC_len o x
    simp only [itC1, szL25] at h1 ⊢
    omega
end
mutual
/-- May a tree be said? -/
def saysC : S25 → Bool
  | ⟨k, _, _, _, l⟩ => saysCL l && decide (k ≠ 14)
def saysCL : List S25 → Bool
  | [] => true
  | x :: l => saysC x && saysCL l
end
theorem saysC_l0 (k0 : Int) (b0 : Bool) (n0 : Int) (s0 : ByteArray) (l0 : List S25) (l : List S25) (hl : l.length * 64 ≤ 140737488351232) (hf : ∀ x ∈ l, Ev (fun k => cbor_says.f k x.f0 x.f1 x.f2 x.f3 x.f4) (saysC x)) :
    ∀ (d j : Nat), j + d = l.length → Ev (fun k => cbor_says.l0 k l (l.length : Int) (j : Int) k0 b0 n0 s0 l0) (saysCL (l.drop j) && decide (k0 ≠ 14)) := by
  intro d
  induction d with
  | zero =>
    intro j hj
    refine Ev.step (fun k => by simp only [cbor_says.l0]; rfl) (Ev.neg (by omega) (Ev.const ?_))
    rw [List.drop_of_length_le (by omega)]
    congr 1
    rw [Bool.eq_iff_iff]
    simp [saysCL]
  | succ d ih =>
    intro j hj
    have hlt : j < l.length := by omega
    refine Ev.step (fun k => by simp only [cbor_says.l0]; rfl) (Ev.pos (by omega) (Ev.pos (by omega) (Ev.pos (by omega) ?_)))
    rw [rdT_get l j hlt, wrap_id (by omega) (by omega), List.drop_eq_getElem_cons hlt]
    refine Ev.bind (hf _ (List.getElem_mem hlt)) ?_
    simp only [saysCL]
    cases h : saysC l[j] with
    | true => rw [Bool.true_and]; exact Ev.pos rfl (ih (j + 1) (by omega))
    | false => exact Ev.neg (by simp) (Ev.const rfl)
theorem saysC_f : ∀ (m : Nat) (x : S25), dep25 x < m → wfS25 x → Ev (fun k => cbor_says.f k x.f0 x.f1 x.f2 x.f3 x.f4) (saysC x) := by
  intro m
  induction m with
  | zero => intro x h; omega
  | succ m ih =>
    rintro ⟨a0, a1, a2, a3, a4⟩ hd hw
    obtain ⟨hl, hk⟩ := wf_kids hw
    simp only [dep25] at hd
    refine Ev.step (fun k => by simp only [cbor_says.f]; rfl) (Ev.res (saysC_l0 a0 a1 a2 a3 a4 a4 hl (fun x hx => ih x (by have := dep25_mem a4 x hx; omega) (hk x hx)) a4.length 0 (by omega)) ?_)
    rw [List.drop_zero]
    simp only [saysC]
theorem ok_kids (a0 : Int) (a1 : Bool) (a2 : Int) (a3 : ByteArray) (l : List S25) (h : (subs ⟨a0, a1, a2, a3, l⟩).all okR = true) : okR ⟨a0, a1, a2, a3, l⟩ = true ∧ ∀ y ∈ l, (subs y).all okR = true := by
  simp only [subs, List.all_cons, Bool.and_eq_true] at h
  refine ⟨h.1, ?_⟩
  have h2 := h.2
  clear h
  induction l with
  | nil => intro y hy; cases hy
  | cons x l ih =>
    simp only [subsL, List.all_append, Bool.and_eq_true] at h2
    intro y hy
    rcases List.mem_cons.1 hy with rfl | hy
    · exact h2.1
    · exact ih h2.2 y hy
mutual
theorem okn_ok : ∀ x : S25, wfS25 x → (subs x).all okR = true → okn25 x = true
  | ⟨k, b, n, s, l⟩ => by
    intro hw hs
    obtain ⟨hl, hk⟩ := wf_kids hw
    have hn := wf_u64 (show (Lit.int .u64 n).wf = true from by simp only [wfS25] at hw; exact hw.2.2.1)
    obtain ⟨h1, h2⟩ := ok_kids k b n s l hs
    simp only [okn25, Bool.and_eq_true, decide_eq_true_eq]
    refine ⟨⟨hn.1, hn.2, fun h13 => ?_⟩, oknL_ok l hk h2⟩
    simp only [okR, oneR, Bool.and_eq_true] at h1
    have h3 := h1.1.2
    subst h13
    simp at h3
    omega
theorem oknL_ok : ∀ l : List S25, (∀ y ∈ l, wfS25 y) → (∀ y ∈ l, (subs y).all okR = true) → oknL25 l = true
  | [] => fun _ _ => rfl
  | x :: l => by
    intro hw hs
    simp only [oknL25, Bool.and_eq_true]
    exact ⟨okn_ok x (hw x (List.mem_cons_self ..)) (hs x (List.mem_cons_self ..)), oknL_ok l (fun y hy => hw y (List.mem_cons_of_mem _ hy)) (fun y hy => hs y (List.mem_cons_of_mem _ hy))⟩
end
theorem check_ok (x : S25) (h : checkR x = 0) : (subs x).all okR = true := by
  unfold checkR at h
  split at h
  · cases h
  · split at h
    · cases h
    · split at h
      · assumption
      · cases h
/-- What cbor.Encode answers. -/
def encC (o : Bool) (x : S25) : List Int × Int := if checkR x = 0 then (if saysC x = true then (itC o x, 0) else ([], 10)) else ([], checkR x)
theorem encC_f (o : Bool) (i : Int) (s : Bool) (x : S25) (hw : wfS25 x) (hs : szS25 x ≤ 4194304) : Ev (fun k => cbor_Encode.f k x.f0 x.f1 x.f2 x.f3 x.f4 o i s) (encC o x) := by
  have hg : ∀ c b, (c = 0 → checkR x = 0) → cbor_Encode.g x o c b = some (if c = 0 then (if b = true then itC o x else []) else [], if c = 0 then (if b = true then 0 else 10) else c) := by
    intro c b hc
    unfold cbor_Encode.g
    have h1 := itC_len o x
    rw [itmC_R o _ x (Nat.lt_succ_self _), if_pos ⟨fun h => okn_ok x hw (check_ok x (hc h.1)), by omega⟩]
  obtain ⟨a0, a1, a2, a3, a4⟩ := x
  refine Ev.congr (fun k => by unfold cbor_Encode.f; rfl) (Ev.bind (check_f ⟨a0, a1, a2, a3, a4⟩ hw hs) ?_)
  unfold encC
  by_cases h : checkR ⟨a0, a1, a2, a3, a4⟩ = 0
  · rw [if_pos h, h]
    refine Ev.pos (by trivial) (Ev.bind (saysC_f _ ⟨a0, a1, a2, a3, a4⟩ (Nat.lt_succ_self _) hw) (Ev.const ?_))
    rw [hg _ _ (fun _ => h)]
    cases saysC ⟨a0, a1, a2, a3, a4⟩ <;> simp
  · rw [if_neg h]
    refine Ev.neg h (Ev.const ?_)
    rw [hg _ _ (fun h' => absurd h' h), if_neg h, if_neg h]

theorem fl_l0 (n : Int) (h0 : 0 ≤ n) (h1 : n < 18446744073709551616) (w : Nat) (hw : w ≤ 8) (xs : List Int) (hlen : xs.length = w + 1) : ∀ (d j : Nat) (acc : Int), j + d = w + 1 → xs.drop j = Cw.outR n d → acc = n / 2 ^ (8 * d) → Ev (fun k => glossatorlaw11_CborFloats.l0 k n (w : Int) xs acc (j : Int)) true := by
  intro d
  induction d with
  | zero =>
    intro j acc hj hd ha
    refine Ev.step (fun k => by simp only [glossatorlaw11_CborFloats.l0]; rfl) (Ev.neg (by omega) (Ev.const ?_))
    rw [ha]; simp
  | succ d ih =>
    intro j acc hj hd ha
    have hlt : j < xs.length := by omega
    rw [List.drop_eq_getElem_cons hlt, Cw.outR] at hd
    injection hd with e1 e2
    have hp : (2 : Int) ^ (8 * (d + 1)) = 2 ^ (8 * d) * 256 := by rw [show 8 * (d + 1) = 8 * d + 8 by omega, Int.pow_add]; rfl
    have hpos : (0 : Int) < 2 ^ (8 * d) := Int.pow_pos (by decide)
    have hacc : acc = n / 2 ^ (8 * d) / 256 := by rw [ha, hp, Int.ediv_ediv_of_nonneg (by omega)]
    have hq0 : 0 ≤ n / 2 ^ (8 * d) := Int.ediv_nonneg h0 (by omega)
    have hq1 : n / 2 ^ (8 * d) ≤ n := Int.ediv_le_self _ h0
    refine Ev.step (fun k => by simp only [glossatorlaw11_CborFloats.l0]; rfl) (Ev.pos (by omega) (Ev.pos (by omega) (Ev.pos (by omega) ?_)))
    rw [rd_nat xs j hlt, e1, or64 acc _ (by omega) (by omega) (by omega) (by omega), wrap_id (x := (j : Int) + 1) (by omega) (by omega)]
    refine ih (j + 1) _ (by omega) e2 ?_
    rw [hacc]; omega
theorem fl_tree (r : Nat) (hr : r ≤ 2) (n : Int) (_h0 : 0 ≤ n) (h1 : n < 2 ^ (8 * 2 ^ (r + 1))) (o : Bool) : encC o ⟨6 + (r : Int), false, n, ⟨#[]⟩, []⟩ = (Cw.fltP (r + 1) n, 0) := by
  have hok : okR ⟨6 + (r : Int), false, n, ⟨#[]⟩, []⟩ = true := by
    rcases (show r = 0 ∨ r = 1 ∨ r = 2 by omega) with rfl | rfl | rfl
    · simp [okR, oneR, leafR, bitsR] at h1 ⊢; (first | omega | (constructor <;> first | omega | decide +kernel))
    · simp [okR, oneR, leafR, bitsR] at h1 ⊢; (first | omega | (constructor <;> first | omega | decide +kernel))
    · simp [okR, oneR, leafR, bitsR] at h1 ⊢; (first | omega | (constructor <;> first | omega | decide +kernel))
  have hd : depR ⟨6 + (r : Int), false, n, ⟨#[]⟩, []⟩ = 0 := by
    have hl : leafR (6 + (r : Int)) = true := by simp [leafR]; omega
    rw [depR, if_pos hl, if_neg (by omega)]
  have hc : checkR ⟨6 + (r : Int), false, n, ⟨#[]⟩, []⟩ = 0 := by
    unfold checkR
    rw [hd, if_neg (by omega), if_neg (by simp [cnt, cntL]), if_pos (by simp [subs, subsL, hok])]
  have hs : saysC ⟨6 + (r : Int), false, n, ⟨#[]⟩, []⟩ = true := by simp [saysC, saysCL]; omega
  unfold encC
  rw [if_pos hc, if_pos hs]
  congr 1
  rcases (show r = 0 ∨ r = 1 ∨ r = 2 by omega) with rfl | rfl | rfl <;> simp [itC, Cw.hdC, Cw.enC, T25]
theorem fl_j0 (r : Nat) (hr : r ≤ 2) (n : Int) (h0 : 0 ≤ n) (h1 : n < 2 ^ (8 * 2 ^ (r + 1))) (a1 : Int) (ha : Int.tmod a1 3 = (r : Int)) (w : Nat) (hw : 2 ^ (r + 1) = w) : Ev (fun k => glossatorlaw11_CborFloats.j0 k n a1 (w : Int)) true := by
  have hw8 : w ≤ 8 := by rw [← hw]; rcases (show r = 0 ∨ r = 1 ∨ r = 2 by omega) with rfl | rfl | rfl <;> decide
  have h64 : n < 18446744073709551616 := by
    rcases (show r = 0 ∨ r = 1 ∨ r = 2 by omega) with rfl | rfl | rfl <;> simp at h1 <;> omega
  have hwf : wfS25 ⟨6 + (r : Int), false, n, ⟨#[]⟩, []⟩ := by
    rw [wfS25]
    refine ⟨?_, trivial, ?_, by decide, by simp, (wfL25_iff _).2 (by simp)⟩
    · simp [Lit.wf, IntKind.min, IntKind.max, IntKind.signed, IntKind.bits]; omega
    · simp [Lit.wf, IntKind.min, IntKind.max, IntKind.signed, IntKind.bits]; omega
  have hE := encC_f (decide (a1 > 100)) 0 false ⟨6 + (r : Int), false, n, ⟨#[]⟩, []⟩ hwf (by rw [szS25, szL25]; have : (⟨#[]⟩ : ByteArray).size = 0 := rfl; dsimp only; omega)
  rw [fl_tree r hr n h0 h1] at hE
  refine Ev.step (fun k => by simp only [glossatorlaw11_CborFloats.j0]; rfl) ?_
  rw [ha, wrap_id (x := (r : Int)) (by omega) (by omega), wrap_id (x := 6 + (r : Int)) (by omega) (by omega), wrap_id (x := (w : Int) + 1) (by omega) (by omega)]
  refine Ev.bind hE ?_
  have hl : (Cw.fltP (r + 1) n).length = w + 1 := by simp [Cw.fltP, Cw.outR_len, ← hw]
  dsimp only
  refine Ev.pos rfl ?_
  rw [hl]
  refine Ev.pos (by omega) (Ev.pos (by omega) ?_)
  refine Ev.step (fun k => by simp only [glossatorlaw11_CborFloats.j1]; rfl) (Ev.neg ?_ ?_)
  · have e : rd (Cw.fltP (r + 1) n) 0 = 248 + ((r + 1 : Nat) : Int) := rfl
    rw [e]
    simp
    omega
  · refine fl_l0 n h0 h64 w hw8 _ hl w 1 0 (by omega) (by rw [← hw]; simp [Cw.fltP]) ?_
    rw [← hw, Int.ediv_eq_zero_of_lt h0 h1]
theorem CborFloats : glossatorlaw11_CborFloats.Pure := by
  intro a0 a1 h0 h1
  have hn := wf_u64 h0
  have ha := wf_u8 h1
  have ht : Int.tmod a1 3 = a1 % 3 := Int.tmod_eq_emod_of_nonneg ha.1
  refine Ev.rounds (Ev.congr (fun k => by unfold glossatorlaw11_CborFloats.f; rfl) ?_)
  rcases (show a1 % 3 = 0 ∨ a1 % 3 = 1 ∨ a1 % 3 = 2 by omega) with h | h | h
  · rw [h] at ht
    rw [ht]
    refine Ev.pos (by decide) (Ev.pos (by decide) (Ev.pos (by decide +kernel) ?_))
    rw [show Go.bits .and .u64 a0 (IntKind.u64.wrap ((shl .u64 1 (wrap64 (8 * (shl .i64 2 0)))) - 1)) = a0 % 2 ^ 16 from mask64 16 (by omega) (by decide +kernel) hn.1 (by omega)]
    exact fl_j0 0 (by omega) _ (by omega) (by simp; omega) a1 ht _ rfl
  · rw [h] at ht
    rw [ht]
    refine Ev.pos (by decide) (Ev.pos (by decide) (Ev.pos (by decide +kernel) ?_))
    rw [show Go.bits .and .u64 a0 (IntKind.u64.wrap ((shl .u64 1 (wrap64 (8 * (shl .i64 2 1)))) - 1)) = a0 % 2 ^ 32 from mask64 32 (by omega) (by decide +kernel) hn.1 (by omega)]
    exact fl_j0 1 (by omega) _ (by omega) (by simp; omega) a1 ht _ rfl
  · rw [h] at ht
    rw [ht]
    refine Ev.pos (by decide) (Ev.neg (by decide) ?_)
    exact fl_j0 2 (by omega) _ hn.1 (by simp; omega) a1 ht _ rfl

end Go.Proofs.Ytlbdjjiblhdpmaa.Pure
