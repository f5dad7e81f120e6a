/- Proved: the pure statement of EventCounts: a tree that may be has an event for each value, and one more for each list and map. -/
import Derived.Test.YtcgpfclmcajekaaPEventCountsx3
import Derived.Test.YtcgpfclmcajekaaUtf
namespace Go.Proofs.Ytcgpfclmcajekaa.Pure
open Go.RowKit Go.Proofs.Ytcgpfclmcajekaa.PEventCounts Go.Proofs.YtcgpfclmcajekaaW.PrintWords Go.Proofs.YtcgpfclmcajekaaW.PrintLast Go.Proofs.YtcgpfclmcajekaaW.PrintMore

theorem Ev.pos {α : Type} {c : Prop} [Decidable c] {f g : Nat → Option α} {r : α} (h : c) (k : Ev f r) : Ev (fun n => if c then f n else g n) r := Ev.congr (fun _ => if_pos h) k
theorem Ev.neg {α : Type} {c : Prop} [Decidable c] {f g : Nat → Option α} {r : α} (h : ¬ c) (k : Ev g r) : Ev (fun n => if c then f n else g n) r := Ev.congr (fun _ => if_neg h) k
theorem Ev.const {α : Type} {x : Option α} {r : α} (h : x = some r) : Ev (fun _ => x) r := ⟨0, fun _ _ => h⟩
theorem Ev.pre {α β : Type} {x : Option α} {a : α} {f : Nat → α → Option β} {r : β} (h : x = some a) (k : Ev (fun n => f n a) r) : Ev (fun n => x.bind (f n)) r := Ev.congr (fun _ => by rw [h]; rfl) k
theorem Ev.res {α : Type} {g : Nat → Option α} {r r' : α} (k : Ev g r') (e : r' = r) : Ev g r := e ▸ k
theorem wrap_id {x : Int} (h0 : -9223372036854775808 ≤ x) (h1 : x ≤ 9223372036854775807) : wrap64 x = x := by unfold wrap64; omega

theorem wf_i64 {n : Int} (h : (Lit.int .i64 n).wf = true) : -9223372036854775808 ≤ n ∧ n ≤ 9223372036854775807 := by
  simp [Lit.wf, IntKind.min, IntKind.max, IntKind.signed, IntKind.bits] at h; omega
theorem wf_u64 {n : Int} (h : (Lit.int .u64 n).wf = true) : 0 ≤ n ∧ n ≤ 18446744073709551615 := by
  simp [Lit.wf, IntKind.min, IntKind.max, IntKind.signed, IntKind.bits] at h; omega

theorem wf_kids {f0 : Int} {f1 : Bool} {f2 : Int} {f3 : ByteArray} {l : List S25} (h : wfS25 ⟨f0, f1, f2, f3, l⟩) : l.length * 64 ≤ 140737488351232 ∧ ∀ y ∈ l, wfS25 y := by
  simp only [wfS25] at h
  exact ⟨h.2.2.2.2.1, (wfL25_iff _).1 h.2.2.2.2.2⟩
theorem rdT_get (xs : List S25) (j : Nat) (h : j < xs.length) : rd_T25 xs (j : Int) = xs[j] := by
  simp [rd_T25, List.getElem?_eq_getElem h]
theorem dep_kid {f0 : Int} {f1 : Bool} {f2 : Int} {f3 : ByteArray} {l : List S25} {y : S25} (h : y ∈ l) : dep25 y < dep25 ⟨f0, f1, f2, f3, l⟩ := by
  have := dep25_mem l y h; simp only [dep25]; omega

mutual
/-- How many values a tree has. -/
def cnt : S25 → Nat
  | ⟨_, _, _, _, l⟩ => cntL l + 1
def cntL : List S25 → Nat
  | [] => 0
  | x :: l => cnt x + cntL l
end
mutual
/-- A tree's values, each ahead of those within it. -/
def subs : S25 → List S25
  | ⟨a, b, c, d, l⟩ => ⟨a, b, c, d, l⟩ :: subsL l
def subsL : List S25 → List S25
  | [] => []
  | x :: l => subs x ++ subsL l
end
mutual
theorem subs_len : ∀ x : S25, (subs x).length = cnt x
  | ⟨a, b, c, d, l⟩ => by simp only [subs, cnt, List.length_cons, subsL_len l]
theorem subsL_len : ∀ l : List S25, (subsL l).length = cntL l
  | [] => rfl
  | x :: l => by simp only [subsL, cntL, List.length_append, subs_len x, subsL_len l]
end
theorem nodesL_subs (f : List Int → S25 → List (List Int × S25)) (p : List Int) : ∀ (l : List S25) (i : Nat), (∀ y ∈ l, ∀ q, (f q y).map (·.2) = subs y) → (Each.Tree.nodesL f p l i).map (·.2) = subsL l
  | [], _, _ => rfl
  | y :: l, i, h => by simp only [Each.Tree.nodesL, List.map_append, subsL, h y (by simp), nodesL_subs f p l (i + 1) (fun z hz => h z (by simp [hz]))]
theorem nodes_subs : ∀ (m : Nat) (x : S25) (p : List Int), dep25 x < m → (T25.nodes m p x).map (·.2) = subs x := by
  intro m
  induction m with
  | zero => intro x p h; omega
  | succ m ih =>
    rintro ⟨a, b, c, d, l⟩ p h
    have e : T25.nodes (m + 1) p ⟨a, b, c, d, l⟩ = (p, ⟨a, b, c, d, l⟩) :: Each.Tree.nodesL (T25.nodes m) p l 0 := rfl
    rw [e, List.map_cons, nodesL_subs _ _ _ _ (fun y hy q => ih y q (by have := dep_kid (f0 := a) (f1 := b) (f2 := c) (f3 := d) hy; omega))]
    rfl
theorem nodes_len (x : S25) (p : List Int) : (T25.nodes (dep25 x + 1) p x).length = cnt x := by
  rw [← subs_len, ← nodes_subs _ x p (Nat.lt_succ_self _), List.length_map]
mutual
theorem dep_sz : ∀ x : S25, dep25 x ≤ szS25 x
  | ⟨a, b, c, d, l⟩ => by have := depL_sz l; simp only [dep25, szS25]; omega
theorem depL_sz : ∀ l : List S25, depL25 l ≤ szL25 l
  | [] => Nat.le_refl _
  | x :: l => by have := dep_sz x; have := depL_sz l; simp only [depL25, szL25]; omega
end
mutual
theorem cnt_sz : ∀ x : S25, cnt x ≤ szS25 x
  | ⟨a, b, c, d, l⟩ => by have := cntL_sz l; simp only [cnt, szS25]; omega
theorem cntL_sz : ∀ l : List S25, cntL l ≤ szL25 l
  | [] => Nat.le_refl _
  | x :: l => by have := cnt_sz x; have := cntL_sz l; simp only [cntL, szL25]; omega
end
theorem cnt_pos : ∀ x : S25, 1 ≤ cnt x
  | ⟨_, _, _, _, l⟩ => by simp only [cnt]; omega
/-- Are none within it. -/
def leafR (k : Int) : Bool := decide (k ≠ 11 ∧ k ≠ 12 ∧ k ≠ 13)
mutual
/-- How deep. -/
def depR : S25 → Int
  | ⟨k, _, _, _, l⟩ => if leafR k = true then (if k = 5 then 1 else 0) else depRL l + 1
def depRL : List S25 → Int
  | [] => 0
  | x :: l => max (depR x) (depRL l)
end
mutual
theorem depR_pos : ∀ x : S25, 0 ≤ depR x ∧ depR x ≤ dep25 x
  | ⟨k, _, _, _, l⟩ => by
    have := depRL_pos l
    simp only [depR, dep25]
    by_cases h : leafR k = true
    · rw [if_pos h]; by_cases h5 : k = 5
      · rw [if_pos h5]; omega
      · rw [if_neg h5]; omega
    · rw [if_neg h]; omega
theorem depRL_pos : ∀ l : List S25, 0 ≤ depRL l ∧ depRL l ≤ depL25 l
  | [] => by simp [depRL, depL25]
  | x :: l => by have := depR_pos x; have := depRL_pos l; simp only [depRL, depL25]; omega
end
theorem leaf_f (a0 : Int) (a1 : Bool) (a2 : Int) (a3 : ByteArray) (a4 : List S25) : value_Leaf.f a0 a1 a2 a3 a4 = some (leafR a0) := by
  unfold value_Leaf.f leafR
  by_cases h1 : a0 = 11
  · rw [if_pos h1]; simp [h1]
  · by_cases h2 : a0 = 12
    · rw [if_neg h1, if_pos h2]; simp [h2]
    · by_cases h3 : a0 = 13
      · rw [if_neg h1, if_neg h2, if_pos h3]; simp [h3]
      · rw [if_neg h1, if_neg h2, if_neg h3]; simp [h1, h2, h3]
theorem mx_max (a b : Int) : mx a b = max a b := by unfold mx; omega
theorem depth_l0 (l : List S25) (hl : l.length * 64 ≤ 140737488351232) (hd : depL25 l ≤ 9000000000000000000) (hf : ∀ x ∈ l, Ev (fun k => value_Depth.f k x.f0 x.f1 x.f2 x.f3 x.f4) (depR x)) :
    ∀ (d j : Nat) (a : Int), j + d = l.length → 0 ≤ a → a ≤ 9000000000000000000 → Ev (fun k => value_Depth.l0 k a l (l.length : Int) (j : Int)) (max a (depRL (l.drop j)) + 1) := by
  intro d
  induction d with
  | zero =>
    intro j a hj h0 h1
    refine Ev.step (fun k => by simp only [value_Depth.l0]; rfl) (Ev.neg (by omega) (Ev.const ?_))
    rw [List.drop_of_length_le (by omega), wrap_id (by omega) (by omega)]
    simp only [depRL]
    rw [show max a 0 = a by omega]
  | succ d ih =>
    intro j a hj h0 h1
    have hlt : j < l.length := by omega
    have hb := depR_pos l[j]
    have hm := dep25_mem l l[j] (List.getElem_mem hlt)
    refine Ev.step (fun k => by simp only [value_Depth.l0]; rfl) (Ev.pos (by omega) (Ev.pos (by omega) (Ev.pos (by omega) ?_)))
    rw [rdT_get l j hlt, wrap_id (by omega) (by omega)]
    refine Ev.bind (hf _ (List.getElem_mem hlt)) ?_
    rw [mx_max]
    refine Ev.res (ih (j + 1) _ (by omega) (by omega) (by omega)) ?_
    rw [List.drop_eq_getElem_cons hlt]
    simp only [depRL]
    omega
theorem depth_f : ∀ (m : Nat) (x : S25), dep25 x < m → m ≤ 9000000000000000000 → wfS25 x → Ev (fun k => value_Depth.f k x.f0 x.f1 x.f2 x.f3 x.f4) (depR x) := by
  intro m
  induction m with
  | zero => intro x h; omega
  | succ m ih =>
    rintro ⟨a0, a1, a2, a3, a4⟩ hd hm hw
    obtain ⟨hl, hk⟩ := wf_kids hw
    refine Ev.step (fun k => by simp only [value_Depth.f]; rfl) (Ev.pre (leaf_f a0 a1 a2 a3 a4) ?_)
    simp only [depR]
    by_cases h : leafR a0 = true
    · rw [if_pos h]
      refine Ev.pos h ?_
      by_cases h5 : a0 = 5
      · exact Ev.pos h5 (Ev.const (by rw [if_pos h5]))
      · exact Ev.neg h5 (Ev.const (by rw [if_neg h5]))
    · rw [if_neg h]
      have hdl : depL25 a4 < m := by simp only [dep25] at hd; omega
      refine Ev.neg h (Ev.res (depth_l0 a4 hl (by omega) (fun x hx => ih x (by have := dep25_mem a4 x hx; omega) (by omega) (hk x hx)) a4.length 0 0 (by omega) (by omega) (by omega)) ?_)
      have := depRL_pos a4
      rw [List.drop_zero]; omega

/-- Could bytes be a great number's. -/
def bigR (s : ByteArray) : Bool := decide (8 < (s.size : Int) ∧ (s.size : Int) ≤ 512) && (bt s 0 != 0)
theorem big_f (s : ByteArray) : value_big.f s = some (bigR s) := by
  unfold value_big.f bigR
  by_cases h1 : (s.size : Int) > 8
  · rw [if_pos h1]
    by_cases h2 : (s.size : Int) ≤ 512
    · rw [if_pos h2, if_pos (by omega)]; simp [show 8 < (s.size : Int) by omega, h2]
    · rw [if_neg h2]; simp [h2]
  · rw [if_neg h1]; simp [show ¬ 8 < (s.size : Int) by omega]
/-- How many bits a kind's number may have. -/
def bitsR (k : Int) : Nat := if k = 1 then 1 else if k = 6 then 16 else if k = 7 then 32 else if k = 4 ∨ k = 8 ∨ k = 13 then 64 else if k = 3 ∨ k = 14 then 8 else 0
/-- Is a value right, but for those within it. -/
def oneR (y : S25) : Bool :=
  decide (0 ≤ y.f0 ∧ y.f0 ≤ 14) && !(y.f1 && decide (y.f0 ≠ 4 ∧ y.f0 ≠ 5)) && decide (y.f2 < 2 ^ bitsR y.f0) &&
  (if y.f0 = 10 then (Utf.checkF y.f3).2 == 0 else if y.f0 = 9 ∨ y.f0 = 14 then true else if y.f0 = 5 then bigR y.f3 else
    (y.f3.toList == ([] : List UInt8)) && (if y.f0 = 3 then !decide (19 < y.f2 ∧ y.f2 < 32) else if y.f0 = 12 then decide ((y.f4.length : Int) % 2 = 0) else
      if y.f0 = 13 then decide (y.f4.length = 1) && !(decide (y.f2 / 2 = 1) && decide ((rd_T25 y.f4 0).f0 = 9) && bigR (rd_T25 y.f4 0).f3) else true))
theorem shr_ne (n : Int) (b : Nat) (hb : b ≤ 64) (h0 : 0 ≤ n) : (shr .u64 n (b : Int) != 0) = !decide (n < 2 ^ b) := by
  unfold shr
  rw [Int.toNat_natCast, Nat.min_eq_left (by simpa [IntKind.bits] using hb)]
  have hp : (0 : Int) < 2 ^ b := Int.pow_pos (by decide)
  by_cases h : n < 2 ^ b
  · rw [Int.ediv_eq_zero_of_lt h0 h]; simp [h]
  · have : n / 2 ^ b ≠ 0 := fun e => h (by
      have := Int.lt_ediv_add_one_mul_self n hp
      rw [e] at this; omega)
    simp [h, this]
theorem bits_f (k : Int) (m : Nat) : value_bits.f (m + 1) k = some (bitsR k : Int) := by
  unfold value_bits.f bitsR
  by_cases h1 : k = 1
  · rw [if_pos h1, if_pos h1]; rfl
  by_cases h6 : k = 6
  · rw [if_neg h1, if_neg h1, if_pos h6, if_pos h6]; rfl
  by_cases h7 : k = 7
  · rw [if_neg h1, if_neg h1, if_neg h6, if_neg h6, if_pos h7, if_pos h7]; rfl
  rw [if_neg h1, if_neg h1, if_neg h6, if_neg h6, if_neg h7, if_neg h7]
  by_cases h4 : k = 4
  · rw [if_pos h4, if_pos (.inl h4)]; subst h4; rfl
  by_cases h8 : k = 8
  · rw [if_neg h4, if_pos h8, if_pos (.inr (.inl h8))]; subst h8; rfl
  rw [if_neg h4, if_neg h8]
  by_cases h13 : k = 13
  · rw [if_pos (.inr (.inr h13))]; subst h13; rfl
  rw [if_neg (by omega)]
  have e : (k == 13) = false := by simp [h13]
  rw [e]
  simp only [value_bits.j0]
  by_cases h3 : k = 3
  · rw [if_neg (by simp), if_pos h3, if_pos (.inl h3)]; rfl
  by_cases h14 : k = 14
  · rw [if_neg (by simp), if_neg h3, if_pos h14, if_pos (.inr h14)]; rfl
  rw [if_neg (by simp), if_neg h3, if_neg h14, if_neg (by omega)]; rfl
theorem bitsR_le (k : Int) : bitsR k ≤ 64 := by unfold bitsR; (repeat' split) <;> omega
theorem one_j2 (m : Nat) (k : Int) (neg : Bool) (n : Int) (s : ByteArray) (l : List S25) (_hk : k ≠ 9 ∧ k ≠ 10) :
    value_One.j2 (m + 1) k (k == 14) k neg n s l = some (if k = 14 then true else if k = 5 then bigR s else
    (s.toList == ([] : List UInt8)) && (if k = 3 then !decide (19 < n ∧ n < 32) else if k = 12 then decide ((l.length : Int) % 2 = 0) else
      if k = 13 then decide (l.length = 1) && !(decide (n / 2 = 1) && decide ((rd_T25 l 0).f0 = 9) && bigR (rd_T25 l 0).f3) else true)) := by
  simp only [value_One.j2]
  by_cases h14 : k = 14
  · rw [if_pos (by simp [h14]), if_pos h14]
  rw [if_neg (by simp [h14]), if_neg h14]
  by_cases h5 : k = 5
  · rw [if_pos h5, if_pos h5, big_f]; rfl
  rw [if_neg h5, if_neg h5]
  by_cases h3 : k = 3
  · rw [if_pos h3, if_pos h3]
    by_cases c1 : n > 19
    · rw [if_pos c1]
      by_cases c2 : n < 32
      · rw [if_pos c2]; simp [show 19 < n by omega, c2]
      · rw [if_neg c2]; simp [c2]
    · rw [if_neg c1]; simp [show ¬ 19 < n by omega]
  rw [if_neg h3, if_neg h3]
  by_cases h12 : k = 12
  · rw [if_pos h12, if_pos h12]
    by_cases c1 : (l.length : Int) % 2 = 0
    · rw [if_pos c1]; simp [c1]
    · rw [if_neg c1]; simp [c1]
  rw [if_neg h12, if_neg h12]
  by_cases h13 : k = 13
  · rw [if_pos h13, if_pos h13]
    by_cases c1 : (l.length : Int) = 1
    · have c1' : l.length = 1 := by omega
      rw [if_pos c1]
      by_cases c2 : n / 2 = 1
      · rw [if_pos c2, if_pos (by omega)]
        by_cases c3 : (rd_T25 l 0).f0 = 9
        · rw [if_pos c3, big_f]
          simp only [Option.bind_some]
          by_cases c4 : bigR (rd_T25 l 0).f3 = true
          · rw [if_pos c4]; simp [c1', c2, c3, c4]
          · rw [if_neg c4]; simp [c1', c2, c3, c4]
        · rw [if_neg c3]; simp [c1', c3]
      · rw [if_neg c2]; simp [c1', c2]
    · have c1' : ¬ l.length = 1 := by omega
      rw [if_neg c1]; simp [c1']
  rw [if_neg h13, if_neg h13]; simp
theorem one_j1 (m : Nat) (k : Int) (neg : Bool) (n : Int) (s : ByteArray) (l : List S25) (b : Bool) (hs : s.size ≤ 140737488351232) :
    value_One.j1 (m + 2) (!b) k neg n s l = some (b && (if k = 10 then (Utf.checkF s).2 == 0 else if k = 9 ∨ k = 14 then true else if k = 5 then bigR s else
    (s.toList == ([] : List UInt8)) && (if k = 3 then !decide (19 < n ∧ n < 32) else if k = 12 then decide ((l.length : Int) % 2 = 0) else
      if k = 13 then decide (l.length = 1) && !(decide (n / 2 = 1) && decide ((rd_T25 l 0).f0 = 9) && bigR (rd_T25 l 0).f3) else true))) := by
  rw [show m + 2 = (m + 1) + 1 from rfl]
  simp only [value_One.j1]
  cases b
  · simp
  · rw [if_neg (by simp)]
    by_cases h10 : k = 10
    · rw [if_pos h10, if_pos h10]; unfold utf_Check.f; rw [if_pos hs]; simp
    rw [if_neg h10, if_neg h10]
    by_cases h9 : k = 9
    · rw [if_pos h9, if_pos (.inl h9)]; subst h9; simp [value_One.j2]
    rw [if_neg h9, one_j2 m k neg n s l ⟨h9, h10⟩]
    by_cases h14 : k = 14
    · rw [if_pos h14, if_pos (.inr h14)]; simp
    · rw [if_neg h14, if_neg (show ¬ (k = 9 ∨ k = 14) by omega)]; simp
theorem one_j0 (m : Nat) (k : Int) (neg : Bool) (n : Int) (s : ByteArray) (l : List S25) (hs : s.size ≤ 140737488351232) (hn : 0 ≤ n ∧ n ≤ 18446744073709551615) :
    value_One.j0 (m + 3) false k neg n s l = some (decide (n < 2 ^ bitsR k) && (if k = 10 then (Utf.checkF s).2 == 0 else if k = 9 ∨ k = 14 then true else if k = 5 then bigR s else
    (s.toList == ([] : List UInt8)) && (if k = 3 then !decide (19 < n ∧ n < 32) else if k = 12 then decide ((l.length : Int) % 2 = 0) else
      if k = 13 then decide (l.length = 1) && !(decide (n / 2 = 1) && decide ((rd_T25 l 0).f0 = 9) && bigR (rd_T25 l 0).f3) else true))) := by
  rw [show m + 3 = (m + 2) + 1 from rfl]
  simp only [value_One.j0]
  have hb := bitsR_le k
  rw [if_neg (by simp), show m + 2 = (m + 1) + 1 from rfl, bits_f, Option.bind_some]
  by_cases h : (bitsR k : Int) < 64
  · rw [if_pos h, if_pos (by omega), shr_ne n (bitsR k) hb hn.1]
    exact one_j1 m k neg n s l _ hs
  · rw [if_neg h]
    have e : bitsR k = 64 := by omega
    have e2 : decide (n < 2 ^ bitsR k) = true := by rw [e]; simp; omega
    rw [e2]
    exact one_j1 m k neg n s l true hs
theorem one_f (y : S25) (hw : wfS25 y) : Ev (fun k => value_One.f k y.f0 y.f1 y.f2 y.f3 y.f4) (oneR y) := by
  obtain ⟨k, neg, n, s, l⟩ := y
  simp only [wfS25] at hw
  have hn := wf_u64 hw.2.2.1
  have hs : s.size ≤ 140737488351232 := hw.2.2.2.1
  refine ⟨3, fun q hq => ?_⟩
  obtain ⟨m, rfl⟩ : ∃ m, q = m + 3 := ⟨q - 3, by omega⟩
  have ht : value_One.j0 (m + 3) true k neg n s l = some false := by rw [show m + 3 = (m + 2) + 1 from rfl]; simp [value_One.j0]
  unfold value_One.f oneR
  simp only
  by_cases h0 : k < 0
  · rw [if_pos h0, ht]; simp [show ¬ 0 ≤ k by omega]
  by_cases h1 : k > 14
  · rw [if_neg h0, if_pos h1, ht]; simp [show ¬ k ≤ 14 by omega]
  rw [if_neg h0, if_neg h1]
  have e : decide (0 ≤ k ∧ k ≤ 14) = true := decide_eq_true ⟨by omega, by omega⟩
  rw [e, Bool.true_and]
  by_cases h2 : neg = true
  · rw [if_pos h2]
    by_cases h4 : k = 4
    · rw [if_pos h4, one_j0 m k neg n s l hs hn]; simp [h4]
    · rw [if_neg h4]
      by_cases h5 : k = 5
      · rw [show (k != 5) = false by simp [h5], one_j0 m k neg n s l hs hn]; simp [h5]
      · rw [show (k != 5) = true by simp [h5], ht]; simp [h2, h4, h5]
  · rw [if_neg h2, one_j0 m k neg n s l hs hn]; simp [h2]
/-- Is all of a value right. -/
def okR (y : S25) : Bool := oneR y && !(leafR y.f0 && decide (0 < y.f4.length))
/-- May a tree be. -/
def checkR (x : S25) : Int := if 64 < depR x then 2 else if 65536 < cnt x then 2 else if (subs x).all okR then 0 else 9
theorem chk_f : ∀ l : List S25, (∀ y ∈ l, wfS25 y) → Ev (fun k => Each.chk T25 (fun y => value_One.f k y.f0 y.f1 y.f2 y.f3 y.f4) (fun y => value_Leaf.f y.f0 y.f1 y.f2 y.f3 y.f4) l) (if l.all okR then 0 else 9)
  | [], _ => Ev.const rfl
  | y :: l, h => by
    refine Ev.congr (fun k => by simp only [Each.chk]; rfl) (Ev.bind (one_f y (h y (by simp))) ?_)
    simp only [List.all_cons]
    by_cases h1 : oneR y = true
    · refine Ev.pos h1 (Ev.pre (leaf_f ..) ?_)
      by_cases h2 : leafR y.f0 = true
      · refine Ev.pos h2 ?_
        by_cases h3 : 0 < y.f4.length
        · refine Ev.pos h3 (Ev.const ?_)
          simp [okR, h2, h3]
        · refine Ev.neg h3 (Ev.res (chk_f l (fun z hz => h z (by simp [hz]))) ?_)
          simp [okR, h1, h3]
      · refine Ev.neg h2 (Ev.res (chk_f l (fun z hz => h z (by simp [hz]))) ?_)
        simp [okR, h1, h2]
    · refine Ev.neg h1 (Ev.const ?_)
      simp [okR, h1]
mutual
theorem wf_subs : ∀ x : S25, wfS25 x → ∀ y ∈ subs x, wfS25 y
  | ⟨a, b, c, d, l⟩, h, y, hy => by
    simp only [subs, List.mem_cons] at hy
    rcases hy with rfl | hy
    · exact h
    · exact wf_subsL l (wf_kids h).2 y hy
theorem wf_subsL : ∀ l : List S25, (∀ x ∈ l, wfS25 x) → ∀ y ∈ subsL l, wfS25 y
  | [], _, y, hy => by simp [subsL] at hy
  | x :: l, h, y, hy => by
    simp only [subsL, List.mem_append] at hy
    rcases hy with hy | hy
    · exact wf_subs x (h x (by simp)) y hy
    · exact wf_subsL l (fun z hz => h z (by simp [hz])) y hy
end
theorem count_f (x : S25) (hs : szS25 x ≤ 4194304) : value_Count.f x.f0 x.f1 x.f2 x.f3 x.f4 = some (cnt x : Int) := by
  obtain ⟨a, b, c, d, l⟩ := x
  have h1 := dep_sz ⟨a, b, c, d, l⟩
  have h2 := cnt_sz ⟨a, b, c, d, l⟩
  unfold value_Count.f
  dsimp only
  rw [if_pos (by omega), nodes_len, wrap_id (by omega) (by omega)]
theorem check_f (x : S25) (hw : wfS25 x) (hs : szS25 x ≤ 4194304) : Ev (fun k => value_Check.f k x.f0 x.f1 x.f2 x.f3 x.f4) (checkR x) := by
  obtain ⟨a, b, c, d, l⟩ := x
  have h1 := dep_sz ⟨a, b, c, d, l⟩
  have h2 := cnt_sz ⟨a, b, c, d, l⟩
  dsimp only
  refine Ev.congr (fun k => by unfold value_Check.f; rfl) (Ev.bind (depth_f _ ⟨a, b, c, d, l⟩ (Nat.lt_succ_self _) (by omega) hw) ?_)
  refine Ev.pos (by omega) ?_
  unfold checkR
  by_cases c1 : 64 < depR ⟨a, b, c, d, l⟩
  · exact Ev.pos c1 (Ev.const (by rw [if_pos c1]))
  rw [if_neg c1]
  refine Ev.neg c1 ?_
  rw [nodes_len, wrap_id (by omega) (by omega), nodes_subs _ _ _ (Nat.lt_succ_self _)]
  by_cases c2 : 65536 < cnt ⟨a, b, c, d, l⟩
  · exact Ev.pos (by omega) (Ev.const (by rw [if_pos c2]))
  rw [if_neg c2]
  exact Ev.neg (by omega) (chk_f _ (wf_subs _ hw))

mutual
/-- A tree's events. -/
def evR : S25 → List S37
  | ⟨k, neg, n, s, l⟩ => ⟨k, neg, n, s⟩ :: (evRL l ++ (if k = 11 ∨ k = 12 then [⟨15, false, 0, ⟨#[]⟩⟩] else []))
def evRL : List S25 → List S37
  | [] => []
  | x :: l => evR x ++ evRL l
end
theorem evRL_flat : ∀ l : List S25, evRL l = (l.map evR).flatten
  | [] => rfl
  | x :: l => by simp only [evRL, List.map_cons, List.flatten_cons, evRL_flat l]
theorem evs_R : ∀ (m : Nat) (x : S25), dep25 x < m → Each.evs T25 V37 m x = evR x := by
  intro m
  induction m with
  | zero => intro x h; omega
  | succ m ih =>
    rintro ⟨k, neg, n, s, l⟩ h
    have e : Each.evs T25 V37 (m + 1) ⟨k, neg, n, s, l⟩ = ⟨k, neg, n, s⟩ :: ((l.map (Each.evs T25 V37 m)).flatten ++ (if k = 11 ∨ k = 12 then [⟨15, false, 0, ⟨#[]⟩⟩] else [])) := rfl
    rw [e]
    simp only [evR, evRL_flat]
    rw [List.map_congr_left (fun y hy => ih y (by have := dep_kid (f0 := k) (f1 := neg) (f2 := n) (f3 := s) hy; omega))]
mutual
theorem evR_len : ∀ x : S25, (evR x).length ≤ 2 * cnt x
  | ⟨k, neg, n, s, l⟩ => by
    have := evRL_len l
    simp only [evR, cnt, List.length_cons, List.length_append]
    split <;> simp <;> omega
theorem evRL_len : ∀ l : List S25, (evRL l).length ≤ 2 * cntL l
  | [] => Nat.le_refl _
  | x :: l => by have := evR_len x; have := evRL_len l; simp only [evRL, cntL, List.length_append]; omega
end
/-- What Events answers. -/
def eventsT (x : S25) : List S37 × Int := (if checkR x = 0 then evR x else [], checkR x)
theorem events_f (x : S25) (hw : wfS25 x) (hs : szS25 x ≤ 1048576) : Ev (fun k => event_Events.f k x.f0 x.f1 x.f2 x.f3 x.f4) (eventsT x) := by
  obtain ⟨a, b, c, d, l⟩ := x
  have h1 := evR_len ⟨a, b, c, d, l⟩
  have h2 := cnt_sz ⟨a, b, c, d, l⟩
  refine Ev.congr (fun k => by unfold event_Events.f; rfl) (Ev.bind (check_f ⟨a, b, c, d, l⟩ hw (by omega)) ?_)
  dsimp only
  rw [evs_R _ _ (Nat.lt_succ_self _)]
  exact Ev.pos (by omega) (Ev.const rfl)

theorem awake_t : Ev (fun k => glossatorlaw09_awake.f k) true := by
  have h := events_f ⟨11, false, 0, ⟨#[]⟩, []⟩ (by simp only [wfS25]; exact ⟨by decide, trivial, by decide, by decide, by decide, (wfL25_iff _).2 (by simp)⟩) (by simp only [szS25, szL25]; decide)
  have e : eventsT ⟨11, false, 0, ⟨#[]⟩, []⟩ = ([⟨11, false, 0, ⟨#[]⟩⟩, ⟨15, false, 0, ⟨#[]⟩⟩], 0) := by
    unfold eventsT
    have hc : checkR ⟨11, false, 0, ⟨#[]⟩, []⟩ = 0 := by decide +kernel
    rw [hc]; rfl
  rw [e] at h
  dsimp only at h
  exact Ev.congr (fun k => by unfold glossatorlaw09_awake.f; rfl) (Ev.bind h (Ev.pos rfl (Ev.const rfl)))

/-- How an event changes (ends, depth, greatest depth). -/
def stepR (st : Int × Int × Int) (v : S37) : Int × Int × Int :=
  if v.f0 = 15 then (st.1 + 1, st.2.1 - 1, max st.2.2 (st.2.1 - 1)) else if v.f0 = 11 ∨ v.f0 = 12 then (st.1, st.2.1 + 1, max st.2.2 (st.2.1 + 1)) else (st.1, st.2.1, max st.2.2 st.2.1)
def runR (st : Int × Int × Int) (l : List S37) : Int × Int × Int := l.foldl stepR st
/-- Never below none. -/
def okS : Int × Int × Int → List S37 → Prop
  | _, [] => True
  | st, v :: l => 0 ≤ (stepR st v).2.1 ∧ okS (stepR st v) l
theorem okS_append : ∀ (a b : List S37) (st : Int × Int × Int), okS st a → okS (runR st a) b → okS st (a ++ b)
  | [], _, _, _, h => h
  | v :: a, b, st, h, k => ⟨h.1, okS_append a b (stepR st v) h.2 k⟩
theorem runR_append (a b : List S37) (st : Int × Int × Int) : runR st (a ++ b) = runR (runR st a) b := List.foldl_append
mutual
theorem ev_run : ∀ x : S25, (subs x).all okR = true → ∀ e d m : Int, 0 ≤ d → d ≤ m → ∃ m', runR (e, d, m) (evR x) = (e + (evR x).length - cnt x, d, m') ∧ okS (e, d, m) (evR x) ∧ m ≤ m' ∧ m' ≤ max m (d + depR x)
  | ⟨k, neg, n, s, l⟩, h, e, d, m, hd, hm => by
    simp only [subs, List.all_cons, Bool.and_eq_true] at h
    obtain ⟨h1, h2⟩ := h
    have hp := depRL_pos l
    have hk : 0 ≤ k ∧ k ≤ 14 := by
      simp only [okR, oneR, Bool.and_eq_true, decide_eq_true_eq] at h1
      exact h1.1.1.1.1
    simp only [evR, depR, cnt]
    by_cases hl : leafR k = true
    · have hk2 : k ≠ 11 ∧ k ≠ 12 ∧ k ≠ 13 := by simpa [leafR] using hl
      have hn : l = [] := by
        simp only [okR, hl, Bool.true_and, Bool.and_eq_true, Bool.not_eq_true', decide_eq_false_iff_not] at h1
        exact List.eq_nil_of_length_eq_zero (by omega)
      subst hn
      rw [if_neg (by omega), if_pos hl]
      have hst : stepR (e, d, m) ⟨k, neg, n, s⟩ = (e, d, max m d) := by
        unfold stepR; rw [if_neg (show ¬ k = 15 by omega), if_neg (show ¬ (k = 11 ∨ k = 12) by omega)]
      refine ⟨max m d, ?_, ⟨by rw [hst]; exact hd, trivial⟩, by omega, by split <;> omega⟩
      show stepR (e, d, m) ⟨k, neg, n, s⟩ = _
      rw [hst]
      simp [evRL, cntL]
      try omega
    · rw [if_neg hl]
      by_cases h13 : k = 13
      · rw [if_neg (by omega), List.append_nil]
        have hst : stepR (e, d, m) ⟨k, neg, n, s⟩ = (e, d, max m d) := by
          unfold stepR; rw [if_neg (show ¬ k = 15 by omega), if_neg (show ¬ (k = 11 ∨ k = 12) by omega)]
        obtain ⟨m', r1, r2, r3, r4⟩ := evL_run l h2 e d (max m d) hd (by omega)
        refine ⟨m', ?_, ⟨by rw [hst]; exact hd, by rw [hst]; exact r2⟩, by omega, by omega⟩
        show runR (stepR (e, d, m) ⟨k, neg, n, s⟩) (evRL l) = _
        rw [hst, r1]
        simp only [List.length_cons, Prod.mk.injEq, and_true]
        omega
      · have hk3 : k = 11 ∨ k = 12 := by
          have : ¬ (k ≠ 11 ∧ k ≠ 12 ∧ k ≠ 13) := by simpa [leafR] using hl
          omega
        rw [if_pos hk3]
        have hst : stepR (e, d, m) ⟨k, neg, n, s⟩ = (e, d + 1, max m (d + 1)) := by
          unfold stepR; rw [if_neg (show ¬ k = 15 by omega), if_pos hk3]
        obtain ⟨m', r1, r2, r3, r4⟩ := evL_run l h2 e (d + 1) (max m (d + 1)) (by omega) (by omega)
        have hst2 : stepR (e + (evRL l).length - cntL l, d + 1, m') ⟨15, false, 0, ⟨#[]⟩⟩ = (e + (evRL l).length - cntL l + 1, d, m') := by
          unfold stepR; rw [if_pos rfl]
          simp only [Prod.mk.injEq]
          refine ⟨by first | trivial | rfl, by omega, by omega⟩
        refine ⟨m', ?_, ⟨by rw [hst]; show 0 ≤ d + 1; omega, ?_⟩, by omega, by omega⟩
        · show runR (stepR (e, d, m) ⟨k, neg, n, s⟩) (evRL l ++ [⟨15, false, 0, ⟨#[]⟩⟩]) = _
          rw [hst, runR_append, r1]
          rw [show ∀ (st : Int × Int × Int) (v : S37), runR st [v] = stepR st v from fun _ _ => rfl, hst2]
          simp only [List.length_cons, List.length_append, List.length_nil, Prod.mk.injEq, and_true]
          omega
        · rw [hst]
          refine okS_append _ _ _ r2 ?_
          rw [r1]
          exact ⟨by rw [hst2]; exact hd, trivial⟩
theorem evL_run : ∀ l : List S25, (subsL l).all okR = true → ∀ e d m : Int, 0 ≤ d → d ≤ m → ∃ m', runR (e, d, m) (evRL l) = (e + (evRL l).length - cntL l, d, m') ∧ okS (e, d, m) (evRL l) ∧ m ≤ m' ∧ m' ≤ max m (d + depRL l)
  | [], _, e, d, m, hd, hm => ⟨m, by simp [runR, evRL, cntL], trivial, Int.le_refl _, by omega⟩
  | x :: l, h, e, d, m, hd, hm => by
    simp only [subsL, List.all_append, Bool.and_eq_true] at h
    obtain ⟨m1, r1, r2, r3, r4⟩ := ev_run x h.1 e d m hd hm
    obtain ⟨m2, q1, q2, q3, q4⟩ := evL_run l h.2 (e + (evR x).length - cnt x) d m1 hd (by omega)
    simp only [evRL, cntL, depRL]
    refine ⟨m2, ?_, okS_append _ _ _ r2 (by rw [r1]; exact q2), by omega, by omega⟩
    rw [runR_append, r1, q1]
    simp only [List.length_append, Prod.mk.injEq, and_true]
    omega
end
theorem rdE_get (xs : List S37) (j : Nat) (h : j < xs.length) : rd_T37 xs (j : Int) = xs[j] := by simp [rd_T37, List.getElem?_eq_getElem h]
theorem counts_l0 (xs : List S37) (hx : xs.length ≤ 4194304) (v0 : Int) (v1 : Bool) (v2 : Int) (v3 : ByteArray) (l : List S25) (r : Bool)
    (hend : ∀ st : Int × Int × Int, runR (0, 0, 0) xs = st → Ev (fun k => glossatorlaw09_EventCounts.l0 k xs st.1 st.2.1 st.2.2 (xs.length : Int) v0 v1 v2 v3 l) r) :
    ∀ (d j : Nat) (e dp m : Int), j + d = xs.length → runR (e, dp, m) (xs.drop j) = runR (0, 0, 0) xs → okS (e, dp, m) (xs.drop j) → 0 ≤ e → e ≤ j → -(j : Int) ≤ dp → dp ≤ j →
      Ev (fun k => glossatorlaw09_EventCounts.l0 k xs e dp m (j : Int) v0 v1 v2 v3 l) r := by
  intro d
  induction d with
  | zero =>
    intro j e dp m hj hr ho _ _ _ _
    obtain rfl : j = xs.length := by omega
    rw [List.drop_length] at hr
    exact hend (e, dp, m) hr.symm
  | succ d ih =>
    intro j e dp m hj hr ho h1 h2 h3 h4
    have hlt : j < xs.length := by omega
    rw [List.drop_eq_getElem_cons hlt] at hr ho
    obtain ⟨ho1, ho2⟩ := ho
    refine Ev.step (fun k => by simp only [glossatorlaw09_EventCounts.l0]; rfl) (Ev.pos (by omega) (Ev.pos (by omega) ?_))
    rw [rdE_get xs j hlt, wrap_id (x := (j : Int) + 1) (by omega) (by omega), wrap_id (x := dp - 1) (by omega) (by omega), wrap_id (x := e + 1) (by omega) (by omega), mx_max]
    have hr2 : runR (stepR (e, dp, m) xs[j]) (xs.drop (j + 1)) = runR (0, 0, 0) xs := hr
    by_cases c15 : xs[j].f0 = 15
    · have hst : stepR (e, dp, m) xs[j] = (e + 1, dp - 1, max m (dp - 1)) := by unfold stepR; rw [if_pos c15]
      rw [hst] at ho1 ho2 hr2
      have ho3 : 0 ≤ dp - 1 := ho1
      exact Ev.pos c15 (Ev.neg (by omega) (ih (j + 1) (e + 1) (dp - 1) _ (by omega) hr2 ho2 (by omega) (by omega) (by omega) (by omega)))
    · refine Ev.neg c15 ?_
      by_cases c11 : xs[j].f0 = 11 ∨ xs[j].f0 = 12
      · have hst : stepR (e, dp, m) xs[j] = (e, dp + 1, max m (dp + 1)) := by unfold stepR; rw [if_neg c15, if_pos c11]
        rw [hst] at ho1 ho2 hr2
        have ho3 : 0 ≤ dp + 1 := ho1
        have hj1 : Ev (fun k => glossatorlaw09_EventCounts.j1 k xs e dp m (j : Int) true v0 v1 v2 v3 l) r := by
          refine Ev.step (fun k => by simp only [glossatorlaw09_EventCounts.j1]; rfl) (Ev.pos (by first | trivial | rfl) ?_)
          rw [wrap_id (x := (j : Int) + 1) (by omega) (by omega), wrap_id (x := dp + 1) (by omega) (by omega), mx_max]
          exact Ev.neg (by omega) (ih (j + 1) e (dp + 1) _ (by omega) hr2 ho2 (by omega) (by omega) (by omega) (by omega))
        by_cases c1 : xs[j].f0 = 11
        · refine Ev.pos c1 ?_
          rw [show (xs[j].f0 == 11) = true from beq_iff_eq.mpr c1]; exact hj1
        · refine Ev.neg c1 ?_
          rw [show (xs[j].f0 == 12) = true from beq_iff_eq.mpr (by omega)]; exact hj1
      · have hst : stepR (e, dp, m) xs[j] = (e, dp, max m dp) := by unfold stepR; rw [if_neg c15, if_neg c11]
        rw [hst] at ho1 ho2 hr2
        have ho3 : 0 ≤ dp := ho1
        refine Ev.neg (by omega) ?_
        rw [show (xs[j].f0 == 12) = false from beq_eq_false_iff_ne.mpr (by omega)]
        refine Ev.step (fun k => by simp only [glossatorlaw09_EventCounts.j1]; rfl) (Ev.neg (by simp) ?_)
        rw [wrap_id (x := (j : Int) + 1) (by omega) (by omega), mx_max]
        exact Ev.neg (by omega) (ih (j + 1) e dp _ (by omega) hr2 ho2 (by omega) (by omega) (by omega) (by omega))
theorem EventCounts : glossatorlaw09_EventCounts.Pure := by
  intro a0 a1 a2 a3 a4 ha hs
  have h1 := dep_sz ⟨a0, a1, a2, a3, a4⟩
  have h2 := cnt_sz ⟨a0, a1, a2, a3, a4⟩
  have h3 := evR_len ⟨a0, a1, a2, a3, a4⟩
  refine Ev.rounds (Ev.congr (fun k => by unfold glossatorlaw09_EventCounts.f; rfl) (Ev.bind (events_f ⟨a0, a1, a2, a3, a4⟩ ha hs) ?_))
  unfold eventsT
  dsimp only
  by_cases hc : checkR ⟨a0, a1, a2, a3, a4⟩ = 0
  · rw [if_pos hc]
    refine Ev.pos hc ?_
    have hall : (subs ⟨a0, a1, a2, a3, a4⟩).all okR = true := by
      unfold checkR at hc
      split at hc
      · omega
      · split at hc
        · omega
        · split at hc
          · assumption
          · omega
    obtain ⟨m', r1, r2, r3, r4⟩ := ev_run ⟨a0, a1, a2, a3, a4⟩ hall 0 0 0 (by omega) (by omega)
    have hdp := depR_pos ⟨a0, a1, a2, a3, a4⟩
    refine counts_l0 (evR ⟨a0, a1, a2, a3, a4⟩) (by omega) a0 a1 a2 a3 a4 true (fun st hst => ?_) (evR ⟨a0, a1, a2, a3, a4⟩).length 0 0 0 0 (by omega) (by rw [List.drop_zero]) (by rw [List.drop_zero]; exact r2) (by omega) (by omega) (by omega) (by omega)
    rw [r1] at hst
    subst hst
    refine Ev.step (fun k => by simp only [glossatorlaw09_EventCounts.l0]; rfl) (Ev.neg (by omega) (Ev.pre (count_f ⟨a0, a1, a2, a3, a4⟩ (by omega)) ?_))
    rw [wrap_id (by omega) (by omega)]
    refine Ev.pos (by omega) (Ev.pos (by first | trivial | rfl) (Ev.bind (depth_f _ ⟨a0, a1, a2, a3, a4⟩ (Nat.lt_succ_self _) (by omega) ha) (Ev.pos (by omega) (Ev.bind awake_t (Ev.const rfl)))))
  · rw [if_neg hc]
    exact Ev.neg hc (Ev.bind (check_f ⟨a0, a1, a2, a3, a4⟩ ha (by omega)) (Ev.pos (by first | trivial | rfl) (Ev.pos (by first | trivial | rfl) (Ev.bind awake_t (Ev.const rfl)))))

end Go.Proofs.Ytcgpfclmcajekaa.Pure
