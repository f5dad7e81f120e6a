/- Proved: the pure statement of ValuePaths: each value of a tree that may be has its path, and they come in order. -/
import Derived.Test.YtdcpilajmbdfbaaPValuePathsx4
import Derived.Test.YtdcpilajmbdfbaaUtf
namespace Go.Proofs.Ytdcpilajmbdfbaa.Pure
open Go.RowKit Go.Proofs.Ytdcpilajmbdfbaa.PValuePaths Go.Proofs.YtdcpilajmbdfbaaW.PrintWords Go.Proofs.YtdcpilajmbdfbaaW.PrintLast Go.Proofs.YtdcpilajmbdfbaaW.PrintMore

theorem Ev.pos {α : Type} {c : Prop} [Decidable c] {f g : Nat → Option α} {r : α} (h : c) (k : Ev f r) : Ev (fun n => if c then f n else g n) r := Ev.congr (fun _ => if_pos h) k
theorem Ev.neg {α : Type} {c : Prop} [Decidable c] {f g : Nat → Option α} {r : α} (h : ¬ c) (k : Ev g r) : Ev (fun n => if c then f n else g n) r := Ev.congr (fun _ => if_neg h) k
theorem Ev.const {α : Type} {x : Option α} {r : α} (h : x = some r) : Ev (fun _ => x) r := ⟨0, fun _ _ => h⟩
theorem Ev.pre {α β : Type} {x : Option α} {a : α} {f : Nat → α → Option β} {r : β} (h : x = some a) (k : Ev (fun n => f n a) r) : Ev (fun n => x.bind (f n)) r := Ev.congr (fun _ => by rw [h]; rfl) k
theorem Ev.res {α : Type} {g : Nat → Option α} {r r' : α} (k : Ev g r') (e : r' = r) : Ev g r := e ▸ k
theorem wrap_id {x : Int} (h0 : -9223372036854775808 ≤ x) (h1 : x ≤ 9223372036854775807) : wrap64 x = x := by unfold wrap64; omega

theorem wf_i64 {n : Int} (h : (Lit.int .i64 n).wf = true) : -9223372036854775808 ≤ n ∧ n ≤ 9223372036854775807 := by
  simp [Lit.wf, IntKind.min, IntKind.max, IntKind.signed, IntKind.bits] at h; omega
theorem wf_u64 {n : Int} (h : (Lit.int .u64 n).wf = true) : 0 ≤ n ∧ n ≤ 18446744073709551615 := by
  simp [Lit.wf, IntKind.min, IntKind.max, IntKind.signed, IntKind.bits] at h; omega

theorem wf_kids {f0 : Int} {f1 : Bool} {f2 : Int} {f3 : ByteArray} {l : List S25} (h : wfS25 ⟨f0, f1, f2, f3, l⟩) : l.length * 64 ≤ 140737488351232 ∧ ∀ y ∈ l, wfS25 y := by
  simp only [wfS25] at h
  exact ⟨h.2.2.2.2.1, (wfL25_iff _).1 h.2.2.2.2.2⟩
theorem rdT_get (xs : List S25) (j : Nat) (h : j < xs.length) : rd_T25 xs (j : Int) = xs[j] := by
  simp [rd_T25, List.getElem?_eq_getElem h]
theorem dep_kid {f0 : Int} {f1 : Bool} {f2 : Int} {f3 : ByteArray} {l : List S25} {y : S25} (h : y ∈ l) : dep25 y < dep25 ⟨f0, f1, f2, f3, l⟩ := by
  have := dep25_mem l y h; simp only [dep25]; omega

mutual
/-- How many values a tree has. -/
def cnt : S25 → Nat
  | ⟨_, _, _, _, l⟩ => cntL l + 1
def cntL : List S25 → Nat
  | [] => 0
  | x :: l => cnt x + cntL l
end
mutual
/-- A tree's values, each ahead of those within it. -/
def subs : S25 → List S25
  | ⟨a, b, c, d, l⟩ => ⟨a, b, c, d, l⟩ :: subsL l
def subsL : List S25 → List S25
  | [] => []
  | x :: l => subs x ++ subsL l
end
mutual
theorem subs_len : ∀ x : S25, (subs x).length = cnt x
  | ⟨a, b, c, d, l⟩ => by simp only [subs, cnt, List.length_cons, subsL_len l]
theorem subsL_len : ∀ l : List S25, (subsL l).length = cntL l
  | [] => rfl
  | x :: l => by simp only [subsL, cntL, List.length_append, subs_len x, subsL_len l]
end
theorem nodesL_subs (f : List Int → S25 → List (List Int × S25)) (p : List Int) : ∀ (l : List S25) (i : Nat), (∀ y ∈ l, ∀ q, (f q y).map (·.2) = subs y) → (Each.Tree.nodesL f p l i).map (·.2) = subsL l
  | [], _, _ => rfl
  | y :: l, i, h => by simp only [Each.Tree.nodesL, List.map_append, subsL, h y (by simp), nodesL_subs f p l (i + 1) (fun z hz => h z (by simp [hz]))]
theorem nodes_subs : ∀ (m : Nat) (x : S25) (p : List Int), dep25 x < m → (T25.nodes m p x).map (·.2) = subs x := by
  intro m
  induction m with
  | zero => intro x p h; omega
  | succ m ih =>
    rintro ⟨a, b, c, d, l⟩ p h
    have e : T25.nodes (m + 1) p ⟨a, b, c, d, l⟩ = (p, ⟨a, b, c, d, l⟩) :: Each.Tree.nodesL (T25.nodes m) p l 0 := rfl
    rw [e, List.map_cons, nodesL_subs _ _ _ _ (fun y hy q => ih y q (by have := dep_kid (f0 := a) (f1 := b) (f2 := c) (f3 := d) hy; omega))]
    rfl
theorem nodes_len (x : S25) (p : List Int) : (T25.nodes (dep25 x + 1) p x).length = cnt x := by
  rw [← subs_len, ← nodes_subs _ x p (Nat.lt_succ_self _), List.length_map]
mutual
theorem dep_sz : ∀ x : S25, dep25 x ≤ szS25 x
  | ⟨a, b, c, d, l⟩ => by have := depL_sz l; simp only [dep25, szS25]; omega
theorem depL_sz : ∀ l : List S25, depL25 l ≤ szL25 l
  | [] => Nat.le_refl _
  | x :: l => by have := dep_sz x; have := depL_sz l; simp only [depL25, szL25]; omega
end
mutual
theorem cnt_sz : ∀ x : S25, cnt x ≤ szS25 x
  | ⟨a, b, c, d, l⟩ => by have := cntL_sz l; simp only [cnt, szS25]; omega
theorem cntL_sz : ∀ l : List S25, cntL l ≤ szL25 l
  | [] => Nat.le_refl _
  | x :: l => by have := cnt_sz x; have := cntL_sz l; simp only [cntL, szL25]; omega
end
theorem cnt_pos : ∀ x : S25, 1 ≤ cnt x
  | ⟨_, _, _, _, l⟩ => by simp only [cnt]; omega
/-- Are none within it. -/
def leafR (k : Int) : Bool := decide (k ≠ 11 ∧ k ≠ 12 ∧ k ≠ 13)
mutual
/-- How deep. -/
def depR : S25 → Int
  | ⟨k, _, _, _, l⟩ => if leafR k = true then (if k = 5 then 1 else 0) else depRL l + 1
def depRL : List S25 → Int
  | [] => 0
  | x :: l => max (depR x) (depRL l)
end
mutual
theorem depR_pos : ∀ x : S25, 0 ≤ depR x ∧ depR x ≤ dep25 x
  | ⟨k, _, _, _, l⟩ => by
    have := depRL_pos l
    simp only [depR, dep25]
    by_cases h : leafR k = true
    · rw [if_pos h]; by_cases h5 : k = 5
      · rw [if_pos h5]; omega
      · rw [if_neg h5]; omega
    · rw [if_neg h]; omega
theorem depRL_pos : ∀ l : List S25, 0 ≤ depRL l ∧ depRL l ≤ depL25 l
  | [] => by simp [depRL, depL25]
  | x :: l => by have := depR_pos x; have := depRL_pos l; simp only [depRL, depL25]; omega
end
theorem leaf_f (a0 : Int) (a1 : Bool) (a2 : Int) (a3 : ByteArray) (a4 : List S25) : value_Leaf.f a0 a1 a2 a3 a4 = some (leafR a0) := by
  unfold value_Leaf.f leafR
  by_cases h1 : a0 = 11
  · rw [if_pos h1]; simp [h1]
  · by_cases h2 : a0 = 12
    · rw [if_neg h1, if_pos h2]; simp [h2]
    · by_cases h3 : a0 = 13
      · rw [if_neg h1, if_neg h2, if_pos h3]; simp [h3]
      · rw [if_neg h1, if_neg h2, if_neg h3]; simp [h1, h2, h3]
theorem mx_max (a b : Int) : mx a b = max a b := by unfold mx; omega
theorem depth_l0 (l : List S25) (hl : l.length * 64 ≤ 140737488351232) (hd : depL25 l ≤ 9000000000000000000) (hf : ∀ x ∈ l, Ev (fun k => value_Depth.f k x.f0 x.f1 x.f2 x.f3 x.f4) (depR x)) :
    ∀ (d j : Nat) (a : Int), j + d = l.length → 0 ≤ a → a ≤ 9000000000000000000 → Ev (fun k => value_Depth.l0 k a l (l.length : Int) (j : Int)) (max a (depRL (l.drop j)) + 1) := by
  intro d
  induction d with
  | zero =>
    intro j a hj h0 h1
    refine Ev.step (fun k => by simp only [value_Depth.l0]; rfl) (Ev.neg (by omega) (Ev.const ?_))
    rw [List.drop_of_length_le (by omega), wrap_id (by omega) (by omega)]
    simp only [depRL]
    rw [show max a 0 = a by omega]
  | succ d ih =>
    intro j a hj h0 h1
    have hlt : j < l.length := by omega
    have hb := depR_pos l[j]
    have hm := dep25_mem l l[j] (List.getElem_mem hlt)
    refine Ev.step (fun k => by simp only [value_Depth.l0]; rfl) (Ev.pos (by omega) (Ev.pos (by omega) (Ev.pos (by omega) ?_)))
    rw [rdT_get l j hlt, wrap_id (by omega) (by omega)]
    refine Ev.bind (hf _ (List.getElem_mem hlt)) ?_
    rw [mx_max]
    refine Ev.res (ih (j + 1) _ (by omega) (by omega) (by omega)) ?_
    rw [List.drop_eq_getElem_cons hlt]
    simp only [depRL]
    omega
theorem depth_f : ∀ (m : Nat) (x : S25), dep25 x < m → m ≤ 9000000000000000000 → wfS25 x → Ev (fun k => value_Depth.f k x.f0 x.f1 x.f2 x.f3 x.f4) (depR x) := by
  intro m
  induction m with
  | zero => intro x h; omega
  | succ m ih =>
    rintro ⟨a0, a1, a2, a3, a4⟩ hd hm hw
    obtain ⟨hl, hk⟩ := wf_kids hw
    refine Ev.step (fun k => by simp only [value_Depth.f]; rfl) (Ev.pre (leaf_f a0 a1 a2 a3 a4) ?_)
    simp only [depR]
    by_cases h : leafR a0 = true
    · rw [if_pos h]
      refine Ev.pos h ?_
      by_cases h5 : a0 = 5
      · exact Ev.pos h5 (Ev.const (by rw [if_pos h5]))
      · exact Ev.neg h5 (Ev.const (by rw [if_neg h5]))
    · rw [if_neg h]
      have hdl : depL25 a4 < m := by simp only [dep25] at hd; omega
      refine Ev.neg h (Ev.res (depth_l0 a4 hl (by omega) (fun x hx => ih x (by have := dep25_mem a4 x hx; omega) (by omega) (hk x hx)) a4.length 0 0 (by omega) (by omega) (by omega)) ?_)
      have := depRL_pos a4
      rw [List.drop_zero]; omega

/-- Could bytes be a great number's. -/
def bigR (s : ByteArray) : Bool := decide (8 < (s.size : Int) ∧ (s.size : Int) ≤ 512) && (bt s 0 != 0)
theorem big_f (s : ByteArray) : value_big.f s = some (bigR s) := by
  unfold value_big.f bigR
  by_cases h1 : (s.size : Int) > 8
  · rw [if_pos h1]
    by_cases h2 : (s.size : Int) ≤ 512
    · rw [if_pos h2, if_pos (by omega)]; simp [show 8 < (s.size : Int) by omega, h2]
    · rw [if_neg h2]; simp [h2]
  · rw [if_neg h1]; simp [show ¬ 8 < (s.size : Int) by omega]
/-- How many bits a kind's number may have. -/
def bitsR (k : Int) : Nat := if k = 1 then 1 else if k = 6 then 16 else if k = 7 then 32 else if k = 4 ∨ k = 8 ∨ k = 13 then 64 else if k = 3 ∨ k = 14 then 8 else 0
/-- Is a value right, but for those within it. -/
def oneR (y : S25) : Bool :=
  decide (0 ≤ y.f0 ∧ y.f0 ≤ 14) && !(y.f1 && decide (y.f0 ≠ 4 ∧ y.f0 ≠ 5)) && decide (y.f2 < 2 ^ bitsR y.f0) &&
  (if y.f0 = 10 then (Utf.checkF y.f3).2 == 0 else if y.f0 = 9 ∨ y.f0 = 14 then true else if y.f0 = 5 then bigR y.f3 else
    (y.f3.toList == ([] : List UInt8)) && (if y.f0 = 3 then !decide (19 < y.f2 ∧ y.f2 < 32) else if y.f0 = 12 then decide ((y.f4.length : Int) % 2 = 0) else
      if y.f0 = 13 then decide (y.f4.length = 1) && !(decide (y.f2 / 2 = 1) && decide ((rd_T25 y.f4 0).f0 = 9) && bigR (rd_T25 y.f4 0).f3) else true))
theorem shr_ne (n : Int) (b : Nat) (hb : b ≤ 64) (h0 : 0 ≤ n) : (shr .u64 n (b : Int) != 0) = !decide (n < 2 ^ b) := by
  unfold shr
  rw [Int.toNat_natCast, Nat.min_eq_left (by simpa [IntKind.bits] using hb)]
  have hp : (0 : Int) < 2 ^ b := Int.pow_pos (by decide)
  by_cases h : n < 2 ^ b
  · rw [Int.ediv_eq_zero_of_lt h0 h]; simp [h]
  · have : n / 2 ^ b ≠ 0 := fun e => h (by
      have := Int.lt_ediv_add_one_mul_self n hp
      rw [e] at this; omega)
    simp [h, this]
theorem bits_f (k : Int) (m : Nat) : value_bits.f (m + 1) k = some (bitsR k : Int) := by
  unfold value_bits.f bitsR
  by_cases h1 : k = 1
  · rw [if_pos h1, if_pos h1]; rfl
  by_cases h6 : k = 6
  · rw [if_neg h1, if_neg h1, if_pos h6, if_pos h6]; rfl
  by_cases h7 : k = 7
  · rw [if_neg h1, if_neg h1, if_neg h6, if_neg h6, if_pos h7, if_pos h7]; rfl
  rw [if_neg h1, if_neg h1, if_neg h6, if_neg h6, if_neg h7, if_neg h7]
  by_cases h4 : k = 4
  · rw [if_pos h4, if_pos (.inl h4)]; subst h4; rfl
  by_cases h8 : k = 8
  · rw [if_neg h4, if_pos h8, if_pos (.inr (.inl h8))]; subst h8; rfl
  rw [if_neg h4, if_neg h8]
  by_cases h13 : k = 13
  · rw [if_pos (.inr (.inr h13))]; subst h13; rfl
  rw [if_neg (by omega)]
  have e : (k == 13) = false := by simp [h13]
  rw [e]
  simp only [value_bits.j0]
  by_cases h3 : k = 3
  · rw [if_neg (by simp), if_pos h3, if_pos (.inl h3)]; rfl
  by_cases h14 : k = 14
  · rw [if_neg (by simp), if_neg h3, if_pos h14, if_pos (.inr h14)]; rfl
  rw [if_neg (by simp), if_neg h3, if_neg h14, if_neg (by omega)]; rfl
theorem bitsR_le (k : Int) : bitsR k ≤ 64 := by unfold bitsR; (repeat' split) <;> omega
theorem one_j2 (m : Nat) (k : Int) (neg : Bool) (n : Int) (s : ByteArray) (l : List S25) (_hk : k ≠ 9 ∧ k ≠ 10) :
    value_One.j2 (m + 1) k (k == 14) k neg n s l = some (if k = 14 then true else if k = 5 then bigR s else
    (s.toList == ([] : List UInt8)) && (if k = 3 then !decide (19 < n ∧ n < 32) else if k = 12 then decide ((l.length : Int) % 2 = 0) else
      if k = 13 then decide (l.length = 1) && !(decide (n / 2 = 1) && decide ((rd_T25 l 0).f0 = 9) && bigR (rd_T25 l 0).f3) else true)) := by
  simp only [value_One.j2]
  by_cases h14 : k = 14
  · rw [if_pos (by simp [h14]), if_pos h14]
  rw [if_neg (by simp [h14]), if_neg h14]
  by_cases h5 : k = 5
  · rw [if_pos h5, if_pos h5, big_f]; rfl
  rw [if_neg h5, if_neg h5]
  by_cases h3 : k = 3
  · rw [if_pos h3, if_pos h3]
    by_cases c1 : n > 19
    · rw [if_pos c1]
      by_cases c2 : n < 32
      · rw [if_pos c2]; simp [show 19 < n by omega, c2]
      · rw [if_neg c2]; simp [c2]
    · rw [if_neg c1]; simp [show ¬ 19 < n by omega]
  rw [if_neg h3, if_neg h3]
  by_cases h12 : k = 12
  · rw [if_pos h12, if_pos h12]
    by_cases c1 : (l.length : Int) % 2 = 0
    · rw [if_pos c1]; simp [c1]
    · rw [if_neg c1]; simp [c1]
  rw [if_neg h12, if_neg h12]
  by_cases h13 : k = 13
  · rw [if_pos h13, if_pos h13]
    by_cases c1 : (l.length : Int) = 1
    · have c1' : l.length = 1 := by omega
      rw [if_pos c1]
      by_cases c2 : n / 2 = 1
      · rw [if_pos c2, if_pos (by omega)]
        by_cases c3 : (rd_T25 l 0).f0 = 9
        · rw [if_pos c3, big_f]
          simp only [Option.bind_some]
          by_cases c4 : bigR (rd_T25 l 0).f3 = true
          · rw [if_pos c4]; simp [c1', c2, c3, c4]
          · rw [if_neg c4]; simp [c1', c2, c3, c4]
        · rw [if_neg c3]; simp [c1', c3]
      · rw [if_neg c2]; simp [c1', c2]
    · have c1' : ¬ l.length = 1 := by omega
      rw [if_neg c1]; simp [c1']
  rw [if_neg h13, if_neg h13]; simp
theorem one_j1 (m : Nat) (k : Int) (neg : Bool) (n : Int) (s : ByteArray) (l : List S25) (b : Bool) (hs : s.size ≤ 140737488351232) :
    value_One.j1 (m + 2) (!b) k neg n s l = some (b && (if k = 10 then (Utf.checkF s).2 == 0 else if k = 9 ∨ k = 14 then true else if k = 5 then bigR s else
    (s.toList == ([] : List UInt8)) && (if k = 3 then !decide (19 < n ∧ n < 32) else if k = 12 then decide ((l.length : Int) % 2 = 0) else
      if k = 13 then decide (l.length = 1) && !(decide (n / 2 = 1) && decide ((rd_T25 l 0).f0 = 9) && bigR (rd_T25 l 0).f3) else true))) := by
  rw [show m + 2 = (m + 1) + 1 from rfl]
  simp only [value_One.j1]
  cases b
  · simp
  · rw [if_neg (by simp)]
    by_cases h10 : k = 10
    · rw [if_pos h10, if_pos h10]; unfold utf_Check.f; rw [if_pos hs]; simp
    rw [if_neg h10, if_neg h10]
    by_cases h9 : k = 9
    · rw [if_pos h9, if_pos (.inl h9)]; subst h9; simp [value_One.j2]
    rw [if_neg h9, one_j2 m k neg n s l ⟨h9, h10⟩]
    by_cases h14 : k = 14
    · rw [if_pos h14, if_pos (.inr h14)]; simp
    · rw [if_neg h14, if_neg (show ¬ (k = 9 ∨ k = 14) by omega)]; simp
theorem one_j0 (m : Nat) (k : Int) (neg : Bool) (n : Int) (s : ByteArray) (l : List S25) (hs : s.size ≤ 140737488351232) (hn : 0 ≤ n ∧ n ≤ 18446744073709551615) :
    value_One.j0 (m + 3) false k neg n s l = some (decide (n < 2 ^ bitsR k) && (if k = 10 then (Utf.checkF s).2 == 0 else if k = 9 ∨ k = 14 then true else if k = 5 then bigR s else
    (s.toList == ([] : List UInt8)) && (if k = 3 then !decide (19 < n ∧ n < 32) else if k = 12 then decide ((l.length : Int) % 2 = 0) else
      if k = 13 then decide (l.length = 1) && !(decide (n / 2 = 1) && decide ((rd_T25 l 0).f0 = 9) && bigR (rd_T25 l 0).f3) else true))) := by
  rw [show m + 3 = (m + 2) + 1 from rfl]
  simp only [value_One.j0]
  have hb := bitsR_le k
  rw [if_neg (by simp), show m + 2 = (m + 1) + 1 from rfl, bits_f, Option.bind_some]
  by_cases h : (bitsR k : Int) < 64
  · rw [if_pos h, if_pos (by omega), shr_ne n (bitsR k) hb hn.1]
    exact one_j1 m k neg n s l _ hs
  · rw [if_neg h]
    have e : bitsR k = 64 := by omega
    have e2 : decide (n < 2 ^ bitsR k) = true := by rw [e]; simp; omega
    rw [e2]
    exact one_j1 m k neg n s l true hs
theorem one_f (y : S25) (hw : wfS25 y) : Ev (fun k => value_One.f k y.f0 y.f1 y.f2 y.f3 y.f4) (oneR y) := by
  obtain ⟨k, neg, n, s, l⟩ := y
  simp only [wfS25] at hw
  have hn := wf_u64 hw.2.2.1
  have hs : s.size ≤ 140737488351232 := hw.2.2.2.1
  refine ⟨3, fun q hq => ?_⟩
  obtain ⟨m, rfl⟩ : ∃ m, q = m + 3 := ⟨q - 3, by omega⟩
  have ht : value_One.j0 (m + 3) true k neg n s l = some false := by rw [show m + 3 = (m + 2) + 1 from rfl]; simp [value_One.j0]
  unfold value_One.f oneR
  simp only
  by_cases h0 : k < 0
  · rw [if_pos h0, ht]; simp [show ¬ 0 ≤ k by omega]
  by_cases h1 : k > 14
  · rw [if_neg h0, if_pos h1, ht]; simp [show ¬ k ≤ 14 by omega]
  rw [if_neg h0, if_neg h1]
  have e : decide (0 ≤ k ∧ k ≤ 14) = true := decide_eq_true ⟨by omega, by omega⟩
  rw [e, Bool.true_and]
  by_cases h2 : neg = true
  · rw [if_pos h2]
    by_cases h4 : k = 4
    · rw [if_pos h4, one_j0 m k neg n s l hs hn]; simp [h4]
    · rw [if_neg h4]
      by_cases h5 : k = 5
      · rw [show (k != 5) = false by simp [h5], one_j0 m k neg n s l hs hn]; simp [h5]
      · rw [show (k != 5) = true by simp [h5], ht]; simp [h2, h4, h5]
  · rw [if_neg h2, one_j0 m k neg n s l hs hn]; simp [h2]
/-- Is all of a value right. -/
def okR (y : S25) : Bool := oneR y && !(leafR y.f0 && decide (0 < y.f4.length))
/-- May a tree be. -/
def checkR (x : S25) : Int := if 64 < depR x then 2 else if 65536 < cnt x then 2 else if (subs x).all okR then 0 else 9
theorem chk_f : ∀ l : List S25, (∀ y ∈ l, wfS25 y) → Ev (fun k => Each.chk T25 (fun y => value_One.f k y.f0 y.f1 y.f2 y.f3 y.f4) (fun y => value_Leaf.f y.f0 y.f1 y.f2 y.f3 y.f4) l) (if l.all okR then 0 else 9)
  | [], _ => Ev.const rfl
  | y :: l, h => by
    refine Ev.congr (fun k => by simp only [Each.chk]; rfl) (Ev.bind (one_f y (h y (by simp))) ?_)
    simp only [List.all_cons]
    by_cases h1 : oneR y = true
    · refine Ev.pos h1 (Ev.pre (leaf_f ..) ?_)
      by_cases h2 : leafR y.f0 = true
      · refine Ev.pos h2 ?_
        by_cases h3 : 0 < y.f4.length
        · refine Ev.pos h3 (Ev.const ?_)
          simp [okR, h2, h3]
        · refine Ev.neg h3 (Ev.res (chk_f l (fun z hz => h z (by simp [hz]))) ?_)
          simp [okR, h1, h3]
      · refine Ev.neg h2 (Ev.res (chk_f l (fun z hz => h z (by simp [hz]))) ?_)
        simp [okR, h1, h2]
    · refine Ev.neg h1 (Ev.const ?_)
      simp [okR, h1]
mutual
theorem wf_subs : ∀ x : S25, wfS25 x → ∀ y ∈ subs x, wfS25 y
  | ⟨a, b, c, d, l⟩, h, y, hy => by
    simp only [subs, List.mem_cons] at hy
    rcases hy with rfl | hy
    · exact h
    · exact wf_subsL l (wf_kids h).2 y hy
theorem wf_subsL : ∀ l : List S25, (∀ x ∈ l, wfS25 x) → ∀ y ∈ subsL l, wfS25 y
  | [], _, y, hy => by simp [subsL] at hy
  | x :: l, h, y, hy => by
    simp only [subsL, List.mem_append] at hy
    rcases hy with hy | hy
    · exact wf_subs x (h x (by simp)) y hy
    · exact wf_subsL l (fun z hz => h z (by simp [hz])) y hy
end
theorem count_f (x : S25) (hs : szS25 x ≤ 4194304) : value_Count.f x.f0 x.f1 x.f2 x.f3 x.f4 = some (cnt x : Int) := by
  obtain ⟨a, b, c, d, l⟩ := x
  have h1 := dep_sz ⟨a, b, c, d, l⟩
  have h2 := cnt_sz ⟨a, b, c, d, l⟩
  unfold value_Count.f
  dsimp only
  rw [if_pos (by omega), nodes_len, wrap_id (by omega) (by omega)]
theorem check_f (x : S25) (hw : wfS25 x) (hs : szS25 x ≤ 4194304) : Ev (fun k => value_Check.f k x.f0 x.f1 x.f2 x.f3 x.f4) (checkR x) := by
  obtain ⟨a, b, c, d, l⟩ := x
  have h1 := dep_sz ⟨a, b, c, d, l⟩
  have h2 := cnt_sz ⟨a, b, c, d, l⟩
  dsimp only
  refine Ev.congr (fun k => by unfold value_Check.f; rfl) (Ev.bind (depth_f _ ⟨a, b, c, d, l⟩ (Nat.lt_succ_self _) (by omega) hw) ?_)
  refine Ev.pos (by omega) ?_
  unfold checkR
  by_cases c1 : 64 < depR ⟨a, b, c, d, l⟩
  · exact Ev.pos c1 (Ev.const (by rw [if_pos c1]))
  rw [if_neg c1]
  refine Ev.neg c1 ?_
  rw [nodes_len, wrap_id (by omega) (by omega), nodes_subs _ _ _ (Nat.lt_succ_self _)]
  by_cases c2 : 65536 < cnt ⟨a, b, c, d, l⟩
  · exact Ev.pos (by omega) (Ev.const (by rw [if_pos c2]))
  rw [if_neg c2]
  exact Ev.neg (by omega) (chk_f _ (wf_subs _ hw))

mutual
theorem subs_sz : ∀ (x y : S25), y ∈ subs x → szS25 y ≤ szS25 x
  | ⟨a, b, c, d, l⟩, y, h => by
    simp only [subs, List.mem_cons] at h
    rcases h with rfl | h
    · exact Nat.le_refl _
    · have := subsL_sz l y h; simp only [szS25]; omega
theorem subsL_sz : ∀ (l : List S25) (y : S25), y ∈ subsL l → szS25 y ≤ szL25 l
  | [], y, h => by simp [subsL] at h
  | x :: l, y, h => by
    simp only [subsL, List.mem_append] at h
    rcases h with h | h
    · have := subs_sz x y h; simp only [szL25]; omega
    · have := subsL_sz l y h; simp only [szL25]; omega
end

theorem nodesL_mem (f : List Int → S25 → List (List Int × S25)) (p : List Int) : ∀ (l : List S25) (i : Nat) (q : List Int × S25), q ∈ Each.Tree.nodesL f p l i → ∃ y ∈ l, ∃ j : Nat, q ∈ f (p ++ [(j : Int)]) y
  | [], _, q, h => by simp [Each.Tree.nodesL] at h
  | y :: l, i, q, h => by
    simp only [Each.Tree.nodesL, List.mem_append] at h
    rcases h with h | h
    · exact ⟨y, by simp, i, h⟩
    · obtain ⟨z, hz, j, hj⟩ := nodesL_mem f p l (i + 1) q h
      exact ⟨z, by simp [hz], j, hj⟩
theorem nodes_path : ∀ (m : Nat) (x : S25) (p : List Int) (q : List Int × S25), q ∈ T25.nodes m p x → q.1.length + dep25 q.2 ≤ p.length + dep25 x := by
  intro m
  induction m with
  | zero => intro x p q h; simp [Each.Tree.nodes] at h
  | succ m ih =>
    rintro ⟨a, b, c, d, l⟩ p q h
    have e : T25.nodes (m + 1) p ⟨a, b, c, d, l⟩ = (p, ⟨a, b, c, d, l⟩) :: Each.Tree.nodesL (T25.nodes m) p l 0 := rfl
    rw [e, List.mem_cons] at h
    rcases h with rfl | h
    · exact Nat.le_refl _
    · obtain ⟨y, hy, j, hj⟩ := nodesL_mem _ _ _ _ _ h
      have := ih y _ q hj
      have := dep_kid (f0 := a) (f1 := b) (f2 := c) (f3 := d) hy
      simp only [List.length_append, List.length_singleton] at *
      omega
/-- The paths of a tree's values. -/
def pathsT (x : S25) : List (List Int) := ((T25.nodes (dep25 x + 1) [] x).map (·.1)).take 65536
theorem paths_f (x : S25) (hs : szS25 x ≤ 4194304) : value_Paths.f x.f0 x.f1 x.f2 x.f3 x.f4 = some (pathsT x) := by
  obtain ⟨a, b, c, d, l⟩ := x
  have h1 := dep_sz ⟨a, b, c, d, l⟩
  unfold value_Paths.f
  dsimp only
  rw [if_pos (by omega)]; rfl
theorem pathsT_len (x : S25) : (pathsT x).length ≤ 65536 := by unfold pathsT; rw [List.length_take]; omega
theorem pathsT_short (x : S25) (p : List Int) (h : p ∈ pathsT x) : p.length ≤ dep25 x := by
  unfold pathsT at h
  have h2 := List.mem_of_mem_take h
  rw [List.mem_map] at h2
  obtain ⟨q, hq, rfl⟩ := h2
  have := nodes_path _ x [] q hq
  simp at this
  omega
theorem rdL_get (xs : List (List Int)) (j : Nat) (h : j < xs.length) : rd_L5 xs (j : Int) = xs[j] := by simp [rd_L5, List.getElem?_eq_getElem h]
theorem rd_get (xs : List Int) (j : Nat) (h : j < xs.length) : rd xs (j : Int) = xs[j] := by simp [rd, List.getElem?_eq_getElem h]

theorem awake_t : glossatorlaw08_awake.f = some true := by
  unfold glossatorlaw08_awake.f value_Count.f
  decide +kernel
/-- What stands at a path. -/
def atR : S25 → List Int → S25 × Int
  | v, [] => (v, 0)
  | v, i :: p => if i < 0 ∨ i ≥ (v.f4.length : Int) then (z25, 1) else atR (rd_T25 v.f4 i) p
def tup (r : S25 × Int) : Int × Bool × Int × ByteArray × List S25 × Int := (r.1.f0, r.1.f1, r.1.f2, r.1.f3, r.1.f4, r.2)
theorem at_l0 (p : List Int) (hp : p.length * 8 ≤ 140737488351232) : ∀ (d j : Nat) (v : S25), j + d = p.length → Ev (fun k => value_At.l0 k p (p.length : Int) (j : Int) v.f0 v.f1 v.f2 v.f3 v.f4) (tup (atR v (p.drop j))) := by
  intro d
  induction d with
  | zero =>
    intro j v hj
    refine Ev.step (fun k => by simp only [value_At.l0]; rfl) (Ev.neg (by omega) (Ev.const ?_))
    rw [List.drop_of_length_le (by omega)]; rfl
  | succ d ih =>
    intro j v hj
    have h1 : j < p.length := by omega
    refine Ev.step (fun k => by simp only [value_At.l0]; rfl) (Ev.pos (by omega) (Ev.pos (by omega) (Ev.pos (by omega) ?_)))
    rw [rd_get p j h1, List.drop_eq_getElem_cons h1, wrap_id (by omega) (by omega)]
    simp only [atR]
    by_cases c0 : p[j] < 0
    · refine Ev.pos c0 (Ev.const ?_)
      rw [if_pos (Or.inl c0)]; rfl
    · refine Ev.neg c0 ?_
      by_cases c1 : p[j] ≥ (v.f4.length : Int)
      · refine Ev.pos c1 (Ev.const ?_)
        rw [if_pos (Or.inr c1)]; rfl
      · rw [if_neg (by omega)]
        exact Ev.neg c1 (Ev.pos (by omega) (Ev.pos (by omega) (ih (j + 1) _ (by omega))))
theorem nodesL_at (f : List Int → S25 → List (List Int × S25)) (p : List Int) : ∀ (l : List S25) (i : Nat) (q : List Int × S25), q ∈ Each.Tree.nodesL f p l i → ∃ (j : Nat) (h : j < l.length), q ∈ f (p ++ [((i + j : Nat) : Int)]) l[j]
  | [], _, q, h => by simp [Each.Tree.nodesL] at h
  | y :: l, i, q, h => by
    simp only [Each.Tree.nodesL, List.mem_append] at h
    rcases h with h | h
    · exact ⟨0, by simp, by simpa using h⟩
    · obtain ⟨j, hj, hq⟩ := nodesL_at f p l (i + 1) q h
      exact ⟨j + 1, by simpa using hj, by simpa [Nat.add_assoc, Nat.add_comm 1 j] using hq⟩
/-- Each value of a tree that is right: its path leads to it; how deep it may be. -/
theorem nodes_at : ∀ (m : Nat) (x : S25) (p : List Int) (q : List Int × S25), (subs x).all okR = true → q ∈ T25.nodes m p x →
    ∃ r, q.1 = p ++ r ∧ atR x r = (q.2, 0) ∧ (r.length : Int) + depR q.2 ≤ depR x ∧ cnt q.2 ≤ cnt x ∧ (subs q.2).all okR = true := by
  intro m
  induction m with
  | zero => intro x p q _ h; simp [Each.Tree.nodes] at h
  | succ m ih =>
    rintro ⟨a, b, c, d, l⟩ p q hall h
    have e : T25.nodes (m + 1) p ⟨a, b, c, d, l⟩ = (p, ⟨a, b, c, d, l⟩) :: Each.Tree.nodesL (T25.nodes m) p l 0 := rfl
    rw [e, List.mem_cons] at h
    rcases h with rfl | h
    · exact ⟨[], by simp, rfl, by simp, Nat.le_refl _, hall⟩
    · obtain ⟨j, hj, hq⟩ := nodesL_at _ _ _ _ _ h
      have hmem := List.getElem_mem hj
      simp only [subs, List.all_cons, Bool.and_eq_true] at hall
      have hl : leafR a = false := by
        by_cases hl : leafR a = true
        · have h1 := hall.1
          simp only [okR, hl, Bool.true_and, Bool.and_eq_true, Bool.not_eq_true', decide_eq_false_iff_not] at h1
          omega
        · exact Bool.eq_false_iff.2 hl
      have hsub : (subs l[j]).all okR = true := (subsL_all l).1 hall.2 _ hmem
      obtain ⟨r, h1, h2, h3, h4, h5⟩ := ih l[j] _ q hsub hq
      refine ⟨(j : Int) :: r, by rw [h1]; simp, ?_, ?_, ?_, h5⟩
      · simp only [atR]
        rw [if_neg (by omega), rdT_get l j hj]
        exact h2
      · have := depRL_mem l _ hmem
        simp only [depR, hl]
        simp only [List.length_cons]
        simp
        omega
      · have := cntL_mem l _ hmem
        simp only [cnt]; omega
where
  subsL_all : ∀ l : List S25, ((subsL l).all okR = true ↔ ∀ y ∈ l, (subs y).all okR = true)
  | [] => by simp [subsL]
  | x :: l => by simp only [subsL, List.all_append, Bool.and_eq_true, subsL_all l, List.mem_cons, forall_eq_or_imp]
  depRL_mem : ∀ (l : List S25) (y : S25), y ∈ l → depR y ≤ depRL l
  | z :: l, y, h => by
    simp only [depRL]
    rcases List.mem_cons.1 h with rfl | h
    · omega
    · have := depRL_mem l y h; omega
  cntL_mem : ∀ (l : List S25) (y : S25), y ∈ l → cnt y ≤ cntL l
  | z :: l, y, h => by
    simp only [cntL]
    rcases List.mem_cons.1 h with rfl | h
    · omega
    · have := cntL_mem l y h; omega
/-- Does a path come ahead. -/
def aheadR : List Int → List Int → Bool
  | [], b => decide (b.length = 1)
  | _ :: _, [] => false
  | x :: a, y :: b => if y < x then false else if x < y then true else aheadR a b
theorem ahead_l0 (a b : List Int) (ha : a.length ≤ 4194304) (hb : b.length ≤ 4194304) : ∀ (d j : Nat), j + d = a.length → j ≤ b.length → Ev (fun k => glossatorlaw08_ahead.l0 k a b (j : Int)) (aheadR (a.drop j) (b.drop j)) := by
  intro d
  induction d with
  | zero =>
    intro j hj hjb
    refine Ev.step (fun k => by simp only [glossatorlaw08_ahead.l0]; rfl) (Ev.neg (by omega) (Ev.const ?_))
    rw [List.drop_of_length_le (by omega), wrap_id (by omega) (by omega)]
    simp only [aheadR, List.length_drop]
    congr 1
    rw [Bool.eq_iff_iff]
    simp only [beq_iff_eq, decide_eq_true_eq]
    omega
  | succ d ih =>
    intro j hj hjb
    have h1 : j < a.length := by omega
    refine Ev.step (fun k => by simp only [glossatorlaw08_ahead.l0]; rfl) (Ev.pos (by omega) ?_)
    rw [List.drop_eq_getElem_cons h1]
    by_cases c : j < b.length
    · refine Ev.neg (by omega) (Ev.pos (by omega) (Ev.pos (by omega) ?_))
      rw [List.drop_eq_getElem_cons c, rd_get a j h1, rd_get b j c]
      simp only [aheadR]
      refine Ev.step (fun k => by simp only [glossatorlaw08_ahead.j1]; rfl) ?_
      by_cases c1 : b[j] < a[j]
      · refine Ev.pos (by simpa using c1) (Ev.const ?_)
        rw [if_pos c1]
      · refine Ev.neg (by simpa using c1) (Ev.pos (by omega) (Ev.pos (by omega) (Ev.pos (by omega) ?_)))
        rw [if_neg c1, rd_get a j h1, rd_get b j c, wrap_id (by omega) (by omega)]
        by_cases c2 : a[j] < b[j]
        · refine Ev.pos c2 (Ev.const ?_)
          rw [if_pos c2]
        · rw [if_neg c2]
          exact Ev.neg c2 (ih (j + 1) (by omega) (by omega))
    · refine Ev.pos (by omega) (Ev.step (fun k => by simp only [glossatorlaw08_ahead.j1]; rfl) ?_)
      rw [List.drop_of_length_le (by omega : b.length ≤ j)]
      exact Ev.pos (by trivial) (Ev.const rfl)
/-- One behind the other. -/
def adj : List (List Int) → Prop
  | a :: b :: l => aheadR a b = true ∧ adj (b :: l)
  | _ => True
theorem adj_append : ∀ (l l' : List (List Int)), adj l → adj l' → (∀ a b r, a ∈ l → l' = b :: r → aheadR a b = true) → adj (l ++ l')
  | [], l', _, h, _ => h
  | [a], [], _, _, _ => trivial
  | [a], b :: r, _, h, hb => ⟨hb a b r (by simp) rfl, h⟩
  | a :: b :: l, l', h, h', hb => ⟨h.1, adj_append (b :: l) l' h.2 h' (fun x y r hx hy => hb x y r (by simp at hx ⊢; exact .inr hx) hy)⟩
theorem adj_get : ∀ (l : List (List Int)) (j : Nat) (h : j + 1 < l.length), adj l → aheadR l[j] l[j + 1] = true
  | a :: b :: l, 0, _, ha => ha.1
  | a :: b :: l, j + 1, h, ha => adj_get (b :: l) j (by simpa using h) ha.2
theorem ahead_next (p r : List Int) (i i' : Int) (h : i < i') : aheadR (p ++ i :: r) (p ++ [i']) = true := by
  induction p with
  | nil => simp only [List.nil_append, aheadR]; rw [if_neg (by omega), if_pos h]
  | cons x p ih => simp only [List.cons_append, aheadR]; rw [if_neg (by omega), if_neg (by omega)]; exact ih
theorem ahead_child (p : List Int) (i : Int) : aheadR p (p ++ [i]) = true := by
  induction p with
  | nil => rfl
  | cons x p ih => simp only [List.cons_append, aheadR]; rw [if_neg (by omega), if_neg (by omega)]; exact ih
theorem nodes_pre : ∀ (m : Nat) (x : S25) (p : List Int) (q : List Int × S25), q ∈ T25.nodes m p x → ∃ r, q.1 = p ++ r := by
  intro m
  induction m with
  | zero => intro x p q h; simp [Each.Tree.nodes] at h
  | succ m ih =>
    rintro ⟨a, b, c, d, l⟩ p q h
    have e : T25.nodes (m + 1) p ⟨a, b, c, d, l⟩ = (p, ⟨a, b, c, d, l⟩) :: Each.Tree.nodesL (T25.nodes m) p l 0 := rfl
    rw [e, List.mem_cons] at h
    rcases h with rfl | h
    · exact ⟨[], by simp⟩
    · obtain ⟨y, hy, j, hj⟩ := nodesL_mem _ _ _ _ _ h
      obtain ⟨r, hr⟩ := ih y _ q hj
      exact ⟨(j : Int) :: r, by rw [hr]; simp⟩
theorem nodesL_head (m : Nat) (p : List Int) (l : List S25) (i : Nat) (b : List Int) (r : List (List Int)) (hm : ∀ y ∈ l, dep25 y < m) (h : (Each.Tree.nodesL (T25.nodes m) p l i).map (·.1) = b :: r) : b = p ++ [(i : Int)] := by
  cases l with
  | nil => simp [Each.Tree.nodesL] at h
  | cons y l =>
    cases m with
    | zero => have := hm y (by simp); omega
    | succ m =>
      have e : T25.nodes (m + 1) (p ++ [(i : Int)]) y = (p ++ [(i : Int)], y) :: Each.Tree.nodesL (T25.nodes m) (p ++ [(i : Int)]) (T25.kids y) 0 := rfl
      simp only [Each.Tree.nodesL, e, List.cons_append, List.map_cons, List.cons.injEq] at h
      exact h.1.symm
theorem nodes_adj : ∀ (m : Nat) (x : S25) (p : List Int), dep25 x < m → adj ((T25.nodes m p x).map (·.1)) := by
  intro m
  induction m with
  | zero => intro x p h; omega
  | succ m ih =>
    rintro ⟨a, b, c, d, l⟩ p hd
    have hk : ∀ y ∈ l, dep25 y < m := fun y hy => by have := dep_kid (f0 := a) (f1 := b) (f2 := c) (f3 := d) hy; omega
    have hL : ∀ (l : List S25) (i : Nat), (∀ y ∈ l, dep25 y < m) → adj ((Each.Tree.nodesL (T25.nodes m) p l i).map (·.1)) := by
      intro l
      induction l with
      | nil => intro i _; trivial
      | cons y l ihl =>
        intro i hk
        simp only [Each.Tree.nodesL, List.map_append]
        refine adj_append _ _ (ih y _ (hk y (by simp))) (ihl (i + 1) (fun z hz => hk z (by simp [hz]))) (fun q b r hq hb => ?_)
        obtain rfl := nodesL_head m p l (i + 1) b r (fun z hz => hk z (by simp [hz])) hb
        rw [List.mem_map] at hq
        obtain ⟨q', hq', rfl⟩ := hq
        obtain ⟨r', hr'⟩ := nodes_pre m y _ q' hq'
        rw [hr', List.append_assoc]
        exact ahead_next p r' _ _ (by omega)
    have e : T25.nodes (m + 1) p ⟨a, b, c, d, l⟩ = (p, ⟨a, b, c, d, l⟩) :: Each.Tree.nodesL (T25.nodes m) p l 0 := rfl
    rw [e, List.map_cons]
    refine adj_append [p] _ trivial (hL l 0 hk) (fun q b r hq hb => ?_)
    obtain rfl := nodesL_head m p l 0 b r hk hb
    obtain rfl := List.mem_singleton.1 hq
    exact ahead_child _ _
theorem ValuePaths : glossatorlaw08_ValuePaths.Pure := by
  intro a0 a1 a2 a3 a4 hw hs
  obtain ⟨x, hx⟩ : ∃ x : S25, (⟨a0, a1, a2, a3, a4⟩ : S25) = x := ⟨_, rfl⟩
  have hk : Ev (fun k => value_Check.f k a0 a1 a2 a3 a4) (checkR x) := by rw [← hx]; exact check_f ⟨a0, a1, a2, a3, a4⟩ hw (by omega)
  have hd : Ev (fun k => value_Depth.f k a0 a1 a2 a3 a4) (depR x) := by rw [← hx]; exact depth_f _ ⟨a0, a1, a2, a3, a4⟩ (Nat.lt_succ_self _) (by have := dep_sz ⟨a0, a1, a2, a3, a4⟩; omega) hw
  have hc : value_Count.f a0 a1 a2 a3 a4 = some (cnt x : Int) := by rw [← hx]; exact count_f ⟨a0, a1, a2, a3, a4⟩ (by omega)
  have hp : value_Paths.f a0 a1 a2 a3 a4 = some (pathsT x) := by rw [← hx]; exact paths_f ⟨a0, a1, a2, a3, a4⟩ (by omega)
  have hat : ∀ p : List Int, p.length * 8 ≤ 140737488351232 → Ev (fun k => value_At.f k a0 a1 a2 a3 a4 p) (tup (atR x p)) := fun p hpl => by
    rw [← hx]; exact Ev.congr (fun k => by unfold value_At.f; rfl) (at_l0 p hpl p.length 0 ⟨a0, a1, a2, a3, a4⟩ (by omega))
  rw [hx] at hw hs
  have hdz := dep_sz x
  have hdr := depR_pos x
  refine Ev.rounds (Ev.congr (fun k => by unfold glossatorlaw08_ValuePaths.f; rfl) (Ev.bind hk ?_))
  by_cases h0 : checkR x = 0
  · have hq := h0
    unfold checkR at hq
    by_cases c1 : 64 < depR x
    · rw [if_pos c1] at hq; cases hq
    by_cases c2 : 65536 < cnt x
    · rw [if_neg c1, if_pos c2] at hq; cases hq
    rw [if_neg c1, if_neg c2] at hq
    have hall : (subs x).all okR = true := by
      by_cases c3 : (subs x).all okR = true
      · exact c3
      · rw [if_neg c3] at hq; cases hq
    obtain ⟨N, hN⟩ : ∃ N, T25.nodes (dep25 x + 1) [] x = N := ⟨_, rfl⟩
    have hNl : N.length = cnt x := by rw [← hN]; exact nodes_len x []
    have hpT : pathsT x = N.map (·.1) := by unfold pathsT; rw [hN]; exact List.take_of_length_le (by rw [List.length_map]; omega)
    have hadj : adj (pathsT x) := by rw [hpT, ← hN]; exact nodes_adj _ x [] (Nat.lt_succ_self _)
    have hlen : (pathsT x).length = cnt x := by rw [hpT, List.length_map, hNl]
    have hshort : ∀ (j : Nat) (h : j < (pathsT x).length), (pathsT x)[j].length ≤ 4194304 := fun j h => by have := pathsT_short x _ (List.getElem_mem h); omega
    have hc1 := cnt_pos x
    have hwsub := wf_subs x hw
    refine Ev.pos h0 (Ev.pre hp (Ev.pre hc (Ev.pos (by omega) (Ev.neg (by omega) (Ev.pos (by omega) ?_)))))
    have h00 : ((rd_L5 (pathsT x) 0).length : Int) = 0 := by
      have e : pathsT x = [] :: (pathsT x).tail := by
        rw [hpT, ← hN]
        obtain ⟨a, b, c, d, l⟩ := x
        rfl
      rw [e]; rfl
    rw [show (((rd_L5 (pathsT x) 0).length : Int) != 0) = false by rw [h00]; rfl]
    refine Ev.step (fun k => by simp only [glossatorlaw08_ValuePaths.j0]; rfl) (Ev.neg (by simp) ?_)
    have main : ∀ (d j : Nat), j + d = (pathsT x).length → Ev (fun k => glossatorlaw08_ValuePaths.l0 k (pathsT x) (j : Int) a0 a1 a2 a3 a4) true := by
      intro d
      induction d with
      | zero =>
        intro j hj
        exact Ev.step (fun k => by simp only [glossatorlaw08_ValuePaths.l0]; rfl) (Ev.neg (by omega) (Ev.pre awake_t (Ev.const rfl)))
      | succ d ih =>
        intro j hj
        have hlt : j < (pathsT x).length := by omega
        refine Ev.step (fun k => by simp only [glossatorlaw08_ValuePaths.l0]; rfl) (Ev.pos (by omega) (Ev.pos (by omega) ?_))
        rw [rdL_get _ j hlt]
        have hps := hshort j hlt
        have hjN : j < N.length := by rw [hNl]; omega
        have hpj : (pathsT x)[j] = N[j].1 := by simp [hpT]
        obtain ⟨r, hr1, hr2, hr3, hr4, hr5⟩ := nodes_at (dep25 x + 1) x [] N[j] hall (by rw [hN]; exact List.getElem_mem hjN)
        rw [List.nil_append] at hr1
        have hyin : N[j].2 ∈ subs x := by
          rw [← nodes_subs (dep25 x + 1) x [] (Nat.lt_succ_self _), hN]
          exact List.mem_map_of_mem (List.getElem_mem hjN)
        have hpth := nodes_path (dep25 x + 1) x [] N[j] (by rw [hN]; exact List.getElem_mem hjN)
        obtain ⟨y, hy⟩ : ∃ y, N[j].2 = y := ⟨_, rfl⟩
        rw [hy] at hr2 hr3 hr4 hr5 hyin hpth
        have hsy : szS25 y ≤ 4194304 := by have := subs_sz x y hyin; omega
        have hky : checkR y = 0 := by unfold checkR; rw [if_neg (by omega), if_neg (by omega), if_pos hr5]
        have hap := hat (pathsT x)[j] (by omega)
        rw [hpj, hr1, hr2] at hap
        rw [hpj, hr1]
        refine Ev.bind hap ?_
        simp only [tup]
        have hwy := hwsub y hyin
        have hdy : Ev (fun k => value_Depth.f k y.f0 y.f1 y.f2 y.f3 y.f4) (depR y) := depth_f _ y (Nat.lt_succ_self _) (by have := dep_sz y; omega) hwy
        refine Ev.pos (by first | trivial | rfl) (Ev.bind (check_f y hwy hsy) (Ev.pos hky (Ev.bind hdy (Ev.bind hd ?_))))
        have hr1' : (pathsT x)[j].length = r.length := by rw [hpj, hr1]
        have hdp := depR_pos y
        rw [wrap_id (by omega) (by omega), show decide ((r.length : Int) + depR y > depR x) = false from decide_eq_false (by omega)]
        refine Ev.step (fun k => by simp only [glossatorlaw08_ValuePaths.j2]; rfl) (Ev.neg (by simp) ?_)
        have hnext := ih (j + 1) (by omega)
        rw [wrap_id (x := (j : Int) + 1) (by omega) (by omega)]
        by_cases hj0 : j = 0
        · exact Ev.neg (by omega) hnext
        · have hj1 : wrap64 ((j : Int) - 1) = ((j - 1 : Nat) : Int) := by rw [wrap_id (by omega) (by omega)]; omega
          rw [hj1]
          refine Ev.pos (by omega) (Ev.pos (by omega) (Ev.pos (by omega) (Ev.pos (by omega) (Ev.pos (by omega) ?_))))
          have hlt1 : j - 1 < (pathsT x).length := by omega
          rw [rdL_get _ (j - 1) hlt1, rdL_get _ j hlt]
          refine Ev.bind (Ev.congr (fun k => by unfold glossatorlaw08_ahead.f; rfl) (ahead_l0 _ _ (hshort _ hlt1) hps (pathsT x)[j - 1].length 0 (by omega) (Nat.zero_le _))) ?_
          rw [List.drop_zero, List.drop_zero]
          refine Ev.pos ?_ hnext
          have := adj_get (pathsT x) (j - 1) (by omega) hadj
          simpa [show j - 1 + 1 = j by omega] using this
    exact main (pathsT x).length 0 (by omega)
  · exact Ev.neg h0 (Ev.pre awake_t (Ev.const rfl))

end Go.Proofs.Ytdcpilajmbdfbaa.Pure
