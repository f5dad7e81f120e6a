/- Proved: the pure statement of PackEncodes: the program's bytes of any tree are the document's. -/
import Derived.Test.YtchklgkakefhbaaPPackEncodesx11
import Derived.Test.YtchklgkakefhbaaUtf
namespace Go.Proofs.Ytchklgkakefhbaa.Pure
open Go.RowKit Go.Proofs.Ytchklgkakefhbaa.PPackEncodes Go.Proofs.YtchklgkakefhbaaW.PrintWords Go.Proofs.YtchklgkakefhbaaW.PrintLast Go.Proofs.YtchklgkakefhbaaW.PrintMore

theorem Ev.pos {α : Type} {c : Prop} [Decidable c] {f g : Nat → Option α} {r : α} (h : c) (k : Ev f r) : Ev (fun n => if c then f n else g n) r := Ev.congr (fun _ => if_pos h) k
theorem Ev.neg {α : Type} {c : Prop} [Decidable c] {f g : Nat → Option α} {r : α} (h : ¬ c) (k : Ev g r) : Ev (fun n => if c then f n else g n) r := Ev.congr (fun _ => if_neg h) k
theorem Ev.const {α : Type} {x : Option α} {r : α} (h : x = some r) : Ev (fun _ => x) r := ⟨0, fun _ _ => h⟩
theorem Ev.pre {α β : Type} {x : Option α} {a : α} {f : Nat → α → Option β} {r : β} (h : x = some a) (k : Ev (fun n => f n a) r) : Ev (fun n => x.bind (f n)) r := Ev.congr (fun _ => by rw [h]; rfl) k
theorem Ev.res {α : Type} {g : Nat → Option α} {r r' : α} (k : Ev g r') (e : r' = r) : Ev g r := e ▸ k
theorem wrap_id {x : Int} (h0 : -9223372036854775808 ≤ x) (h1 : x ≤ 9223372036854775807) : wrap64 x = x := by unfold wrap64; omega

theorem wf_i64 {n : Int} (h : (Lit.int .i64 n).wf = true) : -9223372036854775808 ≤ n ∧ n ≤ 9223372036854775807 := by
  simp [Lit.wf, IntKind.min, IntKind.max, IntKind.signed, IntKind.bits] at h; omega
theorem wf_u64 {n : Int} (h : (Lit.int .u64 n).wf = true) : 0 ≤ n ∧ n ≤ 18446744073709551615 := by
  simp [Lit.wf, IntKind.min, IntKind.max, IntKind.signed, IntKind.bits] at h; omega

theorem wf_kids {f0 : Int} {f1 : Bool} {f2 : Int} {f3 : ByteArray} {l : List S25} (h : wfS25 ⟨f0, f1, f2, f3, l⟩) : l.length * 64 ≤ 140737488351232 ∧ ∀ y ∈ l, wfS25 y := by
  simp only [wfS25] at h
  exact ⟨h.2.2.2.2.1, (wfL25_iff _).1 h.2.2.2.2.2⟩
theorem rdT_get (xs : List S25) (j : Nat) (h : j < xs.length) : rd_T25 xs (j : Int) = xs[j] := by
  simp [rd_T25, List.getElem?_eq_getElem h]
theorem dep_kid {f0 : Int} {f1 : Bool} {f2 : Int} {f3 : ByteArray} {l : List S25} {y : S25} (h : y ∈ l) : dep25 y < dep25 ⟨f0, f1, f2, f3, l⟩ := by
  have := dep25_mem l y h; simp only [dep25]; omega

mutual
/-- How many values a tree has. -/
def cnt : S25 → Nat
  | ⟨_, _, _, _, l⟩ => cntL l + 1
def cntL : List S25 → Nat
  | [] => 0
  | x :: l => cnt x + cntL l
end
mutual
/-- A tree's values, each ahead of those within it. -/
def subs : S25 → List S25
  | ⟨a, b, c, d, l⟩ => ⟨a, b, c, d, l⟩ :: subsL l
def subsL : List S25 → List S25
  | [] => []
  | x :: l => subs x ++ subsL l
end
mutual
theorem subs_len : ∀ x : S25, (subs x).length = cnt x
  | ⟨a, b, c, d, l⟩ => by simp only [subs, cnt, List.length_cons, subsL_len l]
theorem subsL_len : ∀ l : List S25, (subsL l).length = cntL l
  | [] => rfl
  | x :: l => by simp only [subsL, cntL, List.length_append, subs_len x, subsL_len l]
end
theorem nodesL_subs (f : List Int → S25 → List (List Int × S25)) (p : List Int) : ∀ (l : List S25) (i : Nat), (∀ y ∈ l, ∀ q, (f q y).map (·.2) = subs y) → (Each.Tree.nodesL f p l i).map (·.2) = subsL l
  | [], _, _ => rfl
  | y :: l, i, h => by simp only [Each.Tree.nodesL, List.map_append, subsL, h y (by simp), nodesL_subs f p l (i + 1) (fun z hz => h z (by simp [hz]))]
theorem nodes_subs : ∀ (m : Nat) (x : S25) (p : List Int), dep25 x < m → (T25.nodes m p x).map (·.2) = subs x := by
  intro m
  induction m with
  | zero => intro x p h; omega
  | succ m ih =>
    rintro ⟨a, b, c, d, l⟩ p h
    have e : T25.nodes (m + 1) p ⟨a, b, c, d, l⟩ = (p, ⟨a, b, c, d, l⟩) :: Each.Tree.nodesL (T25.nodes m) p l 0 := rfl
    rw [e, List.map_cons, nodesL_subs _ _ _ _ (fun y hy q => ih y q (by have := dep_kid (f0 := a) (f1 := b) (f2 := c) (f3 := d) hy; omega))]
    rfl
theorem nodes_len (x : S25) (p : List Int) : (T25.nodes (dep25 x + 1) p x).length = cnt x := by
  rw [← subs_len, ← nodes_subs _ x p (Nat.lt_succ_self _), List.length_map]
mutual
theorem dep_sz : ∀ x : S25, dep25 x ≤ szS25 x
  | ⟨a, b, c, d, l⟩ => by have := depL_sz l; simp only [dep25, szS25]; omega
theorem depL_sz : ∀ l : List S25, depL25 l ≤ szL25 l
  | [] => Nat.le_refl _
  | x :: l => by have := dep_sz x; have := depL_sz l; simp only [depL25, szL25]; omega
end
mutual
theorem cnt_sz : ∀ x : S25, cnt x ≤ szS25 x
  | ⟨a, b, c, d, l⟩ => by have := cntL_sz l; simp only [cnt, szS25]; omega
theorem cntL_sz : ∀ l : List S25, cntL l ≤ szL25 l
  | [] => Nat.le_refl _
  | x :: l => by have := cnt_sz x; have := cntL_sz l; simp only [cntL, szL25]; omega
end
theorem cnt_pos : ∀ x : S25, 1 ≤ cnt x
  | ⟨_, _, _, _, l⟩ => by simp only [cnt]; omega
/-- Are none within it. -/
def leafR (k : Int) : Bool := decide (k ≠ 11 ∧ k ≠ 12 ∧ k ≠ 13)
mutual
/-- How deep. -/
def depR : S25 → Int
  | ⟨k, _, _, _, l⟩ => if leafR k = true then (if k = 5 then 1 else 0) else depRL l + 1
def depRL : List S25 → Int
  | [] => 0
  | x :: l => max (depR x) (depRL l)
end
mutual
theorem depR_pos : ∀ x : S25, 0 ≤ depR x ∧ depR x ≤ dep25 x
  | ⟨k, _, _, _, l⟩ => by
    have := depRL_pos l
    simp only [depR, dep25]
    by_cases h : leafR k = true
    · rw [if_pos h]; by_cases h5 : k = 5
      · rw [if_pos h5]; omega
      · rw [if_neg h5]; omega
    · rw [if_neg h]; omega
theorem depRL_pos : ∀ l : List S25, 0 ≤ depRL l ∧ depRL l ≤ depL25 l
  | [] => by simp [depRL, depL25]
  | x :: l => by have := depR_pos x; have := depRL_pos l; simp only [depRL, depL25]; omega
end
theorem leaf_f (a0 : Int) (a1 : Bool) (a2 : Int) (a3 : ByteArray) (a4 : List S25) : value_Leaf.f a0 a1 a2 a3 a4 = some (leafR a0) := by
  unfold value_Leaf.f leafR
  by_cases h1 : a0 = 11
  · rw [if_pos h1]; simp [h1]
  · by_cases h2 : a0 = 12
    · rw [if_neg h1, if_pos h2]; simp [h2]
    · by_cases h3 : a0 = 13
      · rw [if_neg h1, if_neg h2, if_pos h3]; simp [h3]
      · rw [if_neg h1, if_neg h2, if_neg h3]; simp [h1, h2, h3]
theorem mx_max (a b : Int) : mx a b = max a b := by unfold mx; omega
theorem depth_l0 (l : List S25) (hl : l.length * 64 ≤ 140737488351232) (hd : depL25 l ≤ 9000000000000000000) (hf : ∀ x ∈ l, Ev (fun k => value_Depth.f k x.f0 x.f1 x.f2 x.f3 x.f4) (depR x)) :
    ∀ (d j : Nat) (a : Int), j + d = l.length → 0 ≤ a → a ≤ 9000000000000000000 → Ev (fun k => value_Depth.l0 k a l (l.length : Int) (j : Int)) (max a (depRL (l.drop j)) + 1) := by
  intro d
  induction d with
  | zero =>
    intro j a hj h0 h1
    refine Ev.step (fun k => by simp only [value_Depth.l0]; rfl) (Ev.neg (by omega) (Ev.const ?_))
    rw [List.drop_of_length_le (by omega), wrap_id (by omega) (by omega)]
    simp only [depRL]
    rw [show max a 0 = a by omega]
  | succ d ih =>
    intro j a hj h0 h1
    have hlt : j < l.length := by omega
    have hb := depR_pos l[j]
    have hm := dep25_mem l l[j] (List.getElem_mem hlt)
    refine Ev.step (fun k => by simp only [value_Depth.l0]; rfl) (Ev.pos (by omega) (Ev.pos (by omega) (Ev.pos (by omega) ?_)))
    rw [rdT_get l j hlt, wrap_id (by omega) (by omega)]
    refine Ev.bind (hf _ (List.getElem_mem hlt)) ?_
    rw [mx_max]
    refine Ev.res (ih (j + 1) _ (by omega) (by omega) (by omega)) ?_
    rw [List.drop_eq_getElem_cons hlt]
    simp only [depRL]
    omega
theorem depth_f : ∀ (m : Nat) (x : S25), dep25 x < m → m ≤ 9000000000000000000 → wfS25 x → Ev (fun k => value_Depth.f k x.f0 x.f1 x.f2 x.f3 x.f4) (depR x) := by
  intro m
  induction m with
  | zero => intro x h; omega
  | succ m ih =>
    rintro ⟨a0, a1, a2, a3, a4⟩ hd hm hw
    obtain ⟨hl, hk⟩ := wf_kids hw
    refine Ev.step (fun k => by simp only [value_Depth.f]; rfl) (Ev.pre (leaf_f a0 a1 a2 a3 a4) ?_)
    simp only [depR]
    by_cases h : leafR a0 = true
    · rw [if_pos h]
      refine Ev.pos h ?_
      by_cases h5 : a0 = 5
      · exact Ev.pos h5 (Ev.const (by rw [if_pos h5]))
      · exact Ev.neg h5 (Ev.const (by rw [if_neg h5]))
    · rw [if_neg h]
      have hdl : depL25 a4 < m := by simp only [dep25] at hd; omega
      refine Ev.neg h (Ev.res (depth_l0 a4 hl (by omega) (fun x hx => ih x (by have := dep25_mem a4 x hx; omega) (by omega) (hk x hx)) a4.length 0 0 (by omega) (by omega) (by omega)) ?_)
      have := depRL_pos a4
      rw [List.drop_zero]; omega

/-- Could bytes be a great number's. -/
def bigR (s : ByteArray) : Bool := decide (8 < (s.size : Int) ∧ (s.size : Int) ≤ 512) && (bt s 0 != 0)
theorem big_f (s : ByteArray) : value_big.f s = some (bigR s) := by
  unfold value_big.f bigR
  by_cases h1 : (s.size : Int) > 8
  · rw [if_pos h1]
    by_cases h2 : (s.size : Int) ≤ 512
    · rw [if_pos h2, if_pos (by omega)]; simp [show 8 < (s.size : Int) by omega, h2]
    · rw [if_neg h2]; simp [h2]
  · rw [if_neg h1]; simp [show ¬ 8 < (s.size : Int) by omega]
/-- How many bits a kind's number may have. -/
def bitsR (k : Int) : Nat := if k = 1 then 1 else if k = 6 then 16 else if k = 7 then 32 else if k = 4 ∨ k = 8 ∨ k = 13 then 64 else if k = 3 ∨ k = 14 then 8 else 0
/-- Is a value right, but for those within it. -/
def oneR (y : S25) : Bool :=
  decide (0 ≤ y.f0 ∧ y.f0 ≤ 14) && !(y.f1 && decide (y.f0 ≠ 4 ∧ y.f0 ≠ 5)) && decide (y.f2 < 2 ^ bitsR y.f0) &&
  (if y.f0 = 10 then (Utf.checkF y.f3).2 == 0 else if y.f0 = 9 ∨ y.f0 = 14 then true else if y.f0 = 5 then bigR y.f3 else
    (y.f3.toList == ([] : List UInt8)) && (if y.f0 = 3 then !decide (19 < y.f2 ∧ y.f2 < 32) else if y.f0 = 12 then decide ((y.f4.length : Int) % 2 = 0) else
      if y.f0 = 13 then decide (y.f4.length = 1) && !(decide (y.f2 / 2 = 1) && decide ((rd_T25 y.f4 0).f0 = 9) && bigR (rd_T25 y.f4 0).f3) else true))
theorem shr_ne (n : Int) (b : Nat) (hb : b ≤ 64) (h0 : 0 ≤ n) : (shr .u64 n (b : Int) != 0) = !decide (n < 2 ^ b) := by
  unfold shr
  rw [Int.toNat_natCast, Nat.min_eq_left (by simpa [IntKind.bits] using hb)]
  have hp : (0 : Int) < 2 ^ b := Int.pow_pos (by decide)
  by_cases h : n < 2 ^ b
  · rw [Int.ediv_eq_zero_of_lt h0 h]; simp [h]
  · have : n / 2 ^ b ≠ 0 := fun e => h (by
      have := Int.lt_ediv_add_one_mul_self n hp
      rw [e] at this; omega)
    simp [h, this]
theorem bits_f (k : Int) (m : Nat) : value_bits.f (m + 1) k = some (bitsR k : Int) := by
  unfold value_bits.f bitsR
  by_cases h1 : k = 1
  · rw [if_pos h1, if_pos h1]; rfl
  by_cases h6 : k = 6
  · rw [if_neg h1, if_neg h1, if_pos h6, if_pos h6]; rfl
  by_cases h7 : k = 7
  · rw [if_neg h1, if_neg h1, if_neg h6, if_neg h6, if_pos h7, if_pos h7]; rfl
  rw [if_neg h1, if_neg h1, if_neg h6, if_neg h6, if_neg h7, if_neg h7]
  by_cases h4 : k = 4
  · rw [if_pos h4, if_pos (.inl h4)]; subst h4; rfl
  by_cases h8 : k = 8
  · rw [if_neg h4, if_pos h8, if_pos (.inr (.inl h8))]; subst h8; rfl
  rw [if_neg h4, if_neg h8]
  by_cases h13 : k = 13
  · rw [if_pos (.inr (.inr h13))]; subst h13; rfl
  rw [if_neg (by omega)]
  have e : (k == 13) = false := by simp [h13]
  rw [e]
  simp only [value_bits.j0]
  by_cases h3 : k = 3
  · rw [if_neg (by simp), if_pos h3, if_pos (.inl h3)]; rfl
  by_cases h14 : k = 14
  · rw [if_neg (by simp), if_neg h3, if_pos h14, if_pos (.inr h14)]; rfl
  rw [if_neg (by simp), if_neg h3, if_neg h14, if_neg (by omega)]; rfl
theorem bitsR_le (k : Int) : bitsR k ≤ 64 := by unfold bitsR; (repeat' split) <;> omega
theorem one_j2 (m : Nat) (k : Int) (neg : Bool) (n : Int) (s : ByteArray) (l : List S25) (_hk : k ≠ 9 ∧ k ≠ 10) :
    value_One.j2 (m + 1) k (k == 14) k neg n s l = some (if k = 14 then true else if k = 5 then bigR s else
    (s.toList == ([] : List UInt8)) && (if k = 3 then !decide (19 < n ∧ n < 32) else if k = 12 then decide ((l.length : Int) % 2 = 0) else
      if k = 13 then decide (l.length = 1) && !(decide (n / 2 = 1) && decide ((rd_T25 l 0).f0 = 9) && bigR (rd_T25 l 0).f3) else true)) := by
  simp only [value_One.j2]
  by_cases h14 : k = 14
  · rw [if_pos (by simp [h14]), if_pos h14]
  rw [if_neg (by simp [h14]), if_neg h14]
  by_cases h5 : k = 5
  · rw [if_pos h5, if_pos h5, big_f]; rfl
  rw [if_neg h5, if_neg h5]
  by_cases h3 : k = 3
  · rw [if_pos h3, if_pos h3]
    by_cases c1 : n > 19
    · rw [if_pos c1]
      by_cases c2 : n < 32
      · rw [if_pos c2]; simp [show 19 < n by omega, c2]
      · rw [if_neg c2]; simp [c2]
    · rw [if_neg c1]; simp [show ¬ 19 < n by omega]
  rw [if_neg h3, if_neg h3]
  by_cases h12 : k = 12
  · rw [if_pos h12, if_pos h12]
    by_cases c1 : (l.length : Int) % 2 = 0
    · rw [if_pos c1]; simp [c1]
    · rw [if_neg c1]; simp [c1]
  rw [if_neg h12, if_neg h12]
  by_cases h13 : k = 13
  · rw [if_pos h13, if_pos h13]
    by_cases c1 : (l.length : Int) = 1
    · have c1' : l.length = 1 := by omega
      rw [if_pos c1]
      by_cases c2 : n / 2 = 1
      · rw [if_pos c2, if_pos (by omega)]
        by_cases c3 : (rd_T25 l 0).f0 = 9
        · rw [if_pos c3, big_f]
          simp only [Option.bind_some]
          by_cases c4 : bigR (rd_T25 l 0).f3 = true
          · rw [if_pos c4]; simp [c1', c2, c3, c4]
          · rw [if_neg c4]; simp [c1', c2, c3, c4]
        · rw [if_neg c3]; simp [c1', c3]
      · rw [if_neg c2]; simp [c1', c2]
    · have c1' : ¬ l.length = 1 := by omega
      rw [if_neg c1]; simp [c1']
  rw [if_neg h13, if_neg h13]; simp
theorem one_j1 (m : Nat) (k : Int) (neg : Bool) (n : Int) (s : ByteArray) (l : List S25) (b : Bool) (hs : s.size ≤ 140737488351232) :
    value_One.j1 (m + 2) (!b) k neg n s l = some (b && (if k = 10 then (Utf.checkF s).2 == 0 else if k = 9 ∨ k = 14 then true else if k = 5 then bigR s else
    (s.toList == ([] : List UInt8)) && (if k = 3 then !decide (19 < n ∧ n < 32) else if k = 12 then decide ((l.length : Int) % 2 = 0) else
      if k = 13 then decide (l.length = 1) && !(decide (n / 2 = 1) && decide ((rd_T25 l 0).f0 = 9) && bigR (rd_T25 l 0).f3) else true))) := by
  rw [show m + 2 = (m + 1) + 1 from rfl]
  simp only [value_One.j1]
  cases b
  · simp
  · rw [if_neg (by simp)]
    by_cases h10 : k = 10
    · rw [if_pos h10, if_pos h10]; unfold utf_Check.f; rw [if_pos hs]; simp
    rw [if_neg h10, if_neg h10]
    by_cases h9 : k = 9
    · rw [if_pos h9, if_pos (.inl h9)]; subst h9; simp [value_One.j2]
    rw [if_neg h9, one_j2 m k neg n s l ⟨h9, h10⟩]
    by_cases h14 : k = 14
    · rw [if_pos h14, if_pos (.inr h14)]; simp
    · rw [if_neg h14, if_neg (show ¬ (k = 9 ∨ k = 14) by omega)]; simp
theorem one_j0 (m : Nat) (k : Int) (neg : Bool) (n : Int) (s : ByteArray) (l : List S25) (hs : s.size ≤ 140737488351232) (hn : 0 ≤ n ∧ n ≤ 18446744073709551615) :
    value_One.j0 (m + 3) false k neg n s l = some (decide (n < 2 ^ bitsR k) && (if k = 10 then (Utf.checkF s).2 == 0 else if k = 9 ∨ k = 14 then true else if k = 5 then bigR s else
    (s.toList == ([] : List UInt8)) && (if k = 3 then !decide (19 < n ∧ n < 32) else if k = 12 then decide ((l.length : Int) % 2 = 0) else
      if k = 13 then decide (l.length = 1) && !(decide (n / 2 = 1) && decide ((rd_T25 l 0).f0 = 9) && bigR (rd_T25 l 0).f3) else true))) := by
  rw [show m + 3 = (m + 2) + 1 from rfl]
  simp only [value_One.j0]
  have hb := bitsR_le k
  rw [if_neg (by simp), show m + 2 = (m + 1) + 1 from rfl, bits_f, Option.bind_some]
  by_cases h : (bitsR k : Int) < 64
  · rw [if_pos h, if_pos (by omega), shr_ne n (bitsR k) hb hn.1]
    exact one_j1 m k neg n s l _ hs
  · rw [if_neg h]
    have e : bitsR k = 64 := by omega
    have e2 : decide (n < 2 ^ bitsR k) = true := by rw [e]; simp; omega
    rw [e2]
    exact one_j1 m k neg n s l true hs
theorem one_f (y : S25) (hw : wfS25 y) : Ev (fun k => value_One.f k y.f0 y.f1 y.f2 y.f3 y.f4) (oneR y) := by
  obtain ⟨k, neg, n, s, l⟩ := y
  simp only [wfS25] at hw
  have hn := wf_u64 hw.2.2.1
  have hs : s.size ≤ 140737488351232 := hw.2.2.2.1
  refine ⟨3, fun q hq => ?_⟩
  obtain ⟨m, rfl⟩ : ∃ m, q = m + 3 := ⟨q - 3, by omega⟩
  have ht : value_One.j0 (m + 3) true k neg n s l = some false := by rw [show m + 3 = (m + 2) + 1 from rfl]; simp [value_One.j0]
  unfold value_One.f oneR
  simp only
  by_cases h0 : k < 0
  · rw [if_pos h0, ht]; simp [show ¬ 0 ≤ k by omega]
  by_cases h1 : k > 14
  · rw [if_neg h0, if_pos h1, ht]; simp [show ¬ k ≤ 14 by omega]
  rw [if_neg h0, if_neg h1]
  have e : decide (0 ≤ k ∧ k ≤ 14) = true := decide_eq_true ⟨by omega, by omega⟩
  rw [e, Bool.true_and]
  by_cases h2 : neg = true
  · rw [if_pos h2]
    by_cases h4 : k = 4
    · rw [if_pos h4, one_j0 m k neg n s l hs hn]; simp [h4]
    · rw [if_neg h4]
      by_cases h5 : k = 5
      · rw [show (k != 5) = false by simp [h5], one_j0 m k neg n s l hs hn]; simp [h5]
      · rw [show (k != 5) = true by simp [h5], ht]; simp [h2, h4, h5]
  · rw [if_neg h2, one_j0 m k neg n s l hs hn]; simp [h2]
/-- Is all of a value right. -/
def okR (y : S25) : Bool := oneR y && !(leafR y.f0 && decide (0 < y.f4.length))
/-- May a tree be. -/
def checkR (x : S25) : Int := if 64 < depR x then 2 else if 65536 < cnt x then 2 else if (subs x).all okR then 0 else 9
theorem chk_f : ∀ l : List S25, (∀ y ∈ l, wfS25 y) → Ev (fun k => Each.chk T25 (fun y => value_One.f k y.f0 y.f1 y.f2 y.f3 y.f4) (fun y => value_Leaf.f y.f0 y.f1 y.f2 y.f3 y.f4) l) (if l.all okR then 0 else 9)
  | [], _ => Ev.const rfl
  | y :: l, h => by
    refine Ev.congr (fun k => by simp only [Each.chk]; rfl) (Ev.bind (one_f y (h y (by simp))) ?_)
    simp only [List.all_cons]
    by_cases h1 : oneR y = true
    · refine Ev.pos h1 (Ev.pre (leaf_f ..) ?_)
      by_cases h2 : leafR y.f0 = true
      · refine Ev.pos h2 ?_
        by_cases h3 : 0 < y.f4.length
        · refine Ev.pos h3 (Ev.const ?_)
          simp [okR, h2, h3]
        · refine Ev.neg h3 (Ev.res (chk_f l (fun z hz => h z (by simp [hz]))) ?_)
          simp [okR, h1, h3]
      · refine Ev.neg h2 (Ev.res (chk_f l (fun z hz => h z (by simp [hz]))) ?_)
        simp [okR, h1, h2]
    · refine Ev.neg h1 (Ev.const ?_)
      simp [okR, h1]
mutual
theorem wf_subs : ∀ x : S25, wfS25 x → ∀ y ∈ subs x, wfS25 y
  | ⟨a, b, c, d, l⟩, h, y, hy => by
    simp only [subs, List.mem_cons] at hy
    rcases hy with rfl | hy
    · exact h
    · exact wf_subsL l (wf_kids h).2 y hy
theorem wf_subsL : ∀ l : List S25, (∀ x ∈ l, wfS25 x) → ∀ y ∈ subsL l, wfS25 y
  | [], _, y, hy => by simp [subsL] at hy
  | x :: l, h, y, hy => by
    simp only [subsL, List.mem_append] at hy
    rcases hy with hy | hy
    · exact wf_subs x (h x (by simp)) y hy
    · exact wf_subsL l (fun z hz => h z (by simp [hz])) y hy
end
theorem count_f (x : S25) (hs : szS25 x ≤ 4194304) : value_Count.f x.f0 x.f1 x.f2 x.f3 x.f4 = some (cnt x : Int) := by
  obtain ⟨a, b, c, d, l⟩ := x
  have h1 := dep_sz ⟨a, b, c, d, l⟩
  have h2 := cnt_sz ⟨a, b, c, d, l⟩
  unfold value_Count.f
  dsimp only
  rw [if_pos (by omega), nodes_len, wrap_id (by omega) (by omega)]
theorem check_f (x : S25) (hw : wfS25 x) (hs : szS25 x ≤ 4194304) : Ev (fun k => value_Check.f k x.f0 x.f1 x.f2 x.f3 x.f4) (checkR x) := by
  obtain ⟨a, b, c, d, l⟩ := x
  have h1 := dep_sz ⟨a, b, c, d, l⟩
  have h2 := cnt_sz ⟨a, b, c, d, l⟩
  dsimp only
  refine Ev.congr (fun k => by unfold value_Check.f; rfl) (Ev.bind (depth_f _ ⟨a, b, c, d, l⟩ (Nat.lt_succ_self _) (by omega) hw) ?_)
  refine Ev.pos (by omega) ?_
  unfold checkR
  by_cases c1 : 64 < depR ⟨a, b, c, d, l⟩
  · exact Ev.pos c1 (Ev.const (by rw [if_pos c1]))
  rw [if_neg c1]
  refine Ev.neg c1 ?_
  rw [nodes_len, wrap_id (by omega) (by omega), nodes_subs _ _ _ (Nat.lt_succ_self _)]
  by_cases c2 : 65536 < cnt ⟨a, b, c, d, l⟩
  · exact Ev.pos (by omega) (Ev.const (by rw [if_pos c2]))
  rw [if_neg c2]
  exact Ev.neg (by omega) (chk_f _ (wf_subs _ hw))

theorem need_f (k : Nat) (c : Int) (h0 : 0 ≤ c) (h1 : c ≤ 255) : glossatorref02_need.f (k + 2) c = some (Utf.rowF c).2.2.1 := by
  have e : glossatorref02_need.f (k + 2) c = glossatorref02_need.f 2 c := by
    simp only [glossatorref02_need.f, glossatorref02_need.j0, glossatorref02_need.j1]
  rw [e]
  obtain ⟨n, rfl⟩ := Int.eq_ofNat_of_zero_le h0
  have hd : ∀ n : Fin 256, glossatorref02_need.f 2 ((n.val : Nat) : Int) = some (Utf.rowF ((n.val : Nat) : Int)).2.2.1 := by decide +kernel
  exact hd ⟨n, by omega⟩
theorem row_lohi (c : Int) (h0 : 0 ≤ c) (h1 : c ≤ 255) (h2 : 2 ≤ (Utf.rowF c).2.2.1) : (Utf.rowF c).2.2.2 = (if c = 224 then (160, 191) else if c = 237 then (128, 159) else if c = 240 then (144, 191) else if c = 244 then (128, 143) else (128, 191)) := by
  obtain ⟨n, rfl⟩ := Int.eq_ofNat_of_zero_le h0
  have hd : ∀ n : Fin 256, 2 ≤ (Utf.rowF ((n.val : Nat) : Int)).2.2.1 → (Utf.rowF ((n.val : Nat) : Int)).2.2.2 = (if ((n.val : Nat) : Int) = 224 then (160, 191) else if ((n.val : Nat) : Int) = 237 then (128, 159) else if ((n.val : Nat) : Int) = 240 then (144, 191) else if ((n.val : Nat) : Int) = 244 then (128, 143) else (128, 191)) := by decide +kernel
  exact hd ⟨n, by omega⟩ h2
theorem may_1 (c x : Int) (h0 : 0 ≤ c) (h1 : c ≤ 255) (h2 : 2 ≤ (Utf.rowF c).2.2.1) : glossatorref02_may.f c 1 x = some (!decide (x < (Utf.rowF c).2.2.2.1 ∨ (Utf.rowF c).2.2.2.2 < x)) := by
  have e := row_lohi c h0 h1 h2
  rw [show (Utf.rowF c).2.2.2.1 = ((Utf.rowF c).2.2.2).1 from rfl, show (Utf.rowF c).2.2.2.2 = ((Utf.rowF c).2.2.2).2 from rfl, e]
  unfold glossatorref02_may.f
  rw [if_pos rfl]
  have g : ∀ lo hi : Int, (if x ≥ lo then some (decide (x ≤ hi)) else some false) = some (!decide (x < lo ∨ hi < x)) := fun lo hi => by
    by_cases c1 : x ≥ lo
    · rw [if_pos c1]; congr 1
      by_cases c2 : x ≤ hi
      · rw [decide_eq_true c2, decide_eq_false (by omega)]; rfl
      · rw [decide_eq_false c2, decide_eq_true (by omega)]; rfl
    · rw [if_neg c1, decide_eq_true (by omega)]; rfl
  by_cases c1 : c = 224
  · rw [if_pos c1, if_pos c1]; exact g _ _
  by_cases c2 : c = 237
  · rw [if_neg c1, if_neg c1, if_pos c2, if_pos c2]; exact g _ _
  by_cases c3 : c = 240
  · rw [if_neg c1, if_neg c1, if_neg c2, if_neg c2, if_pos c3, if_pos c3]; exact g _ _
  by_cases c4 : c = 244
  · rw [if_neg c1, if_neg c1, if_neg c2, if_neg c2, if_neg c3, if_neg c3, if_pos c4, if_pos c4]; exact g _ _
  · rw [if_neg c1, if_neg c1, if_neg c2, if_neg c2, if_neg c3, if_neg c3, if_neg c4, if_neg c4]; exact g _ _
theorem may_n (c j x : Int) (hj : j ≠ 1) : glossatorref02_may.f c j x = some (!decide (x < 128 ∨ 191 < x)) := by
  unfold glossatorref02_may.f
  rw [if_neg hj]
  by_cases c1 : x ≥ 128
  · rw [if_pos c1]; congr 1
    by_cases c2 : x ≤ 191
    · rw [decide_eq_true c2, decide_eq_false (by omega)]; rfl
    · rw [decide_eq_false c2, decide_eq_true (by omega)]; rfl
  · rw [if_neg c1, decide_eq_true (by omega)]; rfl
/-- What the next byte of a text may be: the m-th of those begun by byte c. -/
def stR (c : Int) (m : Nat) : Int × Int × Int := if m = 1 then ((Utf.rowF c).2.2.1 - 1, (Utf.rowF c).2.2.2.1, (Utf.rowF c).2.2.2.2) else ((Utf.rowF c).2.2.1 - (m : Int), 128, 191)
theorem stR_1 (c : Int) (m : Nat) : (stR c m).1 = (Utf.rowF c).2.2.1 - (m : Int) := by
  unfold stR; split
  · next h => subst h; rfl
  · rfl
theorem stR_may (c : Int) (m : Nat) (x : Int) (h0 : 0 ≤ c) (h1 : c ≤ 255) (hm : 1 ≤ m) (h2 : (m : Int) < (Utf.rowF c).2.2.1) : glossatorref02_may.f c (m : Int) x = some (!decide (x < (stR c m).2.1 ∨ (stR c m).2.2 < x)) := by
  unfold stR
  by_cases h : m = 1
  · subst h; rw [if_pos rfl]; exact may_1 c x h0 h1 (by omega)
  · rw [if_neg h]; exact may_n c _ x (by omega)
theorem stepF_z (s : Int × Int × Int) (c : Int) (hs : s.1 = 0) (hz : (Utf.rowF c).2.2.1 = 0) : Utf.stepF s c (-1) = (false, s) := by
  unfold Utf.stepF
  rw [if_neg (by omega), if_pos (Or.inl hz)]
theorem stepF_n (s : Int × Int × Int) (c : Int) (hs : s.1 = 0) (hz : ¬ (Utf.rowF c).2.2.1 = 0) : Utf.stepF s c (-1) = (true, (Utf.rowF c).2.2.1 - 1, (Utf.rowF c).2.2.2.1, (Utf.rowF c).2.2.2.2) := by
  unfold Utf.stepF
  rw [if_neg (by omega), if_neg (show ¬ ((Utf.rowF c).2.2.1 = 0 ∨ (0 : Int) ≤ -1 ∧ (-1 : Int) < (Utf.rowF c).2.2.1 - 1) by omega)]
theorem stepF_bad (s : Int × Int × Int) (c : Int) (hs : 0 < s.1) (hz : c < s.2.1 ∨ s.2.2 < c) : Utf.stepF s c (-1) = (false, s) := by
  unfold Utf.stepF
  rw [if_pos hs, if_pos hz]
theorem stepF_ok (s : Int × Int × Int) (c : Int) (hs : 0 < s.1) (hz : ¬ (c < s.2.1 ∨ s.2.2 < c)) : Utf.stepF s c (-1) = (true, s.1 - 1, 128, 191) := by
  unfold Utf.stepF
  rw [if_pos hs, if_neg hz]
theorem within_f (a : ByteArray) (ha : a.size ≤ 140737488351232) : ∀ d : Nat,
    (∀ (j : Nat) (s : Int × Int × Int), j + d = a.size → s.1 = 0 → Ev (fun k => glossatorref02_within.l0 k a (-1) (j : Int)) (Utf.scanF a d j s)) ∧
    (∀ (i m : Nat), i + m + d = a.size → 1 ≤ m → (m : Int) ≤ (Utf.rowF (bt a (i : Int))).2.2.1 → Ev (fun k => glossatorref02_within.l1 k a (-1) (i : Int) (Utf.rowF (bt a (i : Int))).2.2.1 (m : Int)) (Utf.scanF a d (i + m) (stR (bt a (i : Int)) m))) := by
  intro d
  have hP0 : ∀ (j : Nat) (s : Int × Int × Int), j = a.size → s.1 = 0 → Ev (fun k => glossatorref02_within.l0 k a (-1) (j : Int)) (Utf.scanF a 0 j s) := fun j s hj hs => by
    refine Ev.step (fun k => by simp only [glossatorref02_within.l0]; rfl) (Ev.neg (by omega) (Ev.neg (by omega) (Ev.const ?_)))
    simp only [Utf.scanF]
    rw [if_neg (by omega), hj]
  have hend : ∀ (i m d : Nat), i + m + d = a.size → (m : Int) = (Utf.rowF (bt a (i : Int))).2.2.1 → (∀ s : Int × Int × Int, s.1 = 0 → Ev (fun k => glossatorref02_within.l0 k a (-1) ((i + m : Nat) : Int)) (Utf.scanF a d (i + m) s)) → Ev (fun k => glossatorref02_within.l1 k a (-1) (i : Int) (Utf.rowF (bt a (i : Int))).2.2.1 (m : Int)) (Utf.scanF a d (i + m) (stR (bt a (i : Int)) m)) := fun i m d h0 h1 h2 => by
    refine Ev.step (fun k => by simp only [glossatorref02_within.l1]; rfl) (Ev.neg (by omega) ?_)
    rw [← h1, wrap_id (by omega) (by omega)]
    exact h2 _ (by rw [stR_1]; omega)
  induction d with
  | zero =>
    refine ⟨fun j s hj hs => hP0 j s (by omega) hs, fun i m him hm1 hm2 => ?_⟩
    by_cases hlt : (m : Int) < (Utf.rowF (bt a (i : Int))).2.2.1
    · refine Ev.step (fun k => by simp only [glossatorref02_within.l1]; rfl) (Ev.pos hlt ?_)
      rw [wrap_id (by omega) (by omega)]
      refine Ev.pos (by omega) (Ev.const ?_)
      simp only [Utf.scanF]
      rw [if_pos (by rw [stR_1]; omega)]
    · exact hend i m 0 (by omega) (by omega) (fun s hs => hP0 _ s (by omega) hs)
  | succ d ih =>
    obtain ⟨ihP, ihQ⟩ := ih
    have hP : ∀ (j : Nat) (s : Int × Int × Int), j + (d + 1) = a.size → s.1 = 0 → Ev (fun k => glossatorref02_within.l0 k a (-1) (j : Int)) (Utf.scanF a (d + 1) j s) := fun j s hj hs => by
      have hb := bt_range a (j : Int)
      have hn := Utf.rowF_n (bt a (j : Int))
      refine Ev.step (fun k => by simp only [glossatorref02_within.l0]; rfl) (Ev.pos (by omega) (Ev.pos (by omega) ?_))
      refine Ev.bind ⟨2, fun k hk => by obtain ⟨m, rfl⟩ : ∃ m, k = m + 2 := ⟨k - 2, by omega⟩; exact need_f m _ hb.1 hb.2⟩ ?_
      simp only [Utf.scanF]
      by_cases hz : (Utf.rowF (bt a (j : Int))).2.2.1 = 0
      · rw [stepF_z s _ hs hz]
        refine Ev.pos hz (Ev.step (fun k => by simp only [glossatorref02_within.j1]; rfl) (Ev.pos (by first | trivial | rfl) (Ev.const ?_)))
        rw [if_neg (by simp)]
      · rw [stepF_n s _ hs hz]
        refine Ev.neg hz (Ev.neg (by omega) (Ev.step (fun k => by simp only [glossatorref02_within.j1]; rfl) (Ev.neg (by simp) ?_)))
        rw [if_pos rfl]
        exact ihQ j 1 (by omega) (by omega) (by omega)
    refine ⟨hP, fun i m him hm1 hm2 => ?_⟩
    by_cases hlt : (m : Int) < (Utf.rowF (bt a (i : Int))).2.2.1
    · have hb := bt_range a (i : Int)
      refine Ev.step (fun k => by simp only [glossatorref02_within.l1]; rfl) (Ev.pos hlt ?_)
      rw [wrap_id (x := (i : Int) + (m : Int)) (by omega) (by omega), wrap_id (x := (m : Int) + 1) (by omega) (by omega), show (i : Int) + (m : Int) = ((i + m : Nat) : Int) by omega]
      refine Ev.neg (by omega) (Ev.pos (by omega) (Ev.pos (by omega) (Ev.pos (by omega) (Ev.pos (by omega) (Ev.pre (stR_may _ m _ hb.1 hb.2 hm1 hlt) ?_)))))
      simp only [Utf.scanF]
      have hpos : 0 < (stR (bt a (i : Int)) m).1 := by rw [stR_1]; omega
      by_cases hc : bt a ((i + m : Nat) : Int) < (stR (bt a (i : Int)) m).2.1 ∨ (stR (bt a (i : Int)) m).2.2 < bt a ((i + m : Nat) : Int)
      · rw [stepF_bad _ _ hpos hc, decide_eq_true hc]
        exact Ev.neg (by simp) (Ev.const (by rw [if_neg (by simp)]))
      · rw [stepF_ok _ _ hpos hc, decide_eq_false hc]
        refine Ev.pos (by first | trivial | rfl) ?_
        rw [if_pos rfl]
        have := ihQ i (m + 1) (by omega) (by omega) (by omega)
        rw [show ((m + 1 : Nat) : Int) = (m : Int) + 1 by omega] at this
        refine Ev.res this ?_
        rw [show i + (m + 1) = i + m + 1 by omega]
        congr 1
        rw [stR_1]
        unfold stR
        rw [if_neg (by omega), show (Utf.rowF (bt a (i : Int))).2.2.1 - ((m + 1 : Nat) : Int) = (Utf.rowF (bt a (i : Int))).2.2.1 - (m : Int) - 1 by omega]
    · exact hend i m (d + 1) (by omega) (by omega) (fun s hs => hP (i + m) s (by omega) hs)
theorem ucheck_f (a : ByteArray) (ha : a.size ≤ 140737488351232) : Ev (fun k => glossatorref02_Check.f k a) (Utf.checkF a) := by
  refine Ev.congr (fun k => by unfold glossatorref02_Check.f glossatorref02_within.f; rfl) (Ev.bind ((within_f a ha a.size).1 0 (0, 0, 0) (by omega) rfl) (Ev.const rfl))

theorem rbig_f (s : ByteArray) : glossatorref08_Big.f s = some (bigR s) := by
  unfold glossatorref08_Big.f bigR
  by_cases h1 : (s.size : Int) > 8
  · rw [if_pos h1]
    by_cases h2 : (s.size : Int) ≤ 512
    · rw [if_pos h2, if_pos (by omega)]; simp [show 8 < (s.size : Int) by omega, h2]
    · rw [if_neg h2]; simp [h2]
  · rw [if_neg h1]; simp [show ¬ 8 < (s.size : Int) by omega]
theorem rleaf_f (a0 : Int) (a1 : Bool) (a2 : Int) (a3 : ByteArray) (a4 : List S25) : glossatorref08_Leaf.f a0 a1 a2 a3 a4 = some (leafR a0) := by
  unfold glossatorref08_Leaf.f leafR
  by_cases h1 : a0 = 11
  · rw [if_pos h1]; simp [h1]
  · by_cases h2 : a0 = 12
    · rw [if_neg h1, if_pos h2]; simp [h2]
    · rw [if_neg h1, if_neg h2]; by_cases h3 : a0 = 13 <;> simp [h1, h2, h3]
theorem rone_j (k : Int) (neg : Bool) (n : Int) (s : ByteArray) (l : List S25) (hn : 0 ≤ n ∧ n ≤ 18446744073709551615) (h10 : k ≠ 10) (m : Nat) :
    glossatorref08_One.f (m + 1) k neg n s l = some (oneR ⟨k, neg, n, s, l⟩) := by
  have hk : k < 0 ∨ k = 0 ∨ k = 1 ∨ k = 2 ∨ k = 3 ∨ k = 4 ∨ k = 5 ∨ k = 6 ∨ k = 7 ∨ k = 8 ∨ k = 9 ∨ k = 11 ∨ k = 12 ∨ k = 13 ∨ k = 14 ∨ 14 < k := by omega
  obtain ⟨e, he⟩ : ∃ e, (s.toList == ([] : List UInt8)) = e := ⟨_, rfl⟩
  obtain ⟨L, hL⟩ : ∃ L : Nat, l.length = L := ⟨_, rfl⟩
  rcases hk with h | rfl | rfl | rfl | rfl | rfl | rfl | rfl | rfl | rfl | rfl | rfl | rfl | rfl | rfl | h
  · simp only [glossatorref08_One.f, glossatorref08_One.j0, oneR]
    rw [if_neg (by omega), if_neg (by simp; omega), if_neg (by omega), if_neg (by omega), if_neg (by omega), if_neg (by omega), if_neg (by omega), if_neg (by omega), if_neg (by omega), if_neg (by omega), if_neg (by omega), if_neg (by omega), if_neg (by omega), if_neg (by omega), if_neg (by omega)]
    simp [show ¬ 0 ≤ k by omega]
  all_goals try (simp only [glossatorref08_One.f, glossatorref08_One.j0, oneR, bitsR, he, hL]; cases e <;> cases neg <;> simp <;> omega)
  all_goals try (simp only [glossatorref08_One.f, glossatorref08_One.j0, oneR, bitsR, he, hL, rbig_f]; have h1 : (n < 1) = (n = 0) := (by simp only [eq_iff_iff]; omega); by_cases h0 : n = 0 <;> cases e <;> cases neg <;> simp [*] <;> done)
  · simp only [glossatorref08_One.f, glossatorref08_One.j0, oneR, bitsR, he, hL]
    have g3 : (n < 256) = (n ≤ 255) := by simp only [eq_iff_iff]; omega
    by_cases c1 : n ≤ 19
    · have h1 : ¬ 19 < n := by omega
      have h2 : n ≤ 255 := by omega
      cases e <;> cases neg <;> simp [c1, h1, h2, g3]
    · have h1 : 19 < n := by omega
      by_cases c2 : 32 ≤ n
      · have h2 : ¬ n < 32 := by omega
        cases e <;> cases neg <;> simp [c1, h1, h2, c2, g3]
      · have h2 : n < 32 := by omega
        cases e <;> cases neg <;> simp [c1, h1, h2, c2]
  · simp only [glossatorref08_One.f, glossatorref08_One.j0, oneR, bitsR, he, hL]
    have h1 : (n < 1) = (n = 0) := by simp only [eq_iff_iff]; omega
    obtain ⟨q, hq⟩ : ∃ q : Int, (L : Int) % 2 = q := ⟨_, rfl⟩
    by_cases h0 : n = 0 <;> by_cases h2 : q = 0 <;> cases e <;> cases neg <;> simp [h0, h1, hq, h2]
  · simp only [glossatorref08_One.f, glossatorref08_One.j0, oneR, bitsR, he, hL, rbig_f]
    have g : decide (n < 2 ^ 64) = true := by simp; omega
    by_cases hL1 : L = 1
    · have hL1' : (L : Int) = 1 := by omega
      have hL0 : 0 < (L : Int) := by omega
      by_cases h2 : n = 2
      · subst h2; cases e <;> cases neg <;> by_cases h9 : (rd_T25 l 0).f0 = 9 <;> simp [*]
      · by_cases h3 : n = 3
        · subst h3; cases e <;> cases neg <;> by_cases h9 : (rd_T25 l 0).f0 = 9 <;> simp [*]
        · have h4 : ¬ n / 2 = 1 := by omega
          cases e <;> cases neg <;> simp [*] <;> omega
    · have hL1' : ¬ (L : Int) = 1 := by omega
      cases e <;> cases neg <;> simp [*]
  · simp only [glossatorref08_One.f, glossatorref08_One.j0, oneR]
    rw [if_neg (by omega), if_neg (by simp; omega), if_neg (by omega), if_neg (by omega), if_neg (by omega), if_neg (by omega), if_neg (by omega), if_neg (by omega), if_neg (by omega), if_neg (by omega), if_neg (by omega), if_neg (by omega), if_neg (by omega), if_neg (by omega), if_neg (by omega)]
    simp [show ¬ k ≤ 14 by omega]
theorem rone_f (y : S25) (hw : wfS25 y) : Ev (fun k => glossatorref08_One.f k y.f0 y.f1 y.f2 y.f3 y.f4) (oneR y) := by
  obtain ⟨k, neg, n, s, l⟩ := y
  simp only [wfS25] at hw
  have hn := wf_u64 hw.2.2.1
  have hs : s.size ≤ 140737488351232 := hw.2.2.2.1
  dsimp only
  by_cases h10 : k = 10
  · subst h10
    refine Ev.congr (fun q => by unfold glossatorref08_One.f; rfl) (Ev.neg (by decide) (Ev.step (fun q => by simp only [glossatorref08_One.j0]; rfl) ?_))
    refine Ev.neg (by decide) (Ev.neg (by decide) (Ev.neg (by decide) (Ev.neg (by decide) (Ev.neg (by decide) (Ev.neg (by decide) (Ev.neg (by decide) (Ev.neg (by decide) (Ev.neg (by decide) (Ev.pos (by decide) (Ev.bind (ucheck_f s hs) ?_)))))))))) 
    refine Ev.const ?_
    simp only [oneR, bitsR]
    cases neg <;> simp <;> by_cases h0 : n = 0 <;> simp [h0] <;> omega
  · exact ⟨1, fun q hq => by obtain ⟨m, rfl⟩ : ∃ m, q = m + 1 := ⟨q - 1, by omega⟩; exact rone_j k neg n s l hn h10 m⟩

theorem rdepth_l0 (v0 : Int) (v1 : Bool) (v2 : Int) (v3 : ByteArray) (l : List S25) (hl : l.length * 64 ≤ 140737488351232) (hd : depL25 l ≤ 9000000000000000000) (hf : ∀ x ∈ l, Ev (fun k => glossatorref08_Depth.f k x.f0 x.f1 x.f2 x.f3 x.f4) (depR x)) :
    ∀ (d j : Nat) (a : Int), j + d = l.length → 0 ≤ a → a ≤ 9000000000000000000 → Ev (fun k => glossatorref08_Depth.l0 k a (j : Int) v0 v1 v2 v3 l) (max a (depRL (l.drop j)) + 1) := by
  intro d
  induction d with
  | zero =>
    intro j a hj h0 h1
    refine Ev.step (fun k => by simp only [glossatorref08_Depth.l0]; rfl) (Ev.neg (by omega) (Ev.const ?_))
    rw [List.drop_of_length_le (by omega), wrap_id (by omega) (by omega)]
    simp only [depRL]
    rw [show max a 0 = a by omega]
  | succ d ih =>
    intro j a hj h0 h1
    have hlt : j < l.length := by omega
    have hb := depR_pos l[j]
    have hm := dep25_mem l l[j] (List.getElem_mem hlt)
    refine Ev.step (fun k => by simp only [glossatorref08_Depth.l0]; rfl) (Ev.pos (by omega) (Ev.pos (by omega) ?_))
    rw [rdT_get l j hlt, wrap_id (by omega) (by omega)]
    refine Ev.bind (hf _ (List.getElem_mem hlt)) ?_
    rw [mx_max]
    refine Ev.res (ih (j + 1) _ (by omega) (by omega) (by omega)) ?_
    rw [List.drop_eq_getElem_cons hlt]
    simp only [depRL]
    omega
theorem rdepth_f : ∀ (m : Nat) (x : S25), dep25 x < m → m ≤ 9000000000000000000 → wfS25 x → Ev (fun k => glossatorref08_Depth.f k x.f0 x.f1 x.f2 x.f3 x.f4) (depR x) := by
  intro m
  induction m with
  | zero => intro x h; omega
  | succ m ih =>
    rintro ⟨a0, a1, a2, a3, a4⟩ hd hm hw
    obtain ⟨hl, hk⟩ := wf_kids hw
    refine Ev.step (fun k => by simp only [glossatorref08_Depth.f]; rfl) ?_
    simp only [depR]
    by_cases h5 : a0 = 5
    · refine Ev.pos h5 (Ev.const ?_)
      subst h5; rfl
    refine Ev.neg h5 (Ev.pre (rleaf_f a0 a1 a2 a3 a4) ?_)
    by_cases h : leafR a0 = true
    · rw [if_pos h, if_neg h5]
      exact Ev.pos h (Ev.const rfl)
    · rw [if_neg h]
      have hdl : depL25 a4 < m := by simp only [dep25] at hd; omega
      refine Ev.neg h (Ev.res (rdepth_l0 a0 a1 a2 a3 a4 hl (by omega) (fun x hx => ih x (by have := dep25_mem a4 x hx; omega) (by omega) (hk x hx)) a4.length 0 0 (by omega) (by omega) (by omega)) ?_)
      have := depRL_pos a4
      rw [List.drop_zero]; omega
theorem cntL_mem : ∀ (l : List S25) (y : S25), y ∈ l → cnt y ≤ cntL l
  | [], _, h => by simp at h
  | x :: l, y, h => by
    simp only [cntL]
    rcases List.mem_cons.1 h with rfl | h
    · omega
    · have := cntL_mem l y h; omega
theorem len_cntL : ∀ l : List S25, l.length ≤ cntL l
  | [] => Nat.le_refl _
  | x :: l => by have := len_cntL l; have := cnt_pos x; simp only [cntL, List.length_cons]; omega
theorem rcount_l0 (v0 : Int) (v1 : Bool) (v2 : Int) (v3 : ByteArray) (l : List S25) (hc : cntL l ≤ 9000000000000000) (hf : ∀ x ∈ l, Ev (fun k => glossatorref08_Count.f k x.f0 x.f1 x.f2 x.f3 x.f4) (cnt x : Int)) :
    ∀ (d j : Nat) (a : Nat), j + d = l.length → a ≤ 9000000000000000 → a + cntL (l.drop j) ≤ 9000000000000001 → Ev (fun k => glossatorref08_Count.l0 k (a : Int) (j : Int) v0 v1 v2 v3 l) ((a + cntL (l.drop j) : Nat) : Int) := by
  have hll := len_cntL l
  intro d
  induction d with
  | zero =>
    intro j a hj h1 h2
    refine Ev.step (fun k => by simp only [glossatorref08_Count.l0]; rfl) (Ev.neg (by omega) (Ev.const ?_))
    rw [List.drop_of_length_le (by omega)]; rfl
  | succ d ih =>
    intro j a hj h1 h2
    have hlt : j < l.length := by omega
    rw [List.drop_eq_getElem_cons hlt] at h2 ⊢
    simp only [cntL] at h2 ⊢
    refine Ev.step (fun k => by simp only [glossatorref08_Count.l0]; rfl) (Ev.pos (by omega) (Ev.pos (by omega) ?_))
    rw [rdT_get l j hlt, wrap_id (x := (j : Int) + 1) (by omega) (by omega)]
    refine Ev.bind (hf _ (List.getElem_mem hlt)) ?_
    rw [wrap_id (by omega) (by omega), show (a : Int) + (cnt l[j] : Int) = ((a + cnt l[j] : Nat) : Int) by omega]
    by_cases hd0 : d = 0
    · subst hd0
      refine Ev.step (fun k => by simp only [glossatorref08_Count.l0]; rfl) (Ev.neg (by omega) (Ev.const ?_))
      rw [List.drop_of_length_le (by omega)]; rfl
    · have hrest : 1 ≤ cntL (l.drop (j + 1)) := by have := len_cntL (l.drop (j + 1)); rw [List.length_drop] at this; omega
      refine Ev.res (ih (j + 1) (a + cnt l[j]) (by omega) (by omega) (by omega)) ?_
      rw [Nat.add_assoc]
theorem rcount_f : ∀ (m : Nat) (x : S25), dep25 x < m → cnt x ≤ 9000000000000000 → Ev (fun k => glossatorref08_Count.f k x.f0 x.f1 x.f2 x.f3 x.f4) (cnt x : Int) := by
  intro m
  induction m with
  | zero => intro x h; omega
  | succ m ih =>
    rintro ⟨a0, a1, a2, a3, a4⟩ hd hc
    simp only [cnt] at hc ⊢
    have hdl : depL25 a4 < m := by simp only [dep25] at hd; omega
    refine Ev.step (fun k => by simp only [glossatorref08_Count.f]; rfl) (Ev.res (rcount_l0 a0 a1 a2 a3 a4 (by omega) (fun x hx => ih x (by have := dep25_mem a4 x hx; omega) (by have := cntL_mem a4 x hx; omega)) a4.length 0 1 (by omega) (by omega) (by rw [List.drop_zero]; omega)) ?_)
    rw [List.drop_zero, Nat.add_comm]
theorem rright_l0 (v0 : Int) (v1 : Bool) (v2 : Int) (v3 : ByteArray) (l : List S25) (hl : l.length * 64 ≤ 140737488351232) (hf : ∀ x ∈ l, Ev (fun k => glossatorref08_right.f k x.f0 x.f1 x.f2 x.f3 x.f4) ((subs x).all okR)) :
    ∀ (d j : Nat), j + d = l.length → Ev (fun k => glossatorref08_right.l0 k (j : Int) v0 v1 v2 v3 l) ((subsL (l.drop j)).all okR) := by
  intro d
  induction d with
  | zero =>
    intro j hj
    refine Ev.step (fun k => by simp only [glossatorref08_right.l0]; rfl) (Ev.neg (by omega) (Ev.const ?_))
    rw [List.drop_of_length_le (by omega)]; rfl
  | succ d ih =>
    intro j hj
    have hlt : j < l.length := by omega
    rw [List.drop_eq_getElem_cons hlt]
    simp only [subsL, List.all_append]
    refine Ev.step (fun k => by simp only [glossatorref08_right.l0]; rfl) (Ev.pos (by omega) (Ev.pos (by omega) ?_))
    rw [rdT_get l j hlt, wrap_id (x := (j : Int) + 1) (by omega) (by omega)]
    refine Ev.bind (hf _ (List.getElem_mem hlt)) ?_
    by_cases h : (subs l[j]).all okR = true
    · refine Ev.pos h (Ev.res (ih (j + 1) (by omega)) ?_)
      rw [h, Bool.true_and]
    · refine Ev.neg h (Ev.const ?_)
      rw [Bool.eq_false_iff.2 h, Bool.false_and]
theorem rright_f : ∀ (m : Nat) (x : S25), dep25 x < m → wfS25 x → Ev (fun k => glossatorref08_right.f k x.f0 x.f1 x.f2 x.f3 x.f4) ((subs x).all okR) := by
  intro m
  induction m with
  | zero => intro x h; omega
  | succ m ih =>
    rintro ⟨a0, a1, a2, a3, a4⟩ hd hw
    obtain ⟨hl, hk⟩ := wf_kids hw
    have hdl : depL25 a4 < m := by simp only [dep25] at hd; omega
    have hone := rone_f ⟨a0, a1, a2, a3, a4⟩ hw
    dsimp only at hone
    have hkids := rright_l0 a0 a1 a2 a3 a4 hl (fun x hx => ih x (by have := dep25_mem a4 x hx; omega) (hk x hx)) a4.length 0 (by omega)
    rw [List.drop_zero] at hkids
    simp only [subs, List.all_cons]
    refine Ev.step (fun k => by simp only [glossatorref08_right.f]; rfl) (Ev.bind hone ?_)
    by_cases h1 : oneR ⟨a0, a1, a2, a3, a4⟩ = true
    · refine Ev.pos h1 (Ev.pre (rleaf_f a0 a1 a2 a3 a4) ?_)
      by_cases h2 : leafR a0 = true
      · refine Ev.pos h2 (Ev.step (fun k => by simp only [glossatorref08_right.j0]; rfl) ?_)
        by_cases h3 : a4.length = 0
        · refine Ev.neg (by simp [h3]) (Ev.res hkids ?_)
          simp [okR, h1, h3]
        · refine Ev.pos (by simp only [bne_iff_ne, ne_eq]; omega) (Ev.const ?_)
          simp [okR, h2, show 0 < a4.length by omega]
      · refine Ev.neg h2 (Ev.step (fun k => by simp only [glossatorref08_right.j0]; rfl) (Ev.neg (by simp) (Ev.res hkids ?_)))
        simp [okR, h1, h2]
    · refine Ev.neg h1 (Ev.step (fun k => by simp only [glossatorref08_right.j0]; rfl) (Ev.pos (by first | trivial | rfl) (Ev.const ?_)))
      simp [okR, h1]
theorem rcheck_f (x : S25) (hw : wfS25 x) (hs : szS25 x ≤ 4194304) : Ev (fun k => glossatorref08_Check.f k x.f0 x.f1 x.f2 x.f3 x.f4) (checkR x) := by
  have h1 := dep_sz x
  have h2 := cnt_sz x
  refine Ev.congr (fun k => by unfold glossatorref08_Check.f; rfl) (Ev.bind (rdepth_f _ x (Nat.lt_succ_self _) (by omega) hw) ?_)
  unfold checkR
  by_cases c1 : 64 < depR x
  · refine Ev.pos c1 (Ev.step (fun k => by simp only [glossatorref08_Check.j0]; rfl) (Ev.pos (by first | trivial | rfl) (Ev.const (by rw [if_pos c1]))))
  rw [if_neg c1]
  refine Ev.neg c1 (Ev.bind (rcount_f _ x (Nat.lt_succ_self _) (by omega)) (Ev.step (fun k => by simp only [glossatorref08_Check.j0]; rfl) ?_))
  by_cases c2 : 65536 < cnt x
  · exact Ev.pos (decide_eq_true (by omega)) (Ev.const (by rw [if_pos c2]))
  rw [if_neg c2]
  refine Ev.neg (by simp; omega) (Ev.bind (rright_f _ x (Nat.lt_succ_self _) hw) ?_)
  by_cases c3 : (subs x).all okR = true
  · exact Ev.pos c3 (Ev.const (by rw [if_pos c3]))
  · exact Ev.neg c3 (Ev.const (by rw [if_neg c3]))

mutual
/-- A value's item. -/
def itR : S25 → List Int
  | ⟨k, b, n, s, l⟩ => Wr.hdr T25 ⟨k, b, n, s, l⟩ ++ itRL l
def itRL : List S25 → List Int
  | [] => []
  | x :: l => itR x ++ itRL l
end
theorem itRL_flat : ∀ l : List S25, itRL l = (l.map itR).flatten
  | [] => by simp [itRL]
  | x :: l => by simp [itRL, itRL_flat l]
theorem itm_R : ∀ (m : Nat) (x : S25), dep25 x < m → Wr.itm T25 m x = itR x := by
  intro m
  induction m with
  | zero => intro x h; omega
  | succ m ih =>
    rintro ⟨k, b, n, s, l⟩ h
    simp only [dep25] at h
    show Wr.hdr T25 ⟨k, b, n, s, l⟩ ++ (l.map (Wr.itm T25 m)).flatten = _
    rw [itR, itRL_flat]
    congr 2
    exact List.map_congr_left fun y hy => ih y (by have := dep25_mem l y hy; omega)
theorem hdr_len (x : S25) : (Wr.hdr T25 x).length ≤ 10 + x.f3.size := by
  unfold Wr.hdr
  have h1 := Wr.numR_len (T25.neg x) (T25.n x)
  have h2 := Wr.headR_len (T25.k x) ((T25.s x).size : Int)
  have h3 := Wr.extR_len ((T25.s x).size : Int)
  have h4 := Wr.lenR_len 222 (((T25.kids x).length : Int) / 2)
  have h5 := Wr.lenR_len 220 ((T25.kids x).length : Int)
  have h6 : (T25.s x).size = x.f3.size := rfl
  (repeat' split) <;> (try simp only [List.length_append, List.length_cons, List.length_nil, Wr.outR_len, bytesOf_length]) <;> omega
mutual
theorem itR_len : ∀ x : S25, (itR x).length ≤ 2 * szS25 x
  | ⟨k, b, n, s, l⟩ => by
    have h1 := hdr_len ⟨k, b, n, s, l⟩
    have h2 := itRL_len l
    simp only [itR, List.length_append, szS25] at h1 ⊢
    omega
theorem itRL_len : ∀ l : List S25, (itRL l).length ≤ 2 * szL25 l
  | [] => by simp [itRL]
  | x :: l => by
    have h1 := itR_len x
    have h2 := itRL_len l
    simp only [itRL, List.length_append, szL25] at h1 ⊢
    omega
end
mutual
/-- May a tree be said? -/
def saysR : S25 → Bool
  | ⟨k, b, n, _, l⟩ => if k = 2 ∨ k = 3 ∨ k = 5 ∨ k = 6 ∨ k = 13 then false else if k = 4 then !b || decide (n < 9223372036854775808) else saysRL l
def saysRL : List S25 → Bool
  | [] => true
  | x :: l => saysR x && saysRL l
end
theorem says_l0 (l : List S25) (hl : l.length * 64 ≤ 140737488351232) (hf : ∀ x ∈ l, Ev (fun k => pack_says.f k x.f0 x.f1 x.f2 x.f3 x.f4) (saysR x)) :
    ∀ (d j : Nat), j + d = l.length → Ev (fun k => pack_says.l0 k l (l.length : Int) (j : Int)) (saysRL (l.drop j)) := by
  intro d
  induction d with
  | zero =>
    intro j hj
    refine Ev.step (fun k => by simp only [pack_says.l0]; rfl) (Ev.neg (by omega) (Ev.const ?_))
    rw [List.drop_of_length_le (by omega)]
    rfl
  | succ d ih =>
    intro j hj
    have hlt : j < l.length := by omega
    refine Ev.step (fun k => by simp only [pack_says.l0]; rfl) (Ev.pos (by omega) (Ev.pos (by omega) (Ev.pos (by omega) ?_)))
    rw [rdT_get l j hlt, wrap_id (by omega) (by omega), List.drop_eq_getElem_cons hlt]
    refine Ev.bind (hf _ (List.getElem_mem hlt)) ?_
    simp only [saysRL]
    cases h : saysR l[j] with
    | true => rw [Bool.true_and]; exact Ev.pos rfl (ih (j + 1) (by omega))
    | false => exact Ev.neg (by simp) (Ev.const rfl)
theorem says_f : ∀ (m : Nat) (x : S25), dep25 x < m → wfS25 x → Ev (fun k => pack_says.f k x.f0 x.f1 x.f2 x.f3 x.f4) (saysR x) := by
  intro m
  induction m with
  | zero => intro x h; omega
  | succ m ih =>
    rintro ⟨a0, a1, a2, a3, a4⟩ hd hw
    obtain ⟨hl, hk⟩ := wf_kids hw
    simp only [dep25] at hd
    have hn := wf_u64 (show (Lit.int .u64 a2).wf = true from by simp only [wfS25] at hw; exact hw.2.2.1)
    have hj : ∀ b : Bool, b = decide (a0 = 2 ∨ a0 = 3 ∨ a0 = 5 ∨ a0 = 6 ∨ a0 = 13) → Ev (fun k => pack_says.j0 k a0 b a0 a1 a2 a3 a4) (saysR ⟨a0, a1, a2, a3, a4⟩) := by
      intro b hb
      refine Ev.step (fun k => by simp only [pack_says.j0]; rfl) ?_
      simp only [saysR]
      by_cases h1 : a0 = 2 ∨ a0 = 3 ∨ a0 = 5 ∨ a0 = 6 ∨ a0 = 13
      · rw [if_pos h1]
        exact Ev.pos (by rw [hb]; exact decide_eq_true h1) (Ev.const rfl)
      · rw [if_neg h1]
        refine Ev.neg (by rw [hb, decide_eq_false h1]; simp) ?_
        by_cases h4 : a0 = 4
        · rw [if_pos h4]
          refine Ev.pos h4 ?_
          cases a1 with
          | true =>
            refine Ev.pos rfl (Ev.const ?_)
            congr 1
            rw [Bool.eq_iff_iff]
            simp only [beq_iff_eq, Bool.not_true, Bool.false_or, decide_eq_true_eq]
            omega
          | false => exact Ev.neg (by simp) (Ev.const rfl)
        · rw [if_neg h4]
          refine Ev.neg h4 (Ev.res (says_l0 a4 hl (fun x hx => ih x (by have := dep25_mem a4 x hx; omega) (hk x hx)) a4.length 0 (by omega)) ?_)
          rw [List.drop_zero]
    refine Ev.step (fun k => by simp only [pack_says.f]; rfl) ?_
    by_cases h2 : a0 = 2
    · exact Ev.pos h2 (hj _ (by subst h2; decide))
    · refine Ev.neg h2 ?_
      by_cases h3 : a0 = 3
      · exact Ev.pos h3 (hj _ (by subst h3; decide))
      · refine Ev.neg h3 ?_
        by_cases h5 : a0 = 5
        · exact Ev.pos h5 (hj _ (by subst h5; decide))
        · refine Ev.neg h5 ?_
          by_cases h6 : a0 = 6
          · exact Ev.pos h6 (hj _ (by subst h6; decide))
          · refine Ev.neg h6 (hj _ ?_)
            rw [Bool.eq_iff_iff]
            simp only [beq_iff_eq, decide_eq_true_eq]
            omega
mutual
theorem okn_sz : ∀ x : S25, wfS25 x → szS25 x ≤ 1099511627776 → okn25 x = true
  | ⟨k, b, n, s, l⟩ => by
    intro hw hs
    obtain ⟨hl, hk⟩ := wf_kids hw
    have hn := wf_u64 (show (Lit.int .u64 n).wf = true from by simp only [wfS25] at hw; exact hw.2.2.1)
    simp only [szS25] at hs
    simp only [okn25, Bool.and_eq_true, decide_eq_true_eq]
    exact ⟨⟨hn.1, hn.2, by omega⟩, oknL_sz l hk (by omega)⟩
theorem oknL_sz : ∀ l : List S25, (∀ y ∈ l, wfS25 y) → szL25 l ≤ 1099511627776 → oknL25 l = true
  | [] => fun _ _ => rfl
  | x :: l => by
    intro hw hs
    simp only [szL25] at hs
    simp only [oknL25, Bool.and_eq_true]
    exact ⟨okn_sz x (hw x (List.mem_cons_self ..)) (by omega), oknL_sz l (fun y hy => hw y (List.mem_cons_of_mem _ hy)) (by omega)⟩
end
/-- What pack.Encode answers. -/
def encT (x : S25) : List Int × Int := if checkR x = 0 then (if saysR x = true then (itR x, 0) else ([], 10)) else ([], checkR x)
theorem enc_f (x : S25) (hw : wfS25 x) (hs : szS25 x ≤ 4194304) : Ev (fun k => pack_Encode.f k x.f0 x.f1 x.f2 x.f3 x.f4) (encT x) := by
  have hg : ∀ c b, pack_Encode.g x c b = some (if c = 0 then (if b = true then itR x else []) else [], if c = 0 then (if b = true then 0 else 10) else c) := by
    intro c b
    unfold pack_Encode.g
    have h1 := itR_len x
    rw [itm_R _ x (Nat.lt_succ_self _), if_pos ⟨okn_sz x hw (by omega), by omega⟩]
  obtain ⟨a0, a1, a2, a3, a4⟩ := x
  refine Ev.congr (fun k => by unfold pack_Encode.f; rfl) (Ev.bind (check_f ⟨a0, a1, a2, a3, a4⟩ hw hs) ?_)
  unfold encT
  by_cases h : checkR ⟨a0, a1, a2, a3, a4⟩ = 0
  · rw [if_pos h, h]
    refine Ev.pos (by trivial) (Ev.bind (says_f _ ⟨a0, a1, a2, a3, a4⟩ (Nat.lt_succ_self _) hw) (Ev.const ?_))
    rw [hg]
    cases saysR ⟨a0, a1, a2, a3, a4⟩ <;> simp
  · rw [if_neg h]
    refine Ev.neg h (Ev.const ?_)
    rw [hg, if_neg h, if_neg h]
theorem awake_t : Ev (fun k => glossatorlaw13_awake.f k) true := by
  have h := enc_f ⟨0, false, 0, ⟨#[]⟩, []⟩ (by simp only [wfS25]; exact ⟨by decide, trivial, by decide, by decide, by decide, (wfL25_iff _).2 (by simp)⟩) (by simp only [szS25, szL25]; decide)
  have e : encT ⟨0, false, 0, ⟨#[]⟩, []⟩ = ([192], 0) := by
    unfold encT
    have hc : checkR ⟨0, false, 0, ⟨#[]⟩, []⟩ = 0 := by decide +kernel
    have hz : saysR ⟨0, false, 0, ⟨#[]⟩, []⟩ = true := by decide +kernel
    rw [hc, hz]; rfl
  rw [e] at h
  dsimp only at h
  refine Ev.congr (fun k => by unfold glossatorlaw13_awake.f; rfl) (Ev.bind h ?_)
  dsimp only
  exact Ev.pos rfl (Ev.pos rfl (Ev.pos (by decide) (Ev.const rfl)))

theorem big13_l0 (n : Int) : ∀ (d : Nat) (a : List Int), d ≤ 8 → a.length + d ≤ 1000 → Ev (fun k => glossatorref13_big.l0 k n a ((d : Int) - 1)) (a ++ Wr.outR n d) := by
  intro d
  induction d with
  | zero =>
    intro a _ _
    refine Ev.step (fun k => by simp only [glossatorref13_big.l0]; rfl) (Ev.neg (by omega) (Ev.const ?_))
    simp [Wr.outR]
  | succ d ih =>
    intro a hd ha
    have e1 : ((d + 1 : Nat) : Int) - 1 = (d : Int) := by omega
    rw [e1]
    have e2 : wrap64 (8 * (d : Int)) = 8 * (d : Int) := wrap_id (by omega) (by omega)
    refine Ev.step (fun k => by simp only [glossatorref13_big.l0]; rfl) ?_
    rw [e2, wrap_id (x := (d : Int) - 1) (by omega) (by omega)]
    refine Ev.pos (by omega) (Ev.pos (by omega) (Ev.pos (by omega) (Ev.res (ih _ (by omega) (by simp; omega)) ?_)))
    have e3 : shr .u64 n (8 * (d : Int)) = n / 2 ^ (8 * d) := by
      have h9 := shr_small (k := .u64) (x := n) (y := 8 * (d : Int)) rfl (show 8 * (d : Int) ≤ ((64 : Nat) : Int) by omega)
      rw [← h9, show (8 * (d : Int)).toNat = 8 * d by omega]
    rw [e3]
    simp [Wr.outR]
theorem big13_f (first n : Int) (_h0 : 0 ≤ n) (d : Nat) (hd : d ≤ 8) : Ev (fun k => glossatorref13_big.f k first n (d : Int)) (first % 256 :: Wr.outR n d) := by
  refine Ev.congr (fun k => by unfold glossatorref13_big.f; rfl) ?_
  rw [wrap_id (x := (d : Int) - 1) (by omega) (by omega)]
  exact big13_l0 n d [first % 256] hd (by simp; omega)
def lenP (n fix below first : Int) : List Int :=
  if n < below then [(fix + n) % 256] else if n < 256 ∧ first > 0 then first % 256 :: Wr.outR n 1 else if n < 65536 then (max first (-first) + 1) % 256 :: Wr.outR n 2 else (max first (-first) + 2) % 256 :: Wr.outR n 4
theorem length13_j (n first : Int) (h0 : 0 ≤ n) (h1 : n ≤ 4294967295) (hf : -1000 ≤ first ∧ first ≤ 1000) (b : Bool) (hb : b = true → n < 256 ∧ first > 0) (hb2 : b = false → ¬ (n < 256 ∧ first > 0)) :
    Ev (fun k => glossatorref13_length.j0 k n first b) (if n < 256 ∧ first > 0 then first % 256 :: Wr.outR n 1 else if n < 65536 then (max first (-first) + 1) % 256 :: Wr.outR n 2 else (max first (-first) + 2) % 256 :: Wr.outR n 4) := by
  have hu : IntKind.u64.wrap n = n := by simp [IntKind.wrap, IntKind.bits, IntKind.signed]; omega
  refine Ev.step (fun k => by simp only [glossatorref13_length.j0]; rfl) ?_
  rw [hu, wrap_id (x := -first) (by omega) (by omega), mx_max, wrap_id (x := max first (-first) + 1) (by omega) (by omega), wrap_id (x := max first (-first) + 2) (by omega) (by omega)]
  cases b with
  | true =>
    rw [if_pos (hb rfl)]
    exact Ev.pos rfl (Ev.bind (big13_f first n h0 1 (by omega)) (Ev.const rfl))
  | false =>
    rw [if_neg (hb2 rfl)]
    refine Ev.neg (by simp) ?_
    by_cases h : n < 65536
    · rw [if_pos h]
      exact Ev.pos h (Ev.bind (big13_f _ n h0 2 (by omega)) (Ev.const rfl))
    · rw [if_neg h]
      exact Ev.neg h (Ev.bind (big13_f _ n h0 4 (by omega)) (Ev.const rfl))
theorem length13_f (n fix below first : Int) (h0 : 0 ≤ n) (h1 : n ≤ 4294967295) (hf : -1000 ≤ first ∧ first ≤ 1000) (hx : 0 ≤ fix ∧ fix ≤ 1000) : Ev (fun k => glossatorref13_length.f k n fix below first) (lenP n fix below first) := by
  refine Ev.congr (fun k => by unfold glossatorref13_length.f; rfl) ?_
  unfold lenP
  by_cases h : n < below
  · rw [if_pos h, wrap_id (x := fix + n) (by omega) (by omega)]
    exact Ev.pos h (Ev.const rfl)
  · rw [if_neg h]
    refine Ev.neg h ?_
    by_cases h2 : n < 256
    · exact Ev.pos h2 (length13_j n first h0 h1 hf _ (fun h3 => ⟨h2, of_decide_eq_true h3⟩) (fun h3 h4 => of_decide_eq_false h3 h4.2))
    · exact Ev.neg h2 (length13_j n first h0 h1 hf _ (fun h3 => by cases h3) (fun _ h4 => h2 h4.1))
theorem szR_lt (n : Int) (h0 : 0 ≤ n) : Wr.szR n = if n < 256 then 0 else if n < 65536 then 1 else if n < 4294967296 then 2 else 3 := by
  unfold Wr.szR
  repeat' split
  all_goals omega
def wholeP (b : Bool) (n : Int) : List Int :=
  (fun (x m f : Int) => if (b = false ∧ n < 128) ∨ (b = true ∧ x < 64) then [m % 256] else if x < 256 then f % 256 :: Wr.outR m 1 else if x < 65536 then (f + 1) % 256 :: Wr.outR m 2 else if x < 4294967296 then (f + 2) % 256 :: Wr.outR m 4 else (f + 3) % 256 :: Wr.outR m 8)
    (if b = true then 2 * n else n) (if b = true then 18446744073709551615 - n else n) (if b = true then 208 else 204)
theorem whole13_j2 (x m f : Int) (c : Bool) (hm : 0 ≤ m) (hf : 0 ≤ f ∧ f ≤ 1000) :
    Ev (fun k => glossatorref13_whole.j2 k m x f c) (if c = true then [m % 256] else if x < 256 then f % 256 :: Wr.outR m 1 else if x < 65536 then (f + 1) % 256 :: Wr.outR m 2 else if x < 4294967296 then (f + 2) % 256 :: Wr.outR m 4 else (f + 3) % 256 :: Wr.outR m 8) := by
  refine Ev.step (fun k => by simp only [glossatorref13_whole.j2]; rfl) ?_
  rw [wrap_id (x := f + 1) (by omega) (by omega), wrap_id (x := f + 2) (by omega) (by omega), wrap_id (x := f + 3) (by omega) (by omega)]
  cases c with
  | true => exact Ev.pos rfl (Ev.const rfl)
  | false =>
    refine Ev.neg (by simp) ?_
    rw [if_neg (by simp)]
    by_cases h1 : x < 256
    · rw [if_pos h1]; exact Ev.pos h1 (Ev.bind (big13_f _ m hm 1 (by omega)) (Ev.const rfl))
    · rw [if_neg h1]
      refine Ev.neg h1 ?_
      by_cases h2 : x < 65536
      · rw [if_pos h2]; exact Ev.pos h2 (Ev.bind (big13_f _ m hm 2 (by omega)) (Ev.const rfl))
      · rw [if_neg h2]
        refine Ev.neg h2 ?_
        by_cases h3 : x < 4294967296
        · rw [if_pos h3]; exact Ev.pos h3 (Ev.bind (big13_f _ m hm 4 (by omega)) (Ev.const rfl))
        · rw [if_neg h3]; exact Ev.neg h3 (Ev.bind (big13_f _ m hm 8 (by omega)) (Ev.const rfl))
theorem whole13_f (b : Bool) (n : Int) (h0 : 0 ≤ n) (h1 : n ≤ 18446744073709551615) (hs : b = true → n < 9223372036854775808) : Ev (fun k => glossatorref13_whole.f k b n) (wholeP b n) := by
  refine Ev.congr (fun k => by unfold glossatorref13_whole.f; rfl) ?_
  unfold wholeP
  cases b with
  | true =>
    have hn := hs rfl
    have hw : IntKind.u64.wrap (2 * n) = 2 * n := by simp [IntKind.wrap, IntKind.bits, IntKind.signed]; omega
    refine Ev.pos rfl ?_
    rw [Wr.not_u64 n h0 h1, hw]
    refine Ev.step (fun k => by simp only [glossatorref13_whole.j0]; rfl) ?_
    refine Ev.congr (g := fun k => glossatorref13_whole.j1 k true (18446744073709551615 - n) (2 * n) 208 false) (fun k => by first | rfl | simp) ?_
    refine Ev.step (fun k => by simp only [glossatorref13_whole.j1]; rfl) ?_
    refine Ev.congr (g := fun k => glossatorref13_whole.j2 k (18446744073709551615 - n) (2 * n) 208 (decide (2 * n < 64))) (fun k => by first | rfl | simp) ?_
    refine Ev.res (whole13_j2 (2 * n) (18446744073709551615 - n) 208 _ (by omega) (by omega)) ?_
    simp
  | false =>
    refine Ev.neg (by simp) ?_
    refine Ev.step (fun k => by simp only [glossatorref13_whole.j0]; rfl) (Ev.neg (by simp) ?_)
    refine Ev.step (fun k => by simp only [glossatorref13_whole.j1]; rfl) ?_
    by_cases h : n < 128
    · refine Ev.pos (decide_eq_true h) (Ev.res (whole13_j2 n n 204 _ h0 (by omega)) ?_)
      simp [h]
    · refine Ev.neg (by simpa using h) (Ev.neg (by simp) (Ev.res (whole13_j2 n n 204 _ h0 (by omega)) ?_))
      simp [h]
theorem whole_num (b : Bool) (n : Int) (h0 : 0 ≤ n) (h1 : n ≤ 18446744073709551615) (hs : b = true → n < 9223372036854775808) : wholeP b n = Wr.numR b n := by
  unfold wholeP Wr.numR
  cases b with
  | true =>
    have hn := hs rfl
    have e : n * 2 % 18446744073709551616 = 2 * n := by omega
    simp only [e, if_true, Bool.true_eq_false, false_and, false_or, true_and, if_false]
    by_cases h : n < 32
    · rw [if_pos (by omega), if_pos h]; congr 1; omega
    · rw [if_neg (by omega), if_neg h, szR_lt _ (by omega)]
      (repeat' split) <;> first | rfl | omega
  | false =>
    simp only [if_false, Bool.false_eq_true, true_and, false_and, or_false, if_true]
    by_cases h : n < 128
    · rw [if_pos h, if_pos h]; congr 1; omega
    · rw [if_neg h, if_neg h, szR_lt _ (by omega)]
      (repeat' split) <;> first | rfl | omega
theorem head10_len (n : Int) (h0 : 0 ≤ n) (h1 : n < 4294967296) : lenP n 160 32 217 = Wr.headR 10 n := by
  unfold lenP Wr.headR
  rw [if_neg (show ¬ ((10 : Int) = 9) by decide), szR_lt n h0]
  (repeat' split) <;> first | rfl | omega | (congr 1; omega)
theorem head9_len (n : Int) (h0 : 0 ≤ n) (h1 : n < 4294967296) : lenP n 0 0 196 = Wr.headR 9 n := by
  unfold lenP Wr.headR
  rw [if_pos rfl, szR_lt n h0, if_neg (by omega)]
  (repeat' split) <;> first | rfl | omega
theorem ext_len (n : Nat) (h1 : (n : Int) < 4294967296) : Wr.rexH n (lenP (n : Int) 0 0 199) = Wr.extR (n : Int) := by
  have e : lenP (n : Int) 0 0 199 = ((199 : Int) + Wr.szR (n : Int)) % 256 :: Wr.outR (n : Int) (2 ^ Wr.szR (n : Int)) := by
    unfold lenP
    rw [szR_lt _ (by omega), if_neg (by omega)]
    (repeat' split) <;> first | rfl | omega
  unfold Wr.rexH Wr.extR
  rw [e]
  simp only [show ((n : Int) = 1) = (n = 1) from propext (by omega), show ((n : Int) = 2) = (n = 2) from propext (by omega), show ((n : Int) = 4) = (n = 4) from propext (by omega), show ((n : Int) = 8) = (n = 8) from propext (by omega), show ((n : Int) = 16) = (n = 16) from propext (by omega)]
theorem list_len (n : Int) (h0 : 0 ≤ n) (h1 : n < 4294967296) : lenP n 144 16 (-219) = if n < 16 then [144 + n] else Wr.lenR 220 n := by
  unfold lenP Wr.lenR
  by_cases h : n < 16
  · rw [if_pos h, if_pos h]; congr 1; omega
  · rw [if_neg h, if_neg h, if_neg (by omega)]
    (repeat' split) <;> first | rfl | omega
theorem map_len (n : Int) (h0 : 0 ≤ n) (h1 : n < 4294967296) : lenP n 128 16 (-221) = if n < 16 then [128 + n] else Wr.lenR 222 n := by
  unfold lenP Wr.lenR
  by_cases h : n < 16
  · rw [if_pos h, if_pos h]; congr 1; omega
  · rw [if_neg h, if_neg h, if_neg (by omega)]
    (repeat' split) <;> first | rfl | omega
theorem ritem_l0 (v0 : Int) (v1 : Bool) (v2 : Int) (v3 : ByteArray) (l : List S25) (hl : l.length ≤ 1099511627776) (hf : ∀ x ∈ l, Ev (fun k => glossatorref13_Item.f k x.f0 x.f1 x.f2 x.f3 x.f4) (itR x)) :
    ∀ (d j : Nat) (a : List Int), j + d = l.length → a.length + (itRL (l.drop j)).length ≤ 2199023255552 → Ev (fun k => glossatorref13_Item.l0 k a (j : Int) v0 v1 v2 v3 l) (a ++ itRL (l.drop j)) := by
  intro d
  induction d with
  | zero =>
    intro j a hj _
    refine Ev.step (fun k => by simp only [glossatorref13_Item.l0]; rfl) (Ev.neg (by omega) (Ev.const ?_))
    rw [List.drop_of_length_le (by omega)]
    simp [itRL]
  | succ d ih =>
    intro j a hj ha
    have hlt : j < l.length := by omega
    rw [List.drop_eq_getElem_cons hlt] at ha ⊢
    simp only [itRL, List.length_append] at ha ⊢
    refine Ev.step (fun k => by simp only [glossatorref13_Item.l0]; rfl) (Ev.pos (by omega) (Ev.pos (by omega) ?_))
    rw [rdT_get l j hlt, wrap_id (by omega) (by omega)]
    refine Ev.bind (hf _ (List.getElem_mem hlt)) (Ev.pos (by omega) ?_)
    refine Ev.res (ih (j + 1) _ (by omega) (by simp only [List.length_append]; omega)) ?_
    simp [List.append_assoc]
theorem ok_kids (a0 : Int) (a1 : Bool) (a2 : Int) (a3 : ByteArray) (l : List S25) (h : (subs ⟨a0, a1, a2, a3, l⟩).all okR = true) : okR ⟨a0, a1, a2, a3, l⟩ = true ∧ ∀ y ∈ l, (subs y).all okR = true := by
  simp only [subs, List.all_cons, Bool.and_eq_true] at h
  refine ⟨h.1, ?_⟩
  have h2 := h.2
  clear h
  induction l with
  | nil => intro y hy; cases hy
  | cons x l ih =>
    simp only [subsL, List.all_append, Bool.and_eq_true] at h2
    intro y hy
    rcases List.mem_cons.1 hy with rfl | hy
    · exact h2.1
    · exact ih h2.2 y hy
theorem says_mem : ∀ (l : List S25), saysRL l = true → ∀ y ∈ l, saysR y = true
  | [] => fun _ y hy => by cases hy
  | x :: l => fun h y hy => by
    simp only [saysRL, Bool.and_eq_true] at h
    rcases List.mem_cons.1 hy with rfl | hy
    · exact h.1
    · exact says_mem l h.2 y hy
theorem itRL_mem : ∀ (l : List S25), ∀ y ∈ l, (itR y).length ≤ (itRL l).length
  | [] => fun y hy => by cases hy
  | x :: l => fun y hy => by
    simp only [itRL, List.length_append]
    rcases List.mem_cons.1 hy with rfl | hy
    · omega
    · have := itRL_mem l y hy; omega
theorem len_szL : ∀ l : List S25, l.length ≤ szL25 l
  | [] => by simp
  | x :: l => by
    have := len_szL l
    have := cnt_sz x
    have := cnt_pos x
    simp only [List.length_cons, szL25]; omega
theorem szL_mem : ∀ (l : List S25), ∀ y ∈ l, szS25 y ≤ szL25 l
  | [] => fun y hy => by cases hy
  | x :: l => fun y hy => by
    simp only [szL25]
    rcases List.mem_cons.1 hy with rfl | hy
    · omega
    · have := szL_mem l y hy; omega
theorem ritem_f : ∀ (m : Nat) (x : S25), dep25 x < m → wfS25 x → szS25 x ≤ 4194304 → (subs x).all okR = true → saysR x = true → Ev (fun k => glossatorref13_Item.f k x.f0 x.f1 x.f2 x.f3 x.f4) (itR x) := by
  intro m
  induction m with
  | zero => intro x h; omega
  | succ m ih =>
    rintro ⟨a0, a1, a2, a3, a4⟩ hd hw hs hok hsay
    obtain ⟨hl, hk⟩ := wf_kids hw
    have hlen := itR_len ⟨a0, a1, a2, a3, a4⟩
    have hlenL := itRL_len a4
    have hll := len_szL a4
    have hml := szL_mem a4
    simp only [dep25] at hd
    simp only [szS25] at hs
    have hn := wf_u64 (show (Lit.int .u64 a2).wf = true from by simp only [wfS25] at hw; exact hw.2.2.1)
    obtain ⟨ho, hko⟩ := ok_kids a0 a1 a2 a3 a4 hok
    simp only [okR, oneR, Bool.and_eq_true, decide_eq_true_eq] at ho
    obtain ⟨⟨⟨⟨hk0, hneg⟩, hbits⟩, hrest⟩, hleaf⟩ := ho
    have hnil : leafR a0 = true → a4 = [] := by
      intro h
      rw [h] at hleaf
      simp only [Bool.true_and, Bool.not_eq_true', decide_eq_false_iff_not] at hleaf
      exact List.length_eq_zero_iff.1 (by omega)
    refine Ev.step (fun k => by simp only [glossatorref13_Item.f]; rfl) ?_
    have hrec : ∀ y ∈ a4, a0 = 11 ∨ a0 = 12 → Ev (fun k => glossatorref13_Item.f k y.f0 y.f1 y.f2 y.f3 y.f4) (itR y) := by
      intro y hy h0
      refine ih y (by have := dep25_mem a4 y hy; omega) (hk y hy) (by have := hml y hy; omega) (hko y hy) ?_
      refine says_mem a4 ?_ y hy
      simp only [saysR] at hsay
      rw [if_neg (by omega), if_neg (by omega)] at hsay
      exact hsay
    have e : itR ⟨a0, a1, a2, a3, a4⟩ = Wr.hdr T25 ⟨a0, a1, a2, a3, a4⟩ ++ itRL a4 := by rw [itR]
    have eh : Wr.hdr T25 ⟨a0, a1, a2, a3, a4⟩ = (if a0 = 0 then [192] else if a0 = 1 then [(194 + a2) % 256] else if a0 = 4 then Wr.numR a1 a2 else if a0 = 7 then 202 :: Wr.outR a2 4 else if a0 = 8 then 203 :: Wr.outR a2 8
      else if a0 = 9 ∨ a0 = 10 then Wr.headR a0 (a3.size : Int) ++ bytesOf a3 else if a0 = 14 then Wr.extR (a3.size : Int) ++ (a2 % 256 :: bytesOf a3)
      else if a0 = 12 then (if (a4.length : Int) / 2 < 16 then [128 + (a4.length : Int) / 2] else Wr.lenR 222 ((a4.length : Int) / 2))
      else if a0 = 11 then (if (a4.length : Int) < 16 then [144 + (a4.length : Int)] else Wr.lenR 220 (a4.length : Int)) else []) := rfl
    rw [e, eh]
    clear e eh
    by_cases h0 : a0 = 0
    · rw [hnil (by subst h0; rfl), if_pos h0]; exact Ev.pos h0 (Ev.const rfl)
    rw [if_neg h0]; refine Ev.neg h0 ?_
    by_cases h1 : a0 = 1
    · rw [hnil (by subst h1; rfl), if_pos h1]; exact Ev.pos h1 (Ev.const (by simp [itRL]))
    rw [if_neg h1]; refine Ev.neg h1 ?_
    by_cases h4 : a0 = 4
    · have hb : a1 = true → a2 < 9223372036854775808 := by
        intro hb
        simp only [saysR] at hsay
        rw [if_neg (by omega), if_pos h4, hb] at hsay
        simpa using hsay
      rw [hnil (by subst h4; rfl), if_pos h4]
      refine Ev.pos h4 (Ev.bind (whole13_f a1 a2 hn.1 hn.2 hb) (Ev.const ?_))
      rw [whole_num a1 a2 hn.1 hn.2 hb]
      simp [itRL]
    rw [if_neg h4]; refine Ev.neg h4 ?_
    by_cases h7 : a0 = 7
    · rw [hnil (by subst h7; rfl), if_pos h7]
      exact Ev.pos h7 (Ev.bind (big13_f 202 a2 hn.1 4 (by omega)) (Ev.const (by simp [itRL])))
    rw [if_neg h7]; refine Ev.neg h7 ?_
    by_cases h8 : a0 = 8
    · rw [hnil (by subst h8; rfl), if_pos h8]
      exact Ev.pos h8 (Ev.bind (big13_f 203 a2 hn.1 8 (by omega)) (Ev.const (by simp [itRL])))
    rw [if_neg h8]; refine Ev.neg h8 ?_
    by_cases h10 : a0 = 10
    · have hh := Wr.headR_len 10 (a3.size : Int)
      rw [hnil (by subst h10; rfl), if_pos (Or.inr h10)]
      refine Ev.pos h10 (Ev.bind (length13_f (a3.size : Int) 160 32 217 (by omega) (by omega) (by omega) (by omega)) ?_)
      rw [head10_len _ (by omega) (by omega), h10]
      exact Ev.pos (by omega) (Ev.const (by simp [itRL]))
    refine Ev.neg h10 ?_
    by_cases h9 : a0 = 9
    · have hh := Wr.headR_len 9 (a3.size : Int)
      rw [hnil (by subst h9; rfl), if_pos (Or.inl h9)]
      refine Ev.pos h9 (Ev.bind (length13_f (a3.size : Int) 0 0 196 (by omega) (by omega) (by omega) (by omega)) ?_)
      rw [head9_len _ (by omega) (by omega), h9]
      exact Ev.pos (by omega) (Ev.const (by simp [itRL]))
    rw [if_neg (by omega)]; refine Ev.neg h9 ?_
    by_cases h11 : a0 = 11
    · rw [if_neg (by omega), if_neg (by omega), if_pos h11]
      refine Ev.pos h11 (Ev.bind (length13_f (a4.length : Int) 144 16 (-219) (by omega) (by omega) (by omega) (by omega)) ?_)
      rw [list_len _ (by omega) (by omega)]
      have hh := Wr.lenR_len 220 (a4.length : Int)
      refine Ev.step (fun k => by simp only [glossatorref13_Item.j0]; rfl) (Ev.res (ritem_l0 a0 a1 a2 a3 a4 (by omega) (fun y hy => hrec y hy (Or.inl h11)) a4.length 0 _ (by omega) ?_) ?_)
      · rw [List.drop_zero]; split <;> (try simp only [List.length_singleton]) <;> omega
      · rw [List.drop_zero]
    refine Ev.neg h11 ?_
    by_cases h12 : a0 = 12
    · rw [if_neg (by omega), if_pos h12]
      refine Ev.pos h12 ?_
      rw [wrap_id (x := (a4.length : Int) / 2) (by omega) (by omega)]
      refine Ev.bind (length13_f ((a4.length : Int) / 2) 128 16 (-221) (by omega) (by omega) (by omega) (by omega)) ?_
      rw [map_len _ (by omega) (by omega)]
      have hh := Wr.lenR_len 222 ((a4.length : Int) / 2)
      refine Ev.step (fun k => by simp only [glossatorref13_Item.j0]; rfl) (Ev.res (ritem_l0 a0 a1 a2 a3 a4 (by omega) (fun y hy => hrec y hy (Or.inr h12)) a4.length 0 _ (by omega) ?_) ?_)
      · rw [List.drop_zero]; split <;> (try simp only [List.length_singleton]) <;> omega
      · rw [List.drop_zero]
    refine Ev.neg h12 ?_
    have h14 : a0 = 14 := by
      have : ¬ (a0 = 2 ∨ a0 = 3 ∨ a0 = 5 ∨ a0 = 6 ∨ a0 = 13) := by
        intro h
        simp only [saysR] at hsay
        rw [if_pos h] at hsay
        cases hsay
      omega
    rw [hnil (by subst h14; rfl), if_pos h14]
    have hl13 : (lenP (a3.size : Int) 0 0 199).length ≤ 10 := by
      unfold lenP
      (repeat' split) <;> simp only [List.length_cons, List.length_nil, Wr.outR_len] <;> omega
    have hext : Ev (fun k => glossatorref13_ext.f k a0 a1 a2 a3 []) (Wr.extR (a3.size : Int) ++ (a2 % 256 :: bytesOf a3)) := by
      refine Ev.congr (fun k => by unfold glossatorref13_ext.f; rfl) ?_
      refine Ev.pos (by omega) ?_
      refine Ev.bind (length13_f (a3.size : Int) 0 0 199 (by omega) (by omega) (by omega) (by omega)) ?_
      refine Ev.pos (by omega) (Ev.const ?_)
      rw [ext_len a3.size (by omega)]
      simp
    exact Ev.bind hext (Ev.const (by simp [itRL]))
theorem rsays_l0 (v0 : Int) (v1 : Bool) (v2 : Int) (v3 : ByteArray) (l : List S25) (hl : l.length * 64 ≤ 140737488351232) (hf : ∀ x ∈ l, Ev (fun k => glossatorref13_Says.f k x.f0 x.f1 x.f2 x.f3 x.f4) (saysR x)) :
    ∀ (d j : Nat), j + d = l.length → Ev (fun k => glossatorref13_Says.l0 k (j : Int) v0 v1 v2 v3 l) (saysRL (l.drop j)) := by
  intro d
  induction d with
  | zero =>
    intro j hj
    refine Ev.step (fun k => by simp only [glossatorref13_Says.l0]; rfl) (Ev.neg (by omega) (Ev.const ?_))
    rw [List.drop_of_length_le (by omega)]
    rfl
  | succ d ih =>
    intro j hj
    have hlt : j < l.length := by omega
    refine Ev.step (fun k => by simp only [glossatorref13_Says.l0]; rfl) (Ev.pos (by omega) (Ev.pos (by omega) ?_))
    rw [rdT_get l j hlt, wrap_id (by omega) (by omega), List.drop_eq_getElem_cons hlt]
    refine Ev.bind (hf _ (List.getElem_mem hlt)) ?_
    simp only [saysRL]
    cases h : saysR l[j] with
    | true => rw [Bool.true_and]; exact Ev.pos rfl (ih (j + 1) (by omega))
    | false => exact Ev.neg (by simp) (Ev.const rfl)
theorem rsays_f : ∀ (m : Nat) (x : S25), dep25 x < m → wfS25 x → Ev (fun k => glossatorref13_Says.f k x.f0 x.f1 x.f2 x.f3 x.f4) (saysR x) := by
  intro m
  induction m with
  | zero => intro x h; omega
  | succ m ih =>
    rintro ⟨a0, a1, a2, a3, a4⟩ hd hw
    obtain ⟨hl, hk⟩ := wf_kids hw
    simp only [dep25] at hd
    have hj : ∀ b : Bool, b = decide (a0 = 2 ∨ a0 = 3 ∨ a0 = 5 ∨ a0 = 6 ∨ a0 = 13) → Ev (fun k => glossatorref13_Says.j0 k a0 b a0 a1 a2 a3 a4) (saysR ⟨a0, a1, a2, a3, a4⟩) := by
      intro b hb
      refine Ev.step (fun k => by simp only [glossatorref13_Says.j0]; rfl) ?_
      simp only [saysR]
      by_cases h1 : a0 = 2 ∨ a0 = 3 ∨ a0 = 5 ∨ a0 = 6 ∨ a0 = 13
      · rw [if_pos h1]
        exact Ev.pos (by rw [hb]; exact decide_eq_true h1) (Ev.const rfl)
      · rw [if_neg h1]
        refine Ev.neg (by rw [hb, decide_eq_false h1]; simp) ?_
        by_cases h4 : a0 = 4
        · rw [if_pos h4]
          refine Ev.pos h4 ?_
          cases a1 with
          | true => exact Ev.pos rfl (Ev.const (by simp))
          | false => exact Ev.neg (by simp) (Ev.const rfl)
        · rw [if_neg h4]
          refine Ev.neg h4 (Ev.res (rsays_l0 a0 a1 a2 a3 a4 hl (fun x hx => ih x (by have := dep25_mem a4 x hx; omega) (hk x hx)) a4.length 0 (by omega)) ?_)
          rw [List.drop_zero]
    refine Ev.step (fun k => by simp only [glossatorref13_Says.f]; rfl) ?_
    by_cases h2 : a0 = 2
    · exact Ev.pos h2 (hj _ (by subst h2; decide))
    · refine Ev.neg h2 ?_
      by_cases h3 : a0 = 3
      · exact Ev.pos h3 (hj _ (by subst h3; decide))
      · refine Ev.neg h3 ?_
        by_cases h5 : a0 = 5
        · exact Ev.pos h5 (hj _ (by subst h5; decide))
        · refine Ev.neg h5 ?_
          by_cases h6 : a0 = 6
          · exact Ev.pos h6 (hj _ (by subst h6; decide))
          · refine Ev.neg h6 (hj _ ?_)
            rw [Bool.eq_iff_iff]
            simp only [beq_iff_eq, decide_eq_true_eq]
            omega
theorem check_ok (x : S25) (h : checkR x = 0) : (subs x).all okR = true := by
  unfold checkR at h
  split at h
  · cases h
  · split at h
    · cases h
    · split at h
      · assumption
      · cases h
theorem renc_f (x : S25) (hw : wfS25 x) (hs : szS25 x ≤ 4194304) : Ev (fun k => glossatorref13_Encode.f k x.f0 x.f1 x.f2 x.f3 x.f4) (encT x) := by
  refine Ev.congr (fun k => by unfold glossatorref13_Encode.f; rfl) (Ev.bind (rcheck_f x hw hs) ?_)
  unfold encT
  by_cases h : checkR x = 0
  · rw [if_pos h, h]
    refine Ev.pos (by trivial) (Ev.bind (rsays_f _ x (Nat.lt_succ_self _) hw) ?_)
    cases hy : saysR x with
    | true => exact Ev.pos rfl (Ev.bind (ritem_f _ x (Nat.lt_succ_self _) hw hs (check_ok x h) hy) (Ev.const rfl))
    | false => exact Ev.neg (by simp) (Ev.const rfl)
  · rw [if_neg h]
    exact Ev.neg h (Ev.const rfl)

theorem PackEncodes : glossatorlaw13_PackEncodes.Pure := by
  intro a0 a1 a2 a3 a4 ha hs
  refine Ev.rounds (Ev.congr (fun k => by unfold glossatorlaw13_PackEncodes.f; rfl) ?_)
  refine Ev.bind (enc_f ⟨a0, a1, a2, a3, a4⟩ ha (by omega)) (Ev.bind (renc_f ⟨a0, a1, a2, a3, a4⟩ ha (by omega)) ?_)
  exact Ev.pos rfl (Ev.pos rfl (Ev.bind awake_t (Ev.const rfl)))

end Go.Proofs.Ytchklgkakefhbaa.Pure
