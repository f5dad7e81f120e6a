/- Proved: the pure statement of EventEvents: the program's events of any tree are the document's. -/
import Derived.Test.YtcgpfclmcajekaaPEventEventsx8
import Derived.Test.YtcgpfclmcajekaaUtf
namespace Go.Proofs.Ytcgpfclmcajekaa.Pure
open Go.RowKit Go.Proofs.Ytcgpfclmcajekaa.PEventEvents Go.Proofs.YtcgpfclmcajekaaW.PrintWords Go.Proofs.YtcgpfclmcajekaaW.PrintLast Go.Proofs.YtcgpfclmcajekaaW.PrintMore

theorem Ev.pos {α : Type} {c : Prop} [Decidable c] {f g : Nat → Option α} {r : α} (h : c) (k : Ev f r) : Ev (fun n => if c then f n else g n) r := Ev.congr (fun _ => if_pos h) k
theorem Ev.neg {α : Type} {c : Prop} [Decidable c] {f g : Nat → Option α} {r : α} (h : ¬ c) (k : Ev g r) : Ev (fun n => if c then f n else g n) r := Ev.congr (fun _ => if_neg h) k
theorem Ev.const {α : Type} {x : Option α} {r : α} (h : x = some r) : Ev (fun _ => x) r := ⟨0, fun _ _ => h⟩
theorem Ev.pre {α β : Type} {x : Option α} {a : α} {f : Nat → α → Option β} {r : β} (h : x = some a) (k : Ev (fun n => f n a) r) : Ev (fun n => x.bind (f n)) r := Ev.congr (fun _ => by rw [h]; rfl) k
theorem Ev.res {α : Type} {g : Nat → Option α} {r r' : α} (k : Ev g r') (e : r' = r) : Ev g r := e ▸ k
theorem wrap_id {x : Int} (h0 : -9223372036854775808 ≤ x) (h1 : x ≤ 9223372036854775807) : wrap64 x = x := by unfold wrap64; omega

theorem wf_i64 {n : Int} (h : (Lit.int .i64 n).wf = true) : -9223372036854775808 ≤ n ∧ n ≤ 9223372036854775807 := by
  simp [Lit.wf, IntKind.min, IntKind.max, IntKind.signed, IntKind.bits] at h; omega
theorem wf_u64 {n : Int} (h : (Lit.int .u64 n).wf = true) : 0 ≤ n ∧ n ≤ 18446744073709551615 := by
  simp [Lit.wf, IntKind.min, IntKind.max, IntKind.signed, IntKind.bits] at h; omega

theorem wf_kids {f0 : Int} {f1 : Bool} {f2 : Int} {f3 : ByteArray} {l : List S25} (h : wfS25 ⟨f0, f1, f2, f3, l⟩) : l.length * 64 ≤ 140737488351232 ∧ ∀ y ∈ l, wfS25 y := by
  simp only [wfS25] at h
  exact ⟨h.2.2.2.2.1, (wfL25_iff _).1 h.2.2.2.2.2⟩
theorem rdT_get (xs : List S25) (j : Nat) (h : j < xs.length) : rd_T25 xs (j : Int) = xs[j] := by
  simp [rd_T25, List.getElem?_eq_getElem h]
theorem dep_kid {f0 : Int} {f1 : Bool} {f2 : Int} {f3 : ByteArray} {l : List S25} {y : S25} (h : y ∈ l) : dep25 y < dep25 ⟨f0, f1, f2, f3, l⟩ := by
  have := dep25_mem l y h; simp only [dep25]; omega

mutual
/-- How many values a tree has. -/
def cnt : S25 → Nat
  | ⟨_, _, _, _, l⟩ => cntL l + 1
def cntL : List S25 → Nat
  | [] => 0
  | x :: l => cnt x + cntL l
end
mutual
/-- A tree's values, each ahead of those within it. -/
def subs : S25 → List S25
  | ⟨a, b, c, d, l⟩ => ⟨a, b, c, d, l⟩ :: subsL l
def subsL : List S25 → List S25
  | [] => []
  | x :: l => subs x ++ subsL l
end
mutual
theorem subs_len : ∀ x : S25, (subs x).length = cnt x
  | ⟨a, b, c, d, l⟩ => by simp only [subs, cnt, List.length_cons, subsL_len l]
theorem subsL_len : ∀ l : List S25, (subsL l).length = cntL l
  | [] => rfl
  | x :: l => by simp only [subsL, cntL, List.length_append, subs_len x, subsL_len l]
end
theorem nodesL_subs (f : List Int → S25 → List (List Int × S25)) (p : List Int) : ∀ (l : List S25) (i : Nat), (∀ y ∈ l, ∀ q, (f q y).map (·.2) = subs y) → (Each.Tree.nodesL f p l i).map (·.2) = subsL l
  | [], _, _ => rfl
  | y :: l, i, h => by simp only [Each.Tree.nodesL, List.map_append, subsL, h y (by simp), nodesL_subs f p l (i + 1) (fun z hz => h z (by simp [hz]))]
theorem nodes_subs : ∀ (m : Nat) (x : S25) (p : List Int), dep25 x < m → (T25.nodes m p x).map (·.2) = subs x := by
  intro m
  induction m with
  | zero => intro x p h; omega
  | succ m ih =>
    rintro ⟨a, b, c, d, l⟩ p h
    have e : T25.nodes (m + 1) p ⟨a, b, c, d, l⟩ = (p, ⟨a, b, c, d, l⟩) :: Each.Tree.nodesL (T25.nodes m) p l 0 := rfl
    rw [e, List.map_cons, nodesL_subs _ _ _ _ (fun y hy q => ih y q (by have := dep_kid (f0 := a) (f1 := b) (f2 := c) (f3 := d) hy; omega))]
    rfl
theorem nodes_len (x : S25) (p : List Int) : (T25.nodes (dep25 x + 1) p x).length = cnt x := by
  rw [← subs_len, ← nodes_subs _ x p (Nat.lt_succ_self _), List.length_map]
mutual
theorem dep_sz : ∀ x : S25, dep25 x ≤ szS25 x
  | ⟨a, b, c, d, l⟩ => by have := depL_sz l; simp only [dep25, szS25]; omega
theorem depL_sz : ∀ l : List S25, depL25 l ≤ szL25 l
  | [] => Nat.le_refl _
  | x :: l => by have := dep_sz x; have := depL_sz l; simp only [depL25, szL25]; omega
end
mutual
theorem cnt_sz : ∀ x : S25, cnt x ≤ szS25 x
  | ⟨a, b, c, d, l⟩ => by have := cntL_sz l; simp only [cnt, szS25]; omega
theorem cntL_sz : ∀ l : List S25, cntL l ≤ szL25 l
  | [] => Nat.le_refl _
  | x :: l => by have := cnt_sz x; have := cntL_sz l; simp only [cntL, szL25]; omega
end
theorem cnt_pos : ∀ x : S25, 1 ≤ cnt x
  | ⟨_, _, _, _, l⟩ => by simp only [cnt]; omega
/-- Are none within it. -/
def leafR (k : Int) : Bool := decide (k ≠ 11 ∧ k ≠ 12 ∧ k ≠ 13)
mutual
/-- How deep. -/
def depR : S25 → Int
  | ⟨k, _, _, _, l⟩ => if leafR k = true then (if k = 5 then 1 else 0) else depRL l + 1
def depRL : List S25 → Int
  | [] => 0
  | x :: l => max (depR x) (depRL l)
end
mutual
theorem depR_pos : ∀ x : S25, 0 ≤ depR x ∧ depR x ≤ dep25 x
  | ⟨k, _, _, _, l⟩ => by
    have := depRL_pos l
    simp only [depR, dep25]
    by_cases h : leafR k = true
    · rw [if_pos h]; by_cases h5 : k = 5
      · rw [if_pos h5]; omega
      · rw [if_neg h5]; omega
    · rw [if_neg h]; omega
theorem depRL_pos : ∀ l : List S25, 0 ≤ depRL l ∧ depRL l ≤ depL25 l
  | [] => by simp [depRL, depL25]
  | x :: l => by have := depR_pos x; have := depRL_pos l; simp only [depRL, depL25]; omega
end
theorem leaf_f (a0 : Int) (a1 : Bool) (a2 : Int) (a3 : ByteArray) (a4 : List S25) : value_Leaf.f a0 a1 a2 a3 a4 = some (leafR a0) := by
  unfold value_Leaf.f leafR
  by_cases h1 : a0 = 11
  · rw [if_pos h1]; simp [h1]
  · by_cases h2 : a0 = 12
    · rw [if_neg h1, if_pos h2]; simp [h2]
    · by_cases h3 : a0 = 13
      · rw [if_neg h1, if_neg h2, if_pos h3]; simp [h3]
      · rw [if_neg h1, if_neg h2, if_neg h3]; simp [h1, h2, h3]
theorem mx_max (a b : Int) : mx a b = max a b := by unfold mx; omega
theorem depth_l0 (l : List S25) (hl : l.length * 64 ≤ 140737488351232) (hd : depL25 l ≤ 9000000000000000000) (hf : ∀ x ∈ l, Ev (fun k => value_Depth.f k x.f0 x.f1 x.f2 x.f3 x.f4) (depR x)) :
    ∀ (d j : Nat) (a : Int), j + d = l.length → 0 ≤ a → a ≤ 9000000000000000000 → Ev (fun k => value_Depth.l0 k a l (l.length : Int) (j : Int)) (max a (depRL (l.drop j)) + 1) := by
  intro d
  induction d with
  | zero =>
    intro j a hj h0 h1
    refine Ev.step (fun k => by simp only [value_Depth.l0]; rfl) (Ev.neg (by omega) (Ev.const ?_))
    rw [List.drop_of_length_le (by omega), wrap_id (by omega) (by omega)]
    simp only [depRL]
    rw [show max a 0 = a by omega]
  | succ d ih =>
    intro j a hj h0 h1
    have hlt : j < l.length := by omega
    have hb := depR_pos l[j]
    have hm := dep25_mem l l[j] (List.getElem_mem hlt)
    refine Ev.step (fun k => by simp only [value_Depth.l0]; rfl) (Ev.pos (by omega) (Ev.pos (by omega) (Ev.pos (by omega) ?_)))
    rw [rdT_get l j hlt, wrap_id (by omega) (by omega)]
    refine Ev.bind (hf _ (List.getElem_mem hlt)) ?_
    rw [mx_max]
    refine Ev.res (ih (j + 1) _ (by omega) (by omega) (by omega)) ?_
    rw [List.drop_eq_getElem_cons hlt]
    simp only [depRL]
    omega
theorem depth_f : ∀ (m : Nat) (x : S25), dep25 x < m → m ≤ 9000000000000000000 → wfS25 x → Ev (fun k => value_Depth.f k x.f0 x.f1 x.f2 x.f3 x.f4) (depR x) := by
  intro m
  induction m with
  | zero => intro x h; omega
  | succ m ih =>
    rintro ⟨a0, a1, a2, a3, a4⟩ hd hm hw
    obtain ⟨hl, hk⟩ := wf_kids hw
    refine Ev.step (fun k => by simp only [value_Depth.f]; rfl) (Ev.pre (leaf_f a0 a1 a2 a3 a4) ?_)
    simp only [depR]
    by_cases h : leafR a0 = true
    · rw [if_pos h]
      refine Ev.pos h ?_
      by_cases h5 : a0 = 5
      · exact Ev.pos h5 (Ev.const (by rw [if_pos h5]))
      · exact Ev.neg h5 (Ev.const (by rw [if_neg h5]))
    · rw [if_neg h]
      have hdl : depL25 a4 < m := by simp only [dep25] at hd; omega
      refine Ev.neg h (Ev.res (depth_l0 a4 hl (by omega) (fun x hx => ih x (by have := dep25_mem a4 x hx; omega) (by omega) (hk x hx)) a4.length 0 0 (by omega) (by omega) (by omega)) ?_)
      have := depRL_pos a4
      rw [List.drop_zero]; omega

/-- Could bytes be a great number's. -/
def bigR (s : ByteArray) : Bool := decide (8 < (s.size : Int) ∧ (s.size : Int) ≤ 512) && (bt s 0 != 0)
theorem big_f (s : ByteArray) : value_big.f s = some (bigR s) := by
  unfold value_big.f bigR
  by_cases h1 : (s.size : Int) > 8
  · rw [if_pos h1]
    by_cases h2 : (s.size : Int) ≤ 512
    · rw [if_pos h2, if_pos (by omega)]; simp [show 8 < (s.size : Int) by omega, h2]
    · rw [if_neg h2]; simp [h2]
  · rw [if_neg h1]; simp [show ¬ 8 < (s.size : Int) by omega]
/-- How many bits a kind's number may have. -/
def bitsR (k : Int) : Nat := if k = 1 then 1 else if k = 6 then 16 else if k = 7 then 32 else if k = 4 ∨ k = 8 ∨ k = 13 then 64 else if k = 3 ∨ k = 14 then 8 else 0
/-- Is a value right, but for those within it. -/
def oneR (y : S25) : Bool :=
  decide (0 ≤ y.f0 ∧ y.f0 ≤ 14) && !(y.f1 && decide (y.f0 ≠ 4 ∧ y.f0 ≠ 5)) && decide (y.f2 < 2 ^ bitsR y.f0) &&
  (if y.f0 = 10 then (Utf.checkF y.f3).2 == 0 else if y.f0 = 9 ∨ y.f0 = 14 then true else if y.f0 = 5 then bigR y.f3 else
    (y.f3.toList == ([] : List UInt8)) && (if y.f0 = 3 then !decide (19 < y.f2 ∧ y.f2 < 32) else if y.f0 = 12 then decide ((y.f4.length : Int) % 2 = 0) else
      if y.f0 = 13 then decide (y.f4.length = 1) && !(decide (y.f2 / 2 = 1) && decide ((rd_T25 y.f4 0).f0 = 9) && bigR (rd_T25 y.f4 0).f3) else true))
theorem shr_ne (n : Int) (b : Nat) (hb : b ≤ 64) (h0 : 0 ≤ n) : (shr .u64 n (b : Int) != 0) = !decide (n < 2 ^ b) := by
  unfold shr
  rw [Int.toNat_natCast, Nat.min_eq_left (by simpa [IntKind.bits] using hb)]
  have hp : (0 : Int) < 2 ^ b := Int.pow_pos (by decide)
  by_cases h : n < 2 ^ b
  · rw [Int.ediv_eq_zero_of_lt h0 h]; simp [h]
  · have : n / 2 ^ b ≠ 0 := fun e => h (by
      have := Int.lt_ediv_add_one_mul_self n hp
      rw [e] at this; omega)
    simp [h, this]
theorem bits_f (k : Int) (m : Nat) : value_bits.f (m + 1) k = some (bitsR k : Int) := by
  unfold value_bits.f bitsR
  by_cases h1 : k = 1
  · rw [if_pos h1, if_pos h1]; rfl
  by_cases h6 : k = 6
  · rw [if_neg h1, if_neg h1, if_pos h6, if_pos h6]; rfl
  by_cases h7 : k = 7
  · rw [if_neg h1, if_neg h1, if_neg h6, if_neg h6, if_pos h7, if_pos h7]; rfl
  rw [if_neg h1, if_neg h1, if_neg h6, if_neg h6, if_neg h7, if_neg h7]
  by_cases h4 : k = 4
  · rw [if_pos h4, if_pos (.inl h4)]; subst h4; rfl
  by_cases h8 : k = 8
  · rw [if_neg h4, if_pos h8, if_pos (.inr (.inl h8))]; subst h8; rfl
  rw [if_neg h4, if_neg h8]
  by_cases h13 : k = 13
  · rw [if_pos (.inr (.inr h13))]; subst h13; rfl
  rw [if_neg (by omega)]
  have e : (k == 13) = false := by simp [h13]
  rw [e]
  simp only [value_bits.j0]
  by_cases h3 : k = 3
  · rw [if_neg (by simp), if_pos h3, if_pos (.inl h3)]; rfl
  by_cases h14 : k = 14
  · rw [if_neg (by simp), if_neg h3, if_pos h14, if_pos (.inr h14)]; rfl
  rw [if_neg (by simp), if_neg h3, if_neg h14, if_neg (by omega)]; rfl
theorem bitsR_le (k : Int) : bitsR k ≤ 64 := by unfold bitsR; (repeat' split) <;> omega
theorem one_j2 (m : Nat) (k : Int) (neg : Bool) (n : Int) (s : ByteArray) (l : List S25) (_hk : k ≠ 9 ∧ k ≠ 10) :
    value_One.j2 (m + 1) k (k == 14) k neg n s l = some (if k = 14 then true else if k = 5 then bigR s else
    (s.toList == ([] : List UInt8)) && (if k = 3 then !decide (19 < n ∧ n < 32) else if k = 12 then decide ((l.length : Int) % 2 = 0) else
      if k = 13 then decide (l.length = 1) && !(decide (n / 2 = 1) && decide ((rd_T25 l 0).f0 = 9) && bigR (rd_T25 l 0).f3) else true)) := by
  simp only [value_One.j2]
  by_cases h14 : k = 14
  · rw [if_pos (by simp [h14]), if_pos h14]
  rw [if_neg (by simp [h14]), if_neg h14]
  by_cases h5 : k = 5
  · rw [if_pos h5, if_pos h5, big_f]; rfl
  rw [if_neg h5, if_neg h5]
  by_cases h3 : k = 3
  · rw [if_pos h3, if_pos h3]
    by_cases c1 : n > 19
    · rw [if_pos c1]
      by_cases c2 : n < 32
      · rw [if_pos c2]; simp [show 19 < n by omega, c2]
      · rw [if_neg c2]; simp [c2]
    · rw [if_neg c1]; simp [show ¬ 19 < n by omega]
  rw [if_neg h3, if_neg h3]
  by_cases h12 : k = 12
  · rw [if_pos h12, if_pos h12]
    by_cases c1 : (l.length : Int) % 2 = 0
    · rw [if_pos c1]; simp [c1]
    · rw [if_neg c1]; simp [c1]
  rw [if_neg h12, if_neg h12]
  by_cases h13 : k = 13
  · rw [if_pos h13, if_pos h13]
    by_cases c1 : (l.length : Int) = 1
    · have c1' : l.length = 1 := by omega
      rw [if_pos c1]
      by_cases c2 : n / 2 = 1
      · rw [if_pos c2, if_pos (by omega)]
        by_cases c3 : (rd_T25 l 0).f0 = 9
        · rw [if_pos c3, big_f]
          simp only [Option.bind_some]
          by_cases c4 : bigR (rd_T25 l 0).f3 = true
          · rw [if_pos c4]; simp [c1', c2, c3, c4]
          · rw [if_neg c4]; simp [c1', c2, c3, c4]
        · rw [if_neg c3]; simp [c1', c3]
      · rw [if_neg c2]; simp [c1', c2]
    · have c1' : ¬ l.length = 1 := by omega
      rw [if_neg c1]; simp [c1']
  rw [if_neg h13, if_neg h13]; simp
theorem one_j1 (m : Nat) (k : Int) (neg : Bool) (n : Int) (s : ByteArray) (l : List S25) (b : Bool) (hs : s.size ≤ 140737488351232) :
    value_One.j1 (m + 2) (!b) k neg n s l = some (b && (if k = 10 then (Utf.checkF s).2 == 0 else if k = 9 ∨ k = 14 then true else if k = 5 then bigR s else
    (s.toList == ([] : List UInt8)) && (if k = 3 then !decide (19 < n ∧ n < 32) else if k = 12 then decide ((l.length : Int) % 2 = 0) else
      if k = 13 then decide (l.length = 1) && !(decide (n / 2 = 1) && decide ((rd_T25 l 0).f0 = 9) && bigR (rd_T25 l 0).f3) else true))) := by
  rw [show m + 2 = (m + 1) + 1 from rfl]
  simp only [value_One.j1]
  cases b
  · simp
  · rw [if_neg (by simp)]
    by_cases h10 : k = 10
    · rw [if_pos h10, if_pos h10]; unfold utf_Check.f; rw [if_pos hs]; simp
    rw [if_neg h10, if_neg h10]
    by_cases h9 : k = 9
    · rw [if_pos h9, if_pos (.inl h9)]; subst h9; simp [value_One.j2]
    rw [if_neg h9, one_j2 m k neg n s l ⟨h9, h10⟩]
    by_cases h14 : k = 14
    · rw [if_pos h14, if_pos (.inr h14)]; simp
    · rw [if_neg h14, if_neg (show ¬ (k = 9 ∨ k = 14) by omega)]; simp
theorem one_j0 (m : Nat) (k : Int) (neg : Bool) (n : Int) (s : ByteArray) (l : List S25) (hs : s.size ≤ 140737488351232) (hn : 0 ≤ n ∧ n ≤ 18446744073709551615) :
    value_One.j0 (m + 3) false k neg n s l = some (decide (n < 2 ^ bitsR k) && (if k = 10 then (Utf.checkF s).2 == 0 else if k = 9 ∨ k = 14 then true else if k = 5 then bigR s else
    (s.toList == ([] : List UInt8)) && (if k = 3 then !decide (19 < n ∧ n < 32) else if k = 12 then decide ((l.length : Int) % 2 = 0) else
      if k = 13 then decide (l.length = 1) && !(decide (n / 2 = 1) && decide ((rd_T25 l 0).f0 = 9) && bigR (rd_T25 l 0).f3) else true))) := by
  rw [show m + 3 = (m + 2) + 1 from rfl]
  simp only [value_One.j0]
  have hb := bitsR_le k
  rw [if_neg (by simp), show m + 2 = (m + 1) + 1 from rfl, bits_f, Option.bind_some]
  by_cases h : (bitsR k : Int) < 64
  · rw [if_pos h, if_pos (by omega), shr_ne n (bitsR k) hb hn.1]
    exact one_j1 m k neg n s l _ hs
  · rw [if_neg h]
    have e : bitsR k = 64 := by omega
    have e2 : decide (n < 2 ^ bitsR k) = true := by rw [e]; simp; omega
    rw [e2]
    exact one_j1 m k neg n s l true hs
theorem one_f (y : S25) (hw : wfS25 y) : Ev (fun k => value_One.f k y.f0 y.f1 y.f2 y.f3 y.f4) (oneR y) := by
  obtain ⟨k, neg, n, s, l⟩ := y
  simp only [wfS25] at hw
  have hn := wf_u64 hw.2.2.1
  have hs : s.size ≤ 140737488351232 := hw.2.2.2.1
  refine ⟨3, fun q hq => ?_⟩
  obtain ⟨m, rfl⟩ : ∃ m, q = m + 3 := ⟨q - 3, by omega⟩
  have ht : value_One.j0 (m + 3) true k neg n s l = some false := by rw [show m + 3 = (m + 2) + 1 from rfl]; simp [value_One.j0]
  unfold value_One.f oneR
  simp only
  by_cases h0 : k < 0
  · rw [if_pos h0, ht]; simp [show ¬ 0 ≤ k by omega]
  by_cases h1 : k > 14
  · rw [if_neg h0, if_pos h1, ht]; simp [show ¬ k ≤ 14 by omega]
  rw [if_neg h0, if_neg h1]
  have e : decide (0 ≤ k ∧ k ≤ 14) = true := decide_eq_true ⟨by omega, by omega⟩
  rw [e, Bool.true_and]
  by_cases h2 : neg = true
  · rw [if_pos h2]
    by_cases h4 : k = 4
    · rw [if_pos h4, one_j0 m k neg n s l hs hn]; simp [h4]
    · rw [if_neg h4]
      by_cases h5 : k = 5
      · rw [show (k != 5) = false by simp [h5], one_j0 m k neg n s l hs hn]; simp [h5]
      · rw [show (k != 5) = true by simp [h5], ht]; simp [h2, h4, h5]
  · rw [if_neg h2, one_j0 m k neg n s l hs hn]; simp [h2]
/-- Is all of a value right. -/
def okR (y : S25) : Bool := oneR y && !(leafR y.f0 && decide (0 < y.f4.length))
/-- May a tree be. -/
def checkR (x : S25) : Int := if 64 < depR x then 2 else if 65536 < cnt x then 2 else if (subs x).all okR then 0 else 9
theorem chk_f : ∀ l : List S25, (∀ y ∈ l, wfS25 y) → Ev (fun k => Each.chk T25 (fun y => value_One.f k y.f0 y.f1 y.f2 y.f3 y.f4) (fun y => value_Leaf.f y.f0 y.f1 y.f2 y.f3 y.f4) l) (if l.all okR then 0 else 9)
  | [], _ => Ev.const rfl
  | y :: l, h => by
    refine Ev.congr (fun k => by simp only [Each.chk]; rfl) (Ev.bind (one_f y (h y (by simp))) ?_)
    simp only [List.all_cons]
    by_cases h1 : oneR y = true
    · refine Ev.pos h1 (Ev.pre (leaf_f ..) ?_)
      by_cases h2 : leafR y.f0 = true
      · refine Ev.pos h2 ?_
        by_cases h3 : 0 < y.f4.length
        · refine Ev.pos h3 (Ev.const ?_)
          simp [okR, h2, h3]
        · refine Ev.neg h3 (Ev.res (chk_f l (fun z hz => h z (by simp [hz]))) ?_)
          simp [okR, h1, h3]
      · refine Ev.neg h2 (Ev.res (chk_f l (fun z hz => h z (by simp [hz]))) ?_)
        simp [okR, h1, h2]
    · refine Ev.neg h1 (Ev.const ?_)
      simp [okR, h1]
mutual
theorem wf_subs : ∀ x : S25, wfS25 x → ∀ y ∈ subs x, wfS25 y
  | ⟨a, b, c, d, l⟩, h, y, hy => by
    simp only [subs, List.mem_cons] at hy
    rcases hy with rfl | hy
    · exact h
    · exact wf_subsL l (wf_kids h).2 y hy
theorem wf_subsL : ∀ l : List S25, (∀ x ∈ l, wfS25 x) → ∀ y ∈ subsL l, wfS25 y
  | [], _, y, hy => by simp [subsL] at hy
  | x :: l, h, y, hy => by
    simp only [subsL, List.mem_append] at hy
    rcases hy with hy | hy
    · exact wf_subs x (h x (by simp)) y hy
    · exact wf_subsL l (fun z hz => h z (by simp [hz])) y hy
end
theorem count_f (x : S25) (hs : szS25 x ≤ 4194304) : value_Count.f x.f0 x.f1 x.f2 x.f3 x.f4 = some (cnt x : Int) := by
  obtain ⟨a, b, c, d, l⟩ := x
  have h1 := dep_sz ⟨a, b, c, d, l⟩
  have h2 := cnt_sz ⟨a, b, c, d, l⟩
  unfold value_Count.f
  dsimp only
  rw [if_pos (by omega), nodes_len, wrap_id (by omega) (by omega)]
theorem check_f (x : S25) (hw : wfS25 x) (hs : szS25 x ≤ 4194304) : Ev (fun k => value_Check.f k x.f0 x.f1 x.f2 x.f3 x.f4) (checkR x) := by
  obtain ⟨a, b, c, d, l⟩ := x
  have h1 := dep_sz ⟨a, b, c, d, l⟩
  have h2 := cnt_sz ⟨a, b, c, d, l⟩
  dsimp only
  refine Ev.congr (fun k => by unfold value_Check.f; rfl) (Ev.bind (depth_f _ ⟨a, b, c, d, l⟩ (Nat.lt_succ_self _) (by omega) hw) ?_)
  refine Ev.pos (by omega) ?_
  unfold checkR
  by_cases c1 : 64 < depR ⟨a, b, c, d, l⟩
  · exact Ev.pos c1 (Ev.const (by rw [if_pos c1]))
  rw [if_neg c1]
  refine Ev.neg c1 ?_
  rw [nodes_len, wrap_id (by omega) (by omega), nodes_subs _ _ _ (Nat.lt_succ_self _)]
  by_cases c2 : 65536 < cnt ⟨a, b, c, d, l⟩
  · exact Ev.pos (by omega) (Ev.const (by rw [if_pos c2]))
  rw [if_neg c2]
  exact Ev.neg (by omega) (chk_f _ (wf_subs _ hw))

theorem need_f (k : Nat) (c : Int) (h0 : 0 ≤ c) (h1 : c ≤ 255) : glossatorref02_need.f (k + 2) c = some (Utf.rowF c).2.2.1 := by
  have e : glossatorref02_need.f (k + 2) c = glossatorref02_need.f 2 c := by
    simp only [glossatorref02_need.f, glossatorref02_need.j0, glossatorref02_need.j1]
  rw [e]
  obtain ⟨n, rfl⟩ := Int.eq_ofNat_of_zero_le h0
  have hd : ∀ n : Fin 256, glossatorref02_need.f 2 ((n.val : Nat) : Int) = some (Utf.rowF ((n.val : Nat) : Int)).2.2.1 := by decide +kernel
  exact hd ⟨n, by omega⟩
theorem row_lohi (c : Int) (h0 : 0 ≤ c) (h1 : c ≤ 255) (h2 : 2 ≤ (Utf.rowF c).2.2.1) : (Utf.rowF c).2.2.2 = (if c = 224 then (160, 191) else if c = 237 then (128, 159) else if c = 240 then (144, 191) else if c = 244 then (128, 143) else (128, 191)) := by
  obtain ⟨n, rfl⟩ := Int.eq_ofNat_of_zero_le h0
  have hd : ∀ n : Fin 256, 2 ≤ (Utf.rowF ((n.val : Nat) : Int)).2.2.1 → (Utf.rowF ((n.val : Nat) : Int)).2.2.2 = (if ((n.val : Nat) : Int) = 224 then (160, 191) else if ((n.val : Nat) : Int) = 237 then (128, 159) else if ((n.val : Nat) : Int) = 240 then (144, 191) else if ((n.val : Nat) : Int) = 244 then (128, 143) else (128, 191)) := by decide +kernel
  exact hd ⟨n, by omega⟩ h2
theorem may_1 (c x : Int) (h0 : 0 ≤ c) (h1 : c ≤ 255) (h2 : 2 ≤ (Utf.rowF c).2.2.1) : glossatorref02_may.f c 1 x = some (!decide (x < (Utf.rowF c).2.2.2.1 ∨ (Utf.rowF c).2.2.2.2 < x)) := by
  have e := row_lohi c h0 h1 h2
  rw [show (Utf.rowF c).2.2.2.1 = ((Utf.rowF c).2.2.2).1 from rfl, show (Utf.rowF c).2.2.2.2 = ((Utf.rowF c).2.2.2).2 from rfl, e]
  unfold glossatorref02_may.f
  rw [if_pos rfl]
  have g : ∀ lo hi : Int, (if x ≥ lo then some (decide (x ≤ hi)) else some false) = some (!decide (x < lo ∨ hi < x)) := fun lo hi => by
    by_cases c1 : x ≥ lo
    · rw [if_pos c1]; congr 1
      by_cases c2 : x ≤ hi
      · rw [decide_eq_true c2, decide_eq_false (by omega)]; rfl
      · rw [decide_eq_false c2, decide_eq_true (by omega)]; rfl
    · rw [if_neg c1, decide_eq_true (by omega)]; rfl
  by_cases c1 : c = 224
  · rw [if_pos c1, if_pos c1]; exact g _ _
  by_cases c2 : c = 237
  · rw [if_neg c1, if_neg c1, if_pos c2, if_pos c2]; exact g _ _
  by_cases c3 : c = 240
  · rw [if_neg c1, if_neg c1, if_neg c2, if_neg c2, if_pos c3, if_pos c3]; exact g _ _
  by_cases c4 : c = 244
  · rw [if_neg c1, if_neg c1, if_neg c2, if_neg c2, if_neg c3, if_neg c3, if_pos c4, if_pos c4]; exact g _ _
  · rw [if_neg c1, if_neg c1, if_neg c2, if_neg c2, if_neg c3, if_neg c3, if_neg c4, if_neg c4]; exact g _ _
theorem may_n (c j x : Int) (hj : j ≠ 1) : glossatorref02_may.f c j x = some (!decide (x < 128 ∨ 191 < x)) := by
  unfold glossatorref02_may.f
  rw [if_neg hj]
  by_cases c1 : x ≥ 128
  · rw [if_pos c1]; congr 1
    by_cases c2 : x ≤ 191
    · rw [decide_eq_true c2, decide_eq_false (by omega)]; rfl
    · rw [decide_eq_false c2, decide_eq_true (by omega)]; rfl
  · rw [if_neg c1, decide_eq_true (by omega)]; rfl
/-- What the next byte of a text may be: the m-th of those begun by byte c. -/
def stR (c : Int) (m : Nat) : Int × Int × Int := if m = 1 then ((Utf.rowF c).2.2.1 - 1, (Utf.rowF c).2.2.2.1, (Utf.rowF c).2.2.2.2) else ((Utf.rowF c).2.2.1 - (m : Int), 128, 191)
theorem stR_1 (c : Int) (m : Nat) : (stR c m).1 = (Utf.rowF c).2.2.1 - (m : Int) := by
  unfold stR; split
  · next h => subst h; rfl
  · rfl
theorem stR_may (c : Int) (m : Nat) (x : Int) (h0 : 0 ≤ c) (h1 : c ≤ 255) (hm : 1 ≤ m) (h2 : (m : Int) < (Utf.rowF c).2.2.1) : glossatorref02_may.f c (m : Int) x = some (!decide (x < (stR c m).2.1 ∨ (stR c m).2.2 < x)) := by
  unfold stR
  by_cases h : m = 1
  · subst h; rw [if_pos rfl]; exact may_1 c x h0 h1 (by omega)
  · rw [if_neg h]; exact may_n c _ x (by omega)
theorem stepF_z (s : Int × Int × Int) (c : Int) (hs : s.1 = 0) (hz : (Utf.rowF c).2.2.1 = 0) : Utf.stepF s c (-1) = (false, s) := by
  unfold Utf.stepF
  rw [if_neg (by omega), if_pos (Or.inl hz)]
theorem stepF_n (s : Int × Int × Int) (c : Int) (hs : s.1 = 0) (hz : ¬ (Utf.rowF c).2.2.1 = 0) : Utf.stepF s c (-1) = (true, (Utf.rowF c).2.2.1 - 1, (Utf.rowF c).2.2.2.1, (Utf.rowF c).2.2.2.2) := by
  unfold Utf.stepF
  rw [if_neg (by omega), if_neg (show ¬ ((Utf.rowF c).2.2.1 = 0 ∨ (0 : Int) ≤ -1 ∧ (-1 : Int) < (Utf.rowF c).2.2.1 - 1) by omega)]
theorem stepF_bad (s : Int × Int × Int) (c : Int) (hs : 0 < s.1) (hz : c < s.2.1 ∨ s.2.2 < c) : Utf.stepF s c (-1) = (false, s) := by
  unfold Utf.stepF
  rw [if_pos hs, if_pos hz]
theorem stepF_ok (s : Int × Int × Int) (c : Int) (hs : 0 < s.1) (hz : ¬ (c < s.2.1 ∨ s.2.2 < c)) : Utf.stepF s c (-1) = (true, s.1 - 1, 128, 191) := by
  unfold Utf.stepF
  rw [if_pos hs, if_neg hz]
theorem within_f (a : ByteArray) (ha : a.size ≤ 140737488351232) : ∀ d : Nat,
    (∀ (j : Nat) (s : Int × Int × Int), j + d = a.size → s.1 = 0 → Ev (fun k => glossatorref02_within.l0 k a (-1) (j : Int)) (Utf.scanF a d j s)) ∧
    (∀ (i m : Nat), i + m + d = a.size → 1 ≤ m → (m : Int) ≤ (Utf.rowF (bt a (i : Int))).2.2.1 → Ev (fun k => glossatorref02_within.l1 k a (-1) (i : Int) (Utf.rowF (bt a (i : Int))).2.2.1 (m : Int)) (Utf.scanF a d (i + m) (stR (bt a (i : Int)) m))) := by
  intro d
  have hP0 : ∀ (j : Nat) (s : Int × Int × Int), j = a.size → s.1 = 0 → Ev (fun k => glossatorref02_within.l0 k a (-1) (j : Int)) (Utf.scanF a 0 j s) := fun j s hj hs => by
    refine Ev.step (fun k => by simp only [glossatorref02_within.l0]; rfl) (Ev.neg (by omega) (Ev.neg (by omega) (Ev.const ?_)))
    simp only [Utf.scanF]
    rw [if_neg (by omega), hj]
  have hend : ∀ (i m d : Nat), i + m + d = a.size → (m : Int) = (Utf.rowF (bt a (i : Int))).2.2.1 → (∀ s : Int × Int × Int, s.1 = 0 → Ev (fun k => glossatorref02_within.l0 k a (-1) ((i + m : Nat) : Int)) (Utf.scanF a d (i + m) s)) → Ev (fun k => glossatorref02_within.l1 k a (-1) (i : Int) (Utf.rowF (bt a (i : Int))).2.2.1 (m : Int)) (Utf.scanF a d (i + m) (stR (bt a (i : Int)) m)) := fun i m d h0 h1 h2 => by
    refine Ev.step (fun k => by simp only [glossatorref02_within.l1]; rfl) (Ev.neg (by omega) ?_)
    rw [← h1, wrap_id (by omega) (by omega)]
    exact h2 _ (by rw [stR_1]; omega)
  induction d with
  | zero =>
    refine ⟨fun j s hj hs => hP0 j s (by omega) hs, fun i m him hm1 hm2 => ?_⟩
    by_cases hlt : (m : Int) < (Utf.rowF (bt a (i : Int))).2.2.1
    · refine Ev.step (fun k => by simp only [glossatorref02_within.l1]; rfl) (Ev.pos hlt ?_)
      rw [wrap_id (by omega) (by omega)]
      refine Ev.pos (by omega) (Ev.const ?_)
      simp only [Utf.scanF]
      rw [if_pos (by rw [stR_1]; omega)]
    · exact hend i m 0 (by omega) (by omega) (fun s hs => hP0 _ s (by omega) hs)
  | succ d ih =>
    obtain ⟨ihP, ihQ⟩ := ih
    have hP : ∀ (j : Nat) (s : Int × Int × Int), j + (d + 1) = a.size → s.1 = 0 → Ev (fun k => glossatorref02_within.l0 k a (-1) (j : Int)) (Utf.scanF a (d + 1) j s) := fun j s hj hs => by
      have hb := bt_range a (j : Int)
      have hn := Utf.rowF_n (bt a (j : Int))
      refine Ev.step (fun k => by simp only [glossatorref02_within.l0]; rfl) (Ev.pos (by omega) (Ev.pos (by omega) ?_))
      refine Ev.bind ⟨2, fun k hk => by obtain ⟨m, rfl⟩ : ∃ m, k = m + 2 := ⟨k - 2, by omega⟩; exact need_f m _ hb.1 hb.2⟩ ?_
      simp only [Utf.scanF]
      by_cases hz : (Utf.rowF (bt a (j : Int))).2.2.1 = 0
      · rw [stepF_z s _ hs hz]
        refine Ev.pos hz (Ev.step (fun k => by simp only [glossatorref02_within.j1]; rfl) (Ev.pos (by first | trivial | rfl) (Ev.const ?_)))
        rw [if_neg (by simp)]
      · rw [stepF_n s _ hs hz]
        refine Ev.neg hz (Ev.neg (by omega) (Ev.step (fun k => by simp only [glossatorref02_within.j1]; rfl) (Ev.neg (by simp) ?_)))
        rw [if_pos rfl]
        exact ihQ j 1 (by omega) (by omega) (by omega)
    refine ⟨hP, fun i m him hm1 hm2 => ?_⟩
    by_cases hlt : (m : Int) < (Utf.rowF (bt a (i : Int))).2.2.1
    · have hb := bt_range a (i : Int)
      refine Ev.step (fun k => by simp only [glossatorref02_within.l1]; rfl) (Ev.pos hlt ?_)
      rw [wrap_id (x := (i : Int) + (m : Int)) (by omega) (by omega), wrap_id (x := (m : Int) + 1) (by omega) (by omega), show (i : Int) + (m : Int) = ((i + m : Nat) : Int) by omega]
      refine Ev.neg (by omega) (Ev.pos (by omega) (Ev.pos (by omega) (Ev.pos (by omega) (Ev.pos (by omega) (Ev.pre (stR_may _ m _ hb.1 hb.2 hm1 hlt) ?_)))))
      simp only [Utf.scanF]
      have hpos : 0 < (stR (bt a (i : Int)) m).1 := by rw [stR_1]; omega
      by_cases hc : bt a ((i + m : Nat) : Int) < (stR (bt a (i : Int)) m).2.1 ∨ (stR (bt a (i : Int)) m).2.2 < bt a ((i + m : Nat) : Int)
      · rw [stepF_bad _ _ hpos hc, decide_eq_true hc]
        exact Ev.neg (by simp) (Ev.const (by rw [if_neg (by simp)]))
      · rw [stepF_ok _ _ hpos hc, decide_eq_false hc]
        refine Ev.pos (by first | trivial | rfl) ?_
        rw [if_pos rfl]
        have := ihQ i (m + 1) (by omega) (by omega) (by omega)
        rw [show ((m + 1 : Nat) : Int) = (m : Int) + 1 by omega] at this
        refine Ev.res this ?_
        rw [show i + (m + 1) = i + m + 1 by omega]
        congr 1
        rw [stR_1]
        unfold stR
        rw [if_neg (by omega), show (Utf.rowF (bt a (i : Int))).2.2.1 - ((m + 1 : Nat) : Int) = (Utf.rowF (bt a (i : Int))).2.2.1 - (m : Int) - 1 by omega]
    · exact hend i m (d + 1) (by omega) (by omega) (fun s hs => hP (i + m) s (by omega) hs)
theorem ucheck_f (a : ByteArray) (ha : a.size ≤ 140737488351232) : Ev (fun k => glossatorref02_Check.f k a) (Utf.checkF a) := by
  refine Ev.congr (fun k => by unfold glossatorref02_Check.f glossatorref02_within.f; rfl) (Ev.bind ((within_f a ha a.size).1 0 (0, 0, 0) (by omega) rfl) (Ev.const rfl))

theorem rbig_f (s : ByteArray) : glossatorref08_Big.f s = some (bigR s) := by
  unfold glossatorref08_Big.f bigR
  by_cases h1 : (s.size : Int) > 8
  · rw [if_pos h1]
    by_cases h2 : (s.size : Int) ≤ 512
    · rw [if_pos h2, if_pos (by omega)]; simp [show 8 < (s.size : Int) by omega, h2]
    · rw [if_neg h2]; simp [h2]
  · rw [if_neg h1]; simp [show ¬ 8 < (s.size : Int) by omega]
theorem rleaf_f (a0 : Int) (a1 : Bool) (a2 : Int) (a3 : ByteArray) (a4 : List S25) : glossatorref08_Leaf.f a0 a1 a2 a3 a4 = some (leafR a0) := by
  unfold glossatorref08_Leaf.f leafR
  by_cases h1 : a0 = 11
  · rw [if_pos h1]; simp [h1]
  · by_cases h2 : a0 = 12
    · rw [if_neg h1, if_pos h2]; simp [h2]
    · rw [if_neg h1, if_neg h2]; by_cases h3 : a0 = 13 <;> simp [h1, h2, h3]
theorem rone_j (k : Int) (neg : Bool) (n : Int) (s : ByteArray) (l : List S25) (hn : 0 ≤ n ∧ n ≤ 18446744073709551615) (h10 : k ≠ 10) (m : Nat) :
    glossatorref08_One.f (m + 1) k neg n s l = some (oneR ⟨k, neg, n, s, l⟩) := by
  have hk : k < 0 ∨ k = 0 ∨ k = 1 ∨ k = 2 ∨ k = 3 ∨ k = 4 ∨ k = 5 ∨ k = 6 ∨ k = 7 ∨ k = 8 ∨ k = 9 ∨ k = 11 ∨ k = 12 ∨ k = 13 ∨ k = 14 ∨ 14 < k := by omega
  obtain ⟨e, he⟩ : ∃ e, (s.toList == ([] : List UInt8)) = e := ⟨_, rfl⟩
  obtain ⟨L, hL⟩ : ∃ L : Nat, l.length = L := ⟨_, rfl⟩
  rcases hk with h | rfl | rfl | rfl | rfl | rfl | rfl | rfl | rfl | rfl | rfl | rfl | rfl | rfl | rfl | h
  · simp only [glossatorref08_One.f, glossatorref08_One.j0, oneR]
    rw [if_neg (by omega), if_neg (by simp; omega), if_neg (by omega), if_neg (by omega), if_neg (by omega), if_neg (by omega), if_neg (by omega), if_neg (by omega), if_neg (by omega), if_neg (by omega), if_neg (by omega), if_neg (by omega), if_neg (by omega), if_neg (by omega), if_neg (by omega)]
    simp [show ¬ 0 ≤ k by omega]
  all_goals try (simp only [glossatorref08_One.f, glossatorref08_One.j0, oneR, bitsR, he, hL]; cases e <;> cases neg <;> simp <;> omega)
  all_goals try (simp only [glossatorref08_One.f, glossatorref08_One.j0, oneR, bitsR, he, hL, rbig_f]; have h1 : (n < 1) = (n = 0) := (by simp only [eq_iff_iff]; omega); by_cases h0 : n = 0 <;> cases e <;> cases neg <;> simp [*] <;> done)
  · simp only [glossatorref08_One.f, glossatorref08_One.j0, oneR, bitsR, he, hL]
    have g3 : (n < 256) = (n ≤ 255) := by simp only [eq_iff_iff]; omega
    by_cases c1 : n ≤ 19
    · have h1 : ¬ 19 < n := by omega
      have h2 : n ≤ 255 := by omega
      cases e <;> cases neg <;> simp [c1, h1, h2, g3]
    · have h1 : 19 < n := by omega
      by_cases c2 : 32 ≤ n
      · have h2 : ¬ n < 32 := by omega
        cases e <;> cases neg <;> simp [c1, h1, h2, c2, g3]
      · have h2 : n < 32 := by omega
        cases e <;> cases neg <;> simp [c1, h1, h2, c2]
  · simp only [glossatorref08_One.f, glossatorref08_One.j0, oneR, bitsR, he, hL]
    have h1 : (n < 1) = (n = 0) := by simp only [eq_iff_iff]; omega
    obtain ⟨q, hq⟩ : ∃ q : Int, (L : Int) % 2 = q := ⟨_, rfl⟩
    by_cases h0 : n = 0 <;> by_cases h2 : q = 0 <;> cases e <;> cases neg <;> simp [h0, h1, hq, h2]
  · simp only [glossatorref08_One.f, glossatorref08_One.j0, oneR, bitsR, he, hL, rbig_f]
    have g : decide (n < 2 ^ 64) = true := by simp; omega
    by_cases hL1 : L = 1
    · have hL1' : (L : Int) = 1 := by omega
      have hL0 : 0 < (L : Int) := by omega
      by_cases h2 : n = 2
      · subst h2; cases e <;> cases neg <;> by_cases h9 : (rd_T25 l 0).f0 = 9 <;> simp [*]
      · by_cases h3 : n = 3
        · subst h3; cases e <;> cases neg <;> by_cases h9 : (rd_T25 l 0).f0 = 9 <;> simp [*]
        · have h4 : ¬ n / 2 = 1 := by omega
          cases e <;> cases neg <;> simp [*] <;> omega
    · have hL1' : ¬ (L : Int) = 1 := by omega
      cases e <;> cases neg <;> simp [*]
  · simp only [glossatorref08_One.f, glossatorref08_One.j0, oneR]
    rw [if_neg (by omega), if_neg (by simp; omega), if_neg (by omega), if_neg (by omega), if_neg (by omega), if_neg (by omega), if_neg (by omega), if_neg (by omega), if_neg (by omega), if_neg (by omega), if_neg (by omega), if_neg (by omega), if_neg (by omega), if_neg (by omega), if_neg (by omega)]
    simp [show ¬ k ≤ 14 by omega]
theorem rone_f (y : S25) (hw : wfS25 y) : Ev (fun k => glossatorref08_One.f k y.f0 y.f1 y.f2 y.f3 y.f4) (oneR y) := by
  obtain ⟨k, neg, n, s, l⟩ := y
  simp only [wfS25] at hw
  have hn := wf_u64 hw.2.2.1
  have hs : s.size ≤ 140737488351232 := hw.2.2.2.1
  dsimp only
  by_cases h10 : k = 10
  · subst h10
    refine Ev.congr (fun q => by unfold glossatorref08_One.f; rfl) (Ev.neg (by decide) (Ev.step (fun q => by simp only [glossatorref08_One.j0]; rfl) ?_))
    refine Ev.neg (by decide) (Ev.neg (by decide) (Ev.neg (by decide) (Ev.neg (by decide) (Ev.neg (by decide) (Ev.neg (by decide) (Ev.neg (by decide) (Ev.neg (by decide) (Ev.neg (by decide) (Ev.pos (by decide) (Ev.bind (ucheck_f s hs) ?_)))))))))) 
    refine Ev.const ?_
    simp only [oneR, bitsR]
    cases neg <;> simp <;> by_cases h0 : n = 0 <;> simp [h0] <;> omega
  · exact ⟨1, fun q hq => by obtain ⟨m, rfl⟩ : ∃ m, q = m + 1 := ⟨q - 1, by omega⟩; exact rone_j k neg n s l hn h10 m⟩

theorem rdepth_l0 (v0 : Int) (v1 : Bool) (v2 : Int) (v3 : ByteArray) (l : List S25) (hl : l.length * 64 ≤ 140737488351232) (hd : depL25 l ≤ 9000000000000000000) (hf : ∀ x ∈ l, Ev (fun k => glossatorref08_Depth.f k x.f0 x.f1 x.f2 x.f3 x.f4) (depR x)) :
    ∀ (d j : Nat) (a : Int), j + d = l.length → 0 ≤ a → a ≤ 9000000000000000000 → Ev (fun k => glossatorref08_Depth.l0 k a (j : Int) v0 v1 v2 v3 l) (max a (depRL (l.drop j)) + 1) := by
  intro d
  induction d with
  | zero =>
    intro j a hj h0 h1
    refine Ev.step (fun k => by simp only [glossatorref08_Depth.l0]; rfl) (Ev.neg (by omega) (Ev.const ?_))
    rw [List.drop_of_length_le (by omega), wrap_id (by omega) (by omega)]
    simp only [depRL]
    rw [show max a 0 = a by omega]
  | succ d ih =>
    intro j a hj h0 h1
    have hlt : j < l.length := by omega
    have hb := depR_pos l[j]
    have hm := dep25_mem l l[j] (List.getElem_mem hlt)
    refine Ev.step (fun k => by simp only [glossatorref08_Depth.l0]; rfl) (Ev.pos (by omega) (Ev.pos (by omega) ?_))
    rw [rdT_get l j hlt, wrap_id (by omega) (by omega)]
    refine Ev.bind (hf _ (List.getElem_mem hlt)) ?_
    rw [mx_max]
    refine Ev.res (ih (j + 1) _ (by omega) (by omega) (by omega)) ?_
    rw [List.drop_eq_getElem_cons hlt]
    simp only [depRL]
    omega
theorem rdepth_f : ∀ (m : Nat) (x : S25), dep25 x < m → m ≤ 9000000000000000000 → wfS25 x → Ev (fun k => glossatorref08_Depth.f k x.f0 x.f1 x.f2 x.f3 x.f4) (depR x) := by
  intro m
  induction m with
  | zero => intro x h; omega
  | succ m ih =>
    rintro ⟨a0, a1, a2, a3, a4⟩ hd hm hw
    obtain ⟨hl, hk⟩ := wf_kids hw
    refine Ev.step (fun k => by simp only [glossatorref08_Depth.f]; rfl) ?_
    simp only [depR]
    by_cases h5 : a0 = 5
    · refine Ev.pos h5 (Ev.const ?_)
      subst h5; rfl
    refine Ev.neg h5 (Ev.pre (rleaf_f a0 a1 a2 a3 a4) ?_)
    by_cases h : leafR a0 = true
    · rw [if_pos h, if_neg h5]
      exact Ev.pos h (Ev.const rfl)
    · rw [if_neg h]
      have hdl : depL25 a4 < m := by simp only [dep25] at hd; omega
      refine Ev.neg h (Ev.res (rdepth_l0 a0 a1 a2 a3 a4 hl (by omega) (fun x hx => ih x (by have := dep25_mem a4 x hx; omega) (by omega) (hk x hx)) a4.length 0 0 (by omega) (by omega) (by omega)) ?_)
      have := depRL_pos a4
      rw [List.drop_zero]; omega
theorem cntL_mem : ∀ (l : List S25) (y : S25), y ∈ l → cnt y ≤ cntL l
  | [], _, h => by simp at h
  | x :: l, y, h => by
    simp only [cntL]
    rcases List.mem_cons.1 h with rfl | h
    · omega
    · have := cntL_mem l y h; omega
theorem len_cntL : ∀ l : List S25, l.length ≤ cntL l
  | [] => Nat.le_refl _
  | x :: l => by have := len_cntL l; have := cnt_pos x; simp only [cntL, List.length_cons]; omega
theorem rcount_l0 (v0 : Int) (v1 : Bool) (v2 : Int) (v3 : ByteArray) (l : List S25) (hc : cntL l ≤ 9000000000000000) (hf : ∀ x ∈ l, Ev (fun k => glossatorref08_Count.f k x.f0 x.f1 x.f2 x.f3 x.f4) (cnt x : Int)) :
    ∀ (d j : Nat) (a : Nat), j + d = l.length → a ≤ 9000000000000000 → a + cntL (l.drop j) ≤ 9000000000000001 → Ev (fun k => glossatorref08_Count.l0 k (a : Int) (j : Int) v0 v1 v2 v3 l) ((a + cntL (l.drop j) : Nat) : Int) := by
  have hll := len_cntL l
  intro d
  induction d with
  | zero =>
    intro j a hj h1 h2
    refine Ev.step (fun k => by simp only [glossatorref08_Count.l0]; rfl) (Ev.neg (by omega) (Ev.const ?_))
    rw [List.drop_of_length_le (by omega)]; rfl
  | succ d ih =>
    intro j a hj h1 h2
    have hlt : j < l.length := by omega
    rw [List.drop_eq_getElem_cons hlt] at h2 ⊢
    simp only [cntL] at h2 ⊢
    refine Ev.step (fun k => by simp only [glossatorref08_Count.l0]; rfl) (Ev.pos (by omega) (Ev.pos (by omega) ?_))
    rw [rdT_get l j hlt, wrap_id (x := (j : Int) + 1) (by omega) (by omega)]
    refine Ev.bind (hf _ (List.getElem_mem hlt)) ?_
    rw [wrap_id (by omega) (by omega), show (a : Int) + (cnt l[j] : Int) = ((a + cnt l[j] : Nat) : Int) by omega]
    by_cases hd0 : d = 0
    · subst hd0
      refine Ev.step (fun k => by simp only [glossatorref08_Count.l0]; rfl) (Ev.neg (by omega) (Ev.const ?_))
      rw [List.drop_of_length_le (by omega)]; rfl
    · have hrest : 1 ≤ cntL (l.drop (j + 1)) := by have := len_cntL (l.drop (j + 1)); rw [List.length_drop] at this; omega
      refine Ev.res (ih (j + 1) (a + cnt l[j]) (by omega) (by omega) (by omega)) ?_
      rw [Nat.add_assoc]
theorem rcount_f : ∀ (m : Nat) (x : S25), dep25 x < m → cnt x ≤ 9000000000000000 → Ev (fun k => glossatorref08_Count.f k x.f0 x.f1 x.f2 x.f3 x.f4) (cnt x : Int) := by
  intro m
  induction m with
  | zero => intro x h; omega
  | succ m ih =>
    rintro ⟨a0, a1, a2, a3, a4⟩ hd hc
    simp only [cnt] at hc ⊢
    have hdl : depL25 a4 < m := by simp only [dep25] at hd; omega
    refine Ev.step (fun k => by simp only [glossatorref08_Count.f]; rfl) (Ev.res (rcount_l0 a0 a1 a2 a3 a4 (by omega) (fun x hx => ih x (by have := dep25_mem a4 x hx; omega) (by have := cntL_mem a4 x hx; omega)) a4.length 0 1 (by omega) (by omega) (by rw [List.drop_zero]; omega)) ?_)
    rw [List.drop_zero, Nat.add_comm]
theorem rright_l0 (v0 : Int) (v1 : Bool) (v2 : Int) (v3 : ByteArray) (l : List S25) (hl : l.length * 64 ≤ 140737488351232) (hf : ∀ x ∈ l, Ev (fun k => glossatorref08_right.f k x.f0 x.f1 x.f2 x.f3 x.f4) ((subs x).all okR)) :
    ∀ (d j : Nat), j + d = l.length → Ev (fun k => glossatorref08_right.l0 k (j : Int) v0 v1 v2 v3 l) ((subsL (l.drop j)).all okR) := by
  intro d
  induction d with
  | zero =>
    intro j hj
    refine Ev.step (fun k => by simp only [glossatorref08_right.l0]; rfl) (Ev.neg (by omega) (Ev.const ?_))
    rw [List.drop_of_length_le (by omega)]; rfl
  | succ d ih =>
    intro j hj
    have hlt : j < l.length := by omega
    rw [List.drop_eq_getElem_cons hlt]
    simp only [subsL, List.all_append]
    refine Ev.step (fun k => by simp only [glossatorref08_right.l0]; rfl) (Ev.pos (by omega) (Ev.pos (by omega) ?_))
    rw [rdT_get l j hlt, wrap_id (x := (j : Int) + 1) (by omega) (by omega)]
    refine Ev.bind (hf _ (List.getElem_mem hlt)) ?_
    by_cases h : (subs l[j]).all okR = true
    · refine Ev.pos h (Ev.res (ih (j + 1) (by omega)) ?_)
      rw [h, Bool.true_and]
    · refine Ev.neg h (Ev.const ?_)
      rw [Bool.eq_false_iff.2 h, Bool.false_and]
theorem rright_f : ∀ (m : Nat) (x : S25), dep25 x < m → wfS25 x → Ev (fun k => glossatorref08_right.f k x.f0 x.f1 x.f2 x.f3 x.f4) ((subs x).all okR) := by
  intro m
  induction m with
  | zero => intro x h; omega
  | succ m ih =>
    rintro ⟨a0, a1, a2, a3, a4⟩ hd hw
    obtain ⟨hl, hk⟩ := wf_kids hw
    have hdl : depL25 a4 < m := by simp only [dep25] at hd; omega
    have hone := rone_f ⟨a0, a1, a2, a3, a4⟩ hw
    dsimp only at hone
    have hkids := rright_l0 a0 a1 a2 a3 a4 hl (fun x hx => ih x (by have := dep25_mem a4 x hx; omega) (hk x hx)) a4.length 0 (by omega)
    rw [List.drop_zero] at hkids
    simp only [subs, List.all_cons]
    refine Ev.step (fun k => by simp only [glossatorref08_right.f]; rfl) (Ev.bind hone ?_)
    by_cases h1 : oneR ⟨a0, a1, a2, a3, a4⟩ = true
    · refine Ev.pos h1 (Ev.pre (rleaf_f a0 a1 a2 a3 a4) ?_)
      by_cases h2 : leafR a0 = true
      · refine Ev.pos h2 (Ev.step (fun k => by simp only [glossatorref08_right.j0]; rfl) ?_)
        by_cases h3 : a4.length = 0
        · refine Ev.neg (by simp [h3]) (Ev.res hkids ?_)
          simp [okR, h1, h3]
        · refine Ev.pos (by simp only [bne_iff_ne, ne_eq]; omega) (Ev.const ?_)
          simp [okR, h2, show 0 < a4.length by omega]
      · refine Ev.neg h2 (Ev.step (fun k => by simp only [glossatorref08_right.j0]; rfl) (Ev.neg (by simp) (Ev.res hkids ?_)))
        simp [okR, h1, h2]
    · refine Ev.neg h1 (Ev.step (fun k => by simp only [glossatorref08_right.j0]; rfl) (Ev.pos (by first | trivial | rfl) (Ev.const ?_)))
      simp [okR, h1]
theorem rcheck_f (x : S25) (hw : wfS25 x) (hs : szS25 x ≤ 4194304) : Ev (fun k => glossatorref08_Check.f k x.f0 x.f1 x.f2 x.f3 x.f4) (checkR x) := by
  have h1 := dep_sz x
  have h2 := cnt_sz x
  refine Ev.congr (fun k => by unfold glossatorref08_Check.f; rfl) (Ev.bind (rdepth_f _ x (Nat.lt_succ_self _) (by omega) hw) ?_)
  unfold checkR
  by_cases c1 : 64 < depR x
  · refine Ev.pos c1 (Ev.step (fun k => by simp only [glossatorref08_Check.j0]; rfl) (Ev.pos (by first | trivial | rfl) (Ev.const (by rw [if_pos c1]))))
  rw [if_neg c1]
  refine Ev.neg c1 (Ev.bind (rcount_f _ x (Nat.lt_succ_self _) (by omega)) (Ev.step (fun k => by simp only [glossatorref08_Check.j0]; rfl) ?_))
  by_cases c2 : 65536 < cnt x
  · exact Ev.pos (decide_eq_true (by omega)) (Ev.const (by rw [if_pos c2]))
  rw [if_neg c2]
  refine Ev.neg (by simp; omega) (Ev.bind (rright_f _ x (Nat.lt_succ_self _) hw) ?_)
  by_cases c3 : (subs x).all okR = true
  · exact Ev.pos c3 (Ev.const (by rw [if_pos c3]))
  · exact Ev.neg c3 (Ev.const (by rw [if_neg c3]))

mutual
/-- A tree's events. -/
def evR : S25 → List S37
  | ⟨k, neg, n, s, l⟩ => ⟨k, neg, n, s⟩ :: (evRL l ++ (if k = 11 ∨ k = 12 then [⟨15, false, 0, ⟨#[]⟩⟩] else []))
def evRL : List S25 → List S37
  | [] => []
  | x :: l => evR x ++ evRL l
end
theorem evRL_flat : ∀ l : List S25, evRL l = (l.map evR).flatten
  | [] => rfl
  | x :: l => by simp only [evRL, List.map_cons, List.flatten_cons, evRL_flat l]
theorem evs_R : ∀ (m : Nat) (x : S25), dep25 x < m → Each.evs T25 V37 m x = evR x := by
  intro m
  induction m with
  | zero => intro x h; omega
  | succ m ih =>
    rintro ⟨k, neg, n, s, l⟩ h
    have e : Each.evs T25 V37 (m + 1) ⟨k, neg, n, s, l⟩ = ⟨k, neg, n, s⟩ :: ((l.map (Each.evs T25 V37 m)).flatten ++ (if k = 11 ∨ k = 12 then [⟨15, false, 0, ⟨#[]⟩⟩] else [])) := rfl
    rw [e]
    simp only [evR, evRL_flat]
    rw [List.map_congr_left (fun y hy => ih y (by have := dep_kid (f0 := k) (f1 := neg) (f2 := n) (f3 := s) hy; omega))]
mutual
theorem evR_len : ∀ x : S25, (evR x).length ≤ 2 * cnt x
  | ⟨k, neg, n, s, l⟩ => by
    have := evRL_len l
    simp only [evR, cnt, List.length_cons, List.length_append]
    split <;> simp <;> omega
theorem evRL_len : ∀ l : List S25, (evRL l).length ≤ 2 * cntL l
  | [] => Nat.le_refl _
  | x :: l => by have := evR_len x; have := evRL_len l; simp only [evRL, cntL, List.length_append]; omega
end
/-- What Events answers. -/
def eventsT (x : S25) : List S37 × Int := (if checkR x = 0 then evR x else [], checkR x)
theorem events_f (x : S25) (hw : wfS25 x) (hs : szS25 x ≤ 1048576) : Ev (fun k => event_Events.f k x.f0 x.f1 x.f2 x.f3 x.f4) (eventsT x) := by
  obtain ⟨a, b, c, d, l⟩ := x
  have h1 := evR_len ⟨a, b, c, d, l⟩
  have h2 := cnt_sz ⟨a, b, c, d, l⟩
  refine Ev.congr (fun k => by unfold event_Events.f; rfl) (Ev.bind (check_f ⟨a, b, c, d, l⟩ hw (by omega)) ?_)
  dsimp only
  rw [evs_R _ _ (Nat.lt_succ_self _)]
  exact Ev.pos (by omega) (Ev.const rfl)

theorem revents_l0 (v0 : Int) (v1 : Bool) (v2 : Int) (v3 : ByteArray) (l : List S25) (hc : cntL l ≤ 4194304) (hf : ∀ x ∈ l, Ev (fun k => glossatorref09_events.f k x.f0 x.f1 x.f2 x.f3 x.f4) (evR x)) :
    ∀ (d j : Nat) (a : List S37), j + d = l.length → a.length + 2 * cntL (l.drop j) ≤ 8388609 → Ev (fun k => glossatorref09_events.l0 k a (j : Int) v0 v1 v2 v3 l) (a ++ evRL (l.drop j) ++ (if v0 = 11 ∨ v0 = 12 then [⟨15, false, 0, ⟨#[]⟩⟩] else [])) := by
  have hll := len_cntL l
  intro d
  induction d with
  | zero =>
    intro j a hj ha
    rw [List.drop_of_length_le (by omega)]
    simp only [evRL, List.append_nil]
    refine Ev.step (fun k => by simp only [glossatorref09_events.l0]; rfl) (Ev.neg (by omega) ?_)
    by_cases h1 : v0 = 11
    · rw [if_pos (Or.inl h1)]
      exact Ev.pos h1 (Ev.pos (by omega) (Ev.const rfl))
    · by_cases h2 : v0 = 12
      · rw [if_pos (Or.inr h2)]
        exact Ev.neg h1 (Ev.pos h2 (Ev.pos (by omega) (Ev.const rfl)))
      · refine Ev.neg h1 (Ev.neg h2 (Ev.const ?_))
        rw [if_neg (by omega), List.append_nil]
  | succ d ih =>
    intro j a hj ha
    have hlt : j < l.length := by omega
    rw [List.drop_eq_getElem_cons hlt] at ha ⊢
    simp only [cntL, evRL] at ha ⊢
    have hmem := List.getElem_mem hlt
    have hel := evR_len l[j]
    refine Ev.step (fun k => by simp only [glossatorref09_events.l0]; rfl) (Ev.pos (by omega) (Ev.pos (by omega) ?_))
    rw [rdT_get l j hlt, wrap_id (x := (j : Int) + 1) (by omega) (by omega)]
    refine Ev.bind (hf _ hmem) (Ev.pos (by omega) ?_)
    refine Ev.res (ih (j + 1) _ (by omega) (by simp only [List.length_append]; omega)) ?_
    simp only [List.append_assoc]
theorem revents_f : ∀ (m : Nat) (x : S25), dep25 x < m → cnt x ≤ 4194304 → Ev (fun k => glossatorref09_events.f k x.f0 x.f1 x.f2 x.f3 x.f4) (evR x) := by
  intro m
  induction m with
  | zero => intro x h; omega
  | succ m ih =>
    rintro ⟨a0, a1, a2, a3, a4⟩ hd hc
    simp only [cnt] at hc
    simp only [dep25] at hd
    refine Ev.step (fun k => by simp only [glossatorref09_events.f]; rfl) (Ev.res (revents_l0 a0 a1 a2 a3 a4 (by omega) (fun x hx => ih x (by have := dep25_mem a4 x hx; omega) (by have := cntL_mem a4 x hx; omega)) a4.length 0 [⟨a0, a1, a2, a3⟩] (by omega) (by rw [List.drop_zero]; simp only [List.length_singleton]; omega)) ?_)
    rw [List.drop_zero]; simp [evR]
theorem rEvents_f (x : S25) (hw : wfS25 x) (hs : szS25 x ≤ 1048576) : Ev (fun k => glossatorref09_Events.f k x.f0 x.f1 x.f2 x.f3 x.f4) (eventsT x) := by
  have h2 := cnt_sz x
  refine Ev.congr (fun k => by unfold glossatorref09_Events.f; rfl) (Ev.bind (rcheck_f x hw (by omega)) ?_)
  unfold eventsT
  by_cases h : checkR x = 0
  · rw [if_pos h, h]
    exact Ev.pos (by first | trivial | rfl) (Ev.bind (revents_f _ x (Nat.lt_succ_self _) (by omega)) (Ev.const rfl))
  · rw [if_neg h]
    exact Ev.neg h (Ev.const rfl)

theorem rdE_get (xs : List S37) (j : Nat) (h : j < xs.length) : rd_T37 xs (j : Int) = xs[j] := by simp [rd_T37, List.getElem?_eq_getElem h]
theorem list_l0 (xs : List S37) (hx : xs.length ≤ 9000000000000000000) : ∀ (d j : Nat), j + d = xs.length → Ev (fun k => glossatorlaw09_list.l0 k xs xs (j : Int)) true := by
  intro d
  induction d with
  | zero =>
    intro j hj
    exact Ev.step (fun k => by simp only [glossatorlaw09_list.l0]; rfl) (Ev.neg (by omega) (Ev.const rfl))
  | succ d ih =>
    intro j hj
    refine Ev.step (fun k => by simp only [glossatorlaw09_list.l0]; rfl) (Ev.pos (by omega) (Ev.pos (by omega) (Ev.pos (by omega) (Ev.neg (by simp) ?_))))
    rw [wrap_id (x := (j : Int) + 1) (by omega) (by omega)]
    exact ih (j + 1) (by omega)
theorem list_f (xs : List S37) (hx : xs.length ≤ 9000000000000000000) : Ev (fun k => glossatorlaw09_list.f k xs xs) true :=
  Ev.congr (fun k => by unfold glossatorlaw09_list.f; rfl) (Ev.pos (by first | trivial | rfl) (list_l0 xs hx xs.length 0 (by omega)))

theorem awake_t : Ev (fun k => glossatorlaw09_awake.f k) true := by
  have h := events_f ⟨11, false, 0, ⟨#[]⟩, []⟩ (by simp only [wfS25]; exact ⟨by decide, trivial, by decide, by decide, by decide, (wfL25_iff _).2 (by simp)⟩) (by simp only [szS25, szL25]; decide)
  have e : eventsT ⟨11, false, 0, ⟨#[]⟩, []⟩ = ([⟨11, false, 0, ⟨#[]⟩⟩, ⟨15, false, 0, ⟨#[]⟩⟩], 0) := by
    unfold eventsT
    have hc : checkR ⟨11, false, 0, ⟨#[]⟩, []⟩ = 0 := by decide +kernel
    rw [hc]; rfl
  rw [e] at h
  dsimp only at h
  exact Ev.congr (fun k => by unfold glossatorlaw09_awake.f; rfl) (Ev.bind h (Ev.pos rfl (Ev.const rfl)))

theorem EventEvents : glossatorlaw09_EventEvents.Pure := by
  intro a0 a1 a2 a3 a4 ha hs
  have h2 := cnt_sz ⟨a0, a1, a2, a3, a4⟩
  have h3 := evR_len ⟨a0, a1, a2, a3, a4⟩
  refine Ev.rounds (Ev.congr (fun k => by unfold glossatorlaw09_EventEvents.f; rfl) ?_)
  refine Ev.bind (events_f ⟨a0, a1, a2, a3, a4⟩ ha hs) (Ev.bind (rEvents_f ⟨a0, a1, a2, a3, a4⟩ ha hs) ?_)
  refine Ev.bind (list_f _ (by unfold eventsT; dsimp only; split; (· omega); (· exact Nat.zero_le _))) (Ev.pos (by first | trivial | rfl) (Ev.pos (by first | trivial | rfl) (Ev.bind awake_t (Ev.const rfl))))

end Go.Proofs.Ytcgpfclmcajekaa.Pure
