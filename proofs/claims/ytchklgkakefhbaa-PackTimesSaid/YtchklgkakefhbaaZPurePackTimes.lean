-- Out of texts of this seat by a program of this session: what the claim does not reach is struck
import Derived.Test.YtchklgkakefhbaaZPPackTimesx8
import Derived.Test.YtchklgkakefhbaaZUtf
namespace Go.Proofs.Ytchklgkakefhbaa.Pure
open Go.RowKit Go.Proofs.Ytchklgkakefhbaa.PPackTimes Go.Proofs.YtchklgkakefhbaaW.PrintWords Go.Proofs.YtchklgkakefhbaaW.PrintLast Go.Proofs.YtchklgkakefhbaaW.PrintMore
theorem Ev.pos {α : Type} {c : Prop} [Decidable c] {f g : Nat → Option α} {r : α} (h : c) (k : Ev f r) : Ev (fun n => if c then f n else g n) r := Ev.congr (fun _ => if_pos h) k
theorem Ev.neg {α : Type} {c : Prop} [Decidable c] {f g : Nat → Option α} {r : α} (h : ¬ c) (k : Ev g r) : Ev (fun n => if c then f n else g n) r := Ev.congr (fun _ => if_neg h) k
theorem Ev.const {α : Type} {x : Option α} {r : α} (h : x = some r) : Ev (fun _ => x) r := ⟨0, fun _ _ => h⟩
theorem Ev.pre {α β : Type} {x : Option α} {a : α} {f : Nat → α → Option β} {r : β} (h : x = some a) (k : Ev (fun n => f n a) r) : Ev (fun n => x.bind (f n)) r := Ev.congr (fun _ => by rw [h]; rfl) k
theorem Ev.res {α : Type} {g : Nat → Option α} {r r' : α} (k : Ev g r') (e : r' = r) : Ev g r := e ▸ k
theorem wrap_id {x : Int} (h0 : -9223372036854775808 ≤ x) (h1 : x ≤ 9223372036854775807) : wrap64 x = x := by unfold wrap64; omega
theorem wf_i64 {n : Int} (h : (Lit.int .i64 n).wf = true) : -9223372036854775808 ≤ n ∧ n ≤ 9223372036854775807 := by
  simp [Lit.wf, IntKind.min, IntKind.max, IntKind.signed, IntKind.bits] at h; omega
theorem wf_u64 {n : Int} (h : (Lit.int .u64 n).wf = true) : 0 ≤ n ∧ n ≤ 18446744073709551615 := by
  simp [Lit.wf, IntKind.min, IntKind.max, IntKind.signed, IntKind.bits] at h; omega
theorem wf_kids {f0 : Int} {f1 : Bool} {f2 : Int} {f3 : ByteArray} {l : List S25} (h : wfS25 ⟨f0, f1, f2, f3, l⟩) : l.length * 64 ≤ 140737488351232 ∧ ∀ y ∈ l, wfS25 y := by
  simp only [wfS25] at h
  exact ⟨h.2.2.2.2.1, (wfL25_iff _).1 h.2.2.2.2.2⟩
theorem rdT_get (xs : List S25) (j : Nat) (h : j < xs.length) : rd_T25 xs (j : Int) = xs[j] := by
  simp [rd_T25, List.getElem?_eq_getElem h]
theorem dep_kid {f0 : Int} {f1 : Bool} {f2 : Int} {f3 : ByteArray} {l : List S25} {y : S25} (h : y ∈ l) : dep25 y < dep25 ⟨f0, f1, f2, f3, l⟩ := by
  have := dep25_mem l y h; simp only [dep25]; omega
mutual
def cnt : S25 → Nat
  | ⟨_, _, _, _, l⟩ => cntL l + 1
def cntL : List S25 → Nat
  | [] => 0
  | x :: l => cnt x + cntL l
end
mutual
def subs : S25 → List S25
  | ⟨a, b, c, d, l⟩ => ⟨a, b, c, d, l⟩ :: subsL l
def subsL : List S25 → List S25
  | [] => []
  | x :: l => subs x ++ subsL l
end
mutual
theorem subs_len : ∀ x : S25, (subs x).length = cnt x
  | ⟨a, b, c, d, l⟩ => by simp only [subs, cnt, List.length_cons, subsL_len l]
theorem subsL_len : ∀ l : List S25, (subsL l).length = cntL l
  | [] => rfl
  | x :: l => by simp only [subsL, cntL, List.length_append, subs_len x, subsL_len l]
end
theorem nodesL_subs (f : List Int → S25 → List (List Int × S25)) (p : List Int) : ∀ (l : List S25) (i : Nat), (∀ y ∈ l, ∀ q, (f q y).map (·.2) = subs y) → (Each.Tree.nodesL f p l i).map (·.2) = subsL l
  | [], _, _ => rfl
  | y :: l, i, h => by simp only [Each.Tree.nodesL, List.map_append, subsL, h y (by simp), nodesL_subs f p l (i + 1) (fun z hz => h z (by simp [hz]))]
theorem nodes_subs : ∀ (m : Nat) (x : S25) (p : List Int), dep25 x < m → (T25.nodes m p x).map (·.2) = subs x := by
  intro m
  induction m with
  | zero => intro x p h; omega
  | succ m ih =>
    rintro ⟨a, b, c, d, l⟩ p h
    have e : T25.nodes (m + 1) p ⟨a, b, c, d, l⟩ = (p, ⟨a, b, c, d, l⟩) :: Each.Tree.nodesL (T25.nodes m) p l 0 := rfl
    rw [e, List.map_cons, nodesL_subs _ _ _ _ (fun y hy q => ih y q (by have := dep_kid (f0 := a) (f1 := b) (f2 := c) (f3 := d) hy; omega))]
    rfl
theorem nodes_len (x : S25) (p : List Int) : (T25.nodes (dep25 x + 1) p x).length = cnt x := by
  rw [← subs_len, ← nodes_subs _ x p (Nat.lt_succ_self _), List.length_map]
mutual
theorem dep_sz : ∀ x : S25, dep25 x ≤ szS25 x
  | ⟨a, b, c, d, l⟩ => by have := depL_sz l; simp only [dep25, szS25]; omega
theorem depL_sz : ∀ l : List S25, depL25 l ≤ szL25 l
  | [] => Nat.le_refl _
  | x :: l => by have := dep_sz x; have := depL_sz l; simp only [depL25, szL25]; omega
end
mutual
theorem cnt_sz : ∀ x : S25, cnt x ≤ szS25 x
  | ⟨a, b, c, d, l⟩ => by have := cntL_sz l; simp only [cnt, szS25]; omega
theorem cntL_sz : ∀ l : List S25, cntL l ≤ szL25 l
  | [] => Nat.le_refl _
  | x :: l => by have := cnt_sz x; have := cntL_sz l; simp only [cntL, szL25]; omega
end
def leafR (k : Int) : Bool := decide (k ≠ 11 ∧ k ≠ 12 ∧ k ≠ 13)
mutual
def depR : S25 → Int
  | ⟨k, _, _, _, l⟩ => if leafR k = true then (if k = 5 then 1 else 0) else depRL l + 1
def depRL : List S25 → Int
  | [] => 0
  | x :: l => max (depR x) (depRL l)
end
mutual
theorem depR_pos : ∀ x : S25, 0 ≤ depR x ∧ depR x ≤ dep25 x
  | ⟨k, _, _, _, l⟩ => by
    have := depRL_pos l
    simp only [depR, dep25]
    by_cases h : leafR k = true
    · rw [if_pos h]; by_cases h5 : k = 5
      · rw [if_pos h5]; omega
      · rw [if_neg h5]; omega
    · rw [if_neg h]; omega
theorem depRL_pos : ∀ l : List S25, 0 ≤ depRL l ∧ depRL l ≤ depL25 l
  | [] => by simp [depRL, depL25]
  | x :: l => by have := depR_pos x; have := depRL_pos l; simp only [depRL, depL25]; omega
end
theorem leaf_f (a0 : Int) (a1 : Bool) (a2 : Int) (a3 : ByteArray) (a4 : List S25) : value_Leaf.f a0 a1 a2 a3 a4 = some (leafR a0) := by
  unfold value_Leaf.f leafR
  by_cases h1 : a0 = 11
  · rw [if_pos h1]; simp [h1]
  · by_cases h2 : a0 = 12
    · rw [if_neg h1, if_pos h2]; simp [h2]
    · by_cases h3 : a0 = 13
      · rw [if_neg h1, if_neg h2, if_pos h3]; simp [h3]
      · rw [if_neg h1, if_neg h2, if_neg h3]; simp [h1, h2, h3]
theorem mx_max (a b : Int) : mx a b = max a b := by unfold mx; omega
theorem depth_l0 (l : List S25) (hl : l.length * 64 ≤ 140737488351232) (hd : depL25 l ≤ 9000000000000000000) (hf : ∀ x ∈ l, Ev (fun k => value_Depth.f k x.f0 x.f1 x.f2 x.f3 x.f4) (depR x)) :
    ∀ (d j : Nat) (a : Int), j + d = l.length → 0 ≤ a → a ≤ 9000000000000000000 → Ev (fun k => value_Depth.l0 k a l (l.length : Int) (j : Int)) (max a (depRL (l.drop j)) + 1) := by
  intro d
  induction d with
  | zero =>
    intro j a hj h0 h1
    refine Ev.step (fun k => by simp only [value_Depth.l0]; rfl) (Ev.neg (by omega) (Ev.const ?_))
    rw [List.drop_of_length_le (by omega), wrap_id (by omega) (by omega)]
    simp only [depRL]
    rw [show max a 0 = a by omega]
  | succ d ih =>
    intro j a hj h0 h1
    have hlt : j < l.length := by omega
    have hb := depR_pos l[j]
    have hm := dep25_mem l l[j] (List.getElem_mem hlt)
    refine Ev.step (fun k => by simp only [value_Depth.l0]; rfl) (Ev.pos (by omega) (Ev.pos (by omega) (Ev.pos (by omega) ?_)))
    rw [rdT_get l j hlt, wrap_id (by omega) (by omega)]
    refine Ev.bind (hf _ (List.getElem_mem hlt)) ?_
    rw [mx_max]
    refine Ev.res (ih (j + 1) _ (by omega) (by omega) (by omega)) ?_
    rw [List.drop_eq_getElem_cons hlt]
    simp only [depRL]
    omega
theorem depth_f : ∀ (m : Nat) (x : S25), dep25 x < m → m ≤ 9000000000000000000 → wfS25 x → Ev (fun k => value_Depth.f k x.f0 x.f1 x.f2 x.f3 x.f4) (depR x) := by
  intro m
  induction m with
  | zero => intro x h; omega
  | succ m ih =>
    rintro ⟨a0, a1, a2, a3, a4⟩ hd hm hw
    obtain ⟨hl, hk⟩ := wf_kids hw
    refine Ev.step (fun k => by simp only [value_Depth.f]; rfl) (Ev.pre (leaf_f a0 a1 a2 a3 a4) ?_)
    simp only [depR]
    by_cases h : leafR a0 = true
    · rw [if_pos h]
      refine Ev.pos h ?_
      by_cases h5 : a0 = 5
      · exact Ev.pos h5 (Ev.const (by rw [if_pos h5]))
      · exact Ev.neg h5 (Ev.const (by rw [if_neg h5]))
    · rw [if_neg h]
      have hdl : depL25 a4 < m := by simp only [dep25] at hd; omega
      refine Ev.neg h (Ev.res (depth_l0 a4 hl (by omega) (fun x hx => ih x (by have := dep25_mem a4 x hx; omega) (by omega) (hk x hx)) a4.length 0 0 (by omega) (by omega) (by omega)) ?_)
      have := depRL_pos a4
      rw [List.drop_zero]; omega
def bigR (s : ByteArray) : Bool := decide (8 < (s.size : Int) ∧ (s.size : Int) ≤ 512) && (bt s 0 != 0)
theorem big_f (s : ByteArray) : value_big.f s = some (bigR s) := by
  unfold value_big.f bigR
  by_cases h1 : (s.size : Int) > 8
  · rw [if_pos h1]
    by_cases h2 : (s.size : Int) ≤ 512
    · rw [if_pos h2, if_pos (by omega)]; simp [show 8 < (s.size : Int) by omega, h2]
    · rw [if_neg h2]; simp [h2]
  · rw [if_neg h1]; simp [show ¬ 8 < (s.size : Int) by omega]
def bitsR (k : Int) : Nat := if k = 1 then 1 else if k = 6 then 16 else if k = 7 then 32 else if k = 4 ∨ k = 8 ∨ k = 13 then 64 else if k = 3 ∨ k = 14 then 8 else 0
def oneR (y : S25) : Bool :=
  decide (0 ≤ y.f0 ∧ y.f0 ≤ 14) && !(y.f1 && decide (y.f0 ≠ 4 ∧ y.f0 ≠ 5)) && decide (y.f2 < 2 ^ bitsR y.f0) &&
  (if y.f0 = 10 then (Utf.checkF y.f3).2 == 0 else if y.f0 = 9 ∨ y.f0 = 14 then true else if y.f0 = 5 then bigR y.f3 else
    (y.f3.toList == ([] : List UInt8)) && (if y.f0 = 3 then !decide (19 < y.f2 ∧ y.f2 < 32) else if y.f0 = 12 then decide ((y.f4.length : Int) % 2 = 0) else
      if y.f0 = 13 then decide (y.f4.length = 1) && !(decide (y.f2 / 2 = 1) && decide ((rd_T25 y.f4 0).f0 = 9) && bigR (rd_T25 y.f4 0).f3) else true))
theorem shr_ne (n : Int) (b : Nat) (hb : b ≤ 64) (h0 : 0 ≤ n) : (shr .u64 n (b : Int) != 0) = !decide (n < 2 ^ b) := by
  unfold shr
  rw [Int.toNat_natCast, Nat.min_eq_left (by simpa [IntKind.bits] using hb)]
  have hp : (0 : Int) < 2 ^ b := Int.pow_pos (by decide)
  by_cases h : n < 2 ^ b
  · rw [Int.ediv_eq_zero_of_lt h0 h]; simp [h]
  · have : n / 2 ^ b ≠ 0 := fun e => h (by
      have := Int.lt_ediv_add_one_mul_self n hp
      rw [e] at this; omega)
    simp [h, this]
theorem bits_f (k : Int) (m : Nat) : value_bits.f (m + 1) k = some (bitsR k : Int) := by
  unfold value_bits.f bitsR
  by_cases h1 : k = 1
  · rw [if_pos h1, if_pos h1]; rfl
  by_cases h6 : k = 6
  · rw [if_neg h1, if_neg h1, if_pos h6, if_pos h6]; rfl
  by_cases h7 : k = 7
  · rw [if_neg h1, if_neg h1, if_neg h6, if_neg h6, if_pos h7, if_pos h7]; rfl
  rw [if_neg h1, if_neg h1, if_neg h6, if_neg h6, if_neg h7, if_neg h7]
  by_cases h4 : k = 4
  · rw [if_pos h4, if_pos (.inl h4)]; subst h4; rfl
  by_cases h8 : k = 8
  · rw [if_neg h4, if_pos h8, if_pos (.inr (.inl h8))]; subst h8; rfl
  rw [if_neg h4, if_neg h8]
  by_cases h13 : k = 13
  · rw [if_pos (.inr (.inr h13))]; subst h13; rfl
  rw [if_neg (by omega)]
  have e : (k == 13) = false := by simp [h13]
  rw [e]
  simp only [value_bits.j0]
  by_cases h3 : k = 3
  · rw [if_neg (by simp), if_pos h3, if_pos (.inl h3)]; rfl
  by_cases h14 : k = 14
  · rw [if_neg (by simp), if_neg h3, if_pos h14, if_pos (.inr h14)]; rfl
  rw [if_neg (by simp), if_neg h3, if_neg h14, if_neg (by omega)]; rfl
theorem bitsR_le (k : Int) : bitsR k ≤ 64 := by unfold bitsR; (repeat' split) <;> omega
theorem one_j2 (m : Nat) (k : Int) (neg : Bool) (n : Int) (s : ByteArray) (l : List S25) (_hk : k ≠ 9 ∧ k ≠ 10) :
    value_One.j2 (m + 1) k (k == 14) k neg n s l = some (if k = 14 then true else if k = 5 then bigR s else
    (s.toList == ([] : List UInt8)) && (if k = 3 then !decide (19 < n ∧ n < 32) else if k = 12 then decide ((l.length : Int) % 2 = 0) else
      if k = 13 then decide (l.length = 1) && !(decide (n / 2 = 1) && decide ((rd_T25 l 0).f0 = 9) && bigR (rd_T25 l 0).f3) else true)) := by
  simp only [value_One.j2]
  by_cases h14 : k = 14
  · rw [if_pos (by simp [h14]), if_pos h14]
  rw [if_neg (by simp [h14]), if_neg h14]
  by_cases h5 : k = 5
  · rw [if_pos h5, if_pos h5, big_f]; rfl
  rw [if_neg h5, if_neg h5]
  by_cases h3 : k = 3
  · rw [if_pos h3, if_pos h3]
    by_cases c1 : n > 19
    · rw [if_pos c1]
      by_cases c2 : n < 32
      · rw [if_pos c2]; simp [show 19 < n by omega, c2]
      · rw [if_neg c2]; simp [c2]
    · rw [if_neg c1]; simp [show ¬ 19 < n by omega]
  rw [if_neg h3, if_neg h3]
  by_cases h12 : k = 12
  · rw [if_pos h12, if_pos h12]
    by_cases c1 : (l.length : Int) % 2 = 0
    · rw [if_pos c1]; simp [c1]
    · rw [if_neg c1]; simp [c1]
  rw [if_neg h12, if_neg h12]
  by_cases h13 : k = 13
  · rw [if_pos h13, if_pos h13]
    by_cases c1 : (l.length : Int) = 1
    · have c1' : l.length = 1 := by omega
      rw [if_pos c1]
      by_cases c2 : n / 2 = 1
      · rw [if_pos c2, if_pos (by omega)]
        by_cases c3 : (rd_T25 l 0).f0 = 9
        · rw [if_pos c3, big_f]
          simp only [Option.bind_some]
          by_cases c4 : bigR (rd_T25 l 0).f3 = true
          · rw [if_pos c4]; simp [c1', c2, c3, c4]
          · rw [if_neg c4]; simp [c1', c2, c3, c4]
        · rw [if_neg c3]; simp [c1', c3]
      · rw [if_neg c2]; simp [c1', c2]
    · have c1' : ¬ l.length = 1 := by omega
      rw [if_neg c1]; simp [c1']
  rw [if_neg h13, if_neg h13]; simp
theorem one_j1 (m : Nat) (k : Int) (neg : Bool) (n : Int) (s : ByteArray) (l : List S25) (b : Bool) (hs : s.size ≤ 140737488351232) :
    value_One.j1 (m + 2) (!b) k neg n s l = some (b && (if k = 10 then (Utf.checkF s).2 == 0 else if k = 9 ∨ k = 14 then true else if k = 5 then bigR s else
    (s.toList == ([] : List UInt8)) && (if k = 3 then !decide (19 < n ∧ n < 32) else if k = 12 then decide ((l.length : Int) % 2 = 0) else
      if k = 13 then decide (l.length = 1) && !(decide (n / 2 = 1) && decide ((rd_T25 l 0).f0 = 9) && bigR (rd_T25 l 0).f3) else true))) := by
  rw [show m + 2 = (m + 1) + 1 from rfl]
  simp only [value_One.j1]
  cases b
  · simp
  · rw [if_neg (by simp)]
    by_cases h10 : k = 10
    · rw [if_pos h10, if_pos h10]; unfold utf_Check.f; rw [if_pos hs]; simp
    rw [if_neg h10, if_neg h10]
    by_cases h9 : k = 9
    · rw [if_pos h9, if_pos (.inl h9)]; subst h9; simp [value_One.j2]
    rw [if_neg h9, one_j2 m k neg n s l ⟨h9, h10⟩]
    by_cases h14 : k = 14
    · rw [if_pos h14, if_pos (.inr h14)]; simp
    · rw [if_neg h14, if_neg (show ¬ (k = 9 ∨ k = 14) by omega)]; simp
theorem one_j0 (m : Nat) (k : Int) (neg : Bool) (n : Int) (s : ByteArray) (l : List S25) (hs : s.size ≤ 140737488351232) (hn : 0 ≤ n ∧ n ≤ 18446744073709551615) :
    value_One.j0 (m + 3) false k neg n s l = some (decide (n < 2 ^ bitsR k) && (if k = 10 then (Utf.checkF s).2 == 0 else if k = 9 ∨ k = 14 then true else if k = 5 then bigR s else
    (s.toList == ([] : List UInt8)) && (if k = 3 then !decide (19 < n ∧ n < 32) else if k = 12 then decide ((l.length : Int) % 2 = 0) else
      if k = 13 then decide (l.length = 1) && !(decide (n / 2 = 1) && decide ((rd_T25 l 0).f0 = 9) && bigR (rd_T25 l 0).f3) else true))) := by
  rw [show m + 3 = (m + 2) + 1 from rfl]
  simp only [value_One.j0]
  have hb := bitsR_le k
  rw [if_neg (by simp), show m + 2 = (m + 1) + 1 from rfl, bits_f, Option.bind_some]
  by_cases h : (bitsR k : Int) < 64
  · rw [if_pos h, if_pos (by omega), shr_ne n (bitsR k) hb hn.1]
    exact one_j1 m k neg n s l _ hs
  · rw [if_neg h]
    have e : bitsR k = 64 := by omega
    have e2 : decide (n < 2 ^ bitsR k) = true := by rw [e]; simp; omega
    rw [e2]
    exact one_j1 m k neg n s l true hs
theorem one_f (y : S25) (hw : wfS25 y) : Ev (fun k => value_One.f k y.f0 y.f1 y.f2 y.f3 y.f4) (oneR y) := by
  obtain ⟨k, neg, n, s, l⟩ := y
  simp only [wfS25] at hw
  have hn := wf_u64 hw.2.2.1
  have hs : s.size ≤ 140737488351232 := hw.2.2.2.1
  refine ⟨3, fun q hq => ?_⟩
  obtain ⟨m, rfl⟩ : ∃ m, q = m + 3 := ⟨q - 3, by omega⟩
  have ht : value_One.j0 (m + 3) true k neg n s l = some false := by rw [show m + 3 = (m + 2) + 1 from rfl]; simp [value_One.j0]
  unfold value_One.f oneR
  simp only
  by_cases h0 : k < 0
  · rw [if_pos h0, ht]; simp [show ¬ 0 ≤ k by omega]
  by_cases h1 : k > 14
  · rw [if_neg h0, if_pos h1, ht]; simp [show ¬ k ≤ 14 by omega]
  rw [if_neg h0, if_neg h1]
  have e : decide (0 ≤ k ∧ k ≤ 14) = true := decide_eq_true ⟨by omega, by omega⟩
  rw [e, Bool.true_and]
  by_cases h2 : neg = true
  · rw [if_pos h2]
    by_cases h4 : k = 4
    · rw [if_pos h4, one_j0 m k neg n s l hs hn]; simp [h4]
    · rw [if_neg h4]
      by_cases h5 : k = 5
      · rw [show (k != 5) = false by simp [h5], one_j0 m k neg n s l hs hn]; simp [h5]
      · rw [show (k != 5) = true by simp [h5], ht]; simp [h2, h4, h5]
  · rw [if_neg h2, one_j0 m k neg n s l hs hn]; simp [h2]
def okR (y : S25) : Bool := oneR y && !(leafR y.f0 && decide (0 < y.f4.length))
def checkR (x : S25) : Int := if 64 < depR x then 2 else if 65536 < cnt x then 2 else if (subs x).all okR then 0 else 9
theorem chk_f : ∀ l : List S25, (∀ y ∈ l, wfS25 y) → Ev (fun k => Each.chk T25 (fun y => value_One.f k y.f0 y.f1 y.f2 y.f3 y.f4) (fun y => value_Leaf.f y.f0 y.f1 y.f2 y.f3 y.f4) l) (if l.all okR then 0 else 9)
  | [], _ => Ev.const rfl
  | y :: l, h => by
    refine Ev.congr (fun k => by simp only [Each.chk]; rfl) (Ev.bind (one_f y (h y (by simp))) ?_)
    simp only [List.all_cons]
    by_cases h1 : oneR y = true
    · refine Ev.pos h1 (Ev.pre (leaf_f ..) ?_)
      by_cases h2 : leafR y.f0 = true
      · refine Ev.pos h2 ?_
        by_cases h3 : 0 < y.f4.length
        · refine Ev.pos h3 (Ev.const ?_)
          simp [okR, h2, h3]
        · refine Ev.neg h3 (Ev.res (chk_f l (fun z hz => h z (by simp [hz]))) ?_)
          simp [okR, h1, h3]
      · refine Ev.neg h2 (Ev.res (chk_f l (fun z hz => h z (by simp [hz]))) ?_)
        simp [okR, h1, h2]
    · refine Ev.neg h1 (Ev.const ?_)
      simp [okR, h1]
mutual
theorem wf_subs : ∀ x : S25, wfS25 x → ∀ y ∈ subs x, wfS25 y
  | ⟨a, b, c, d, l⟩, h, y, hy => by
    simp only [subs, List.mem_cons] at hy
    rcases hy with rfl | hy
    · exact h
    · exact wf_subsL l (wf_kids h).2 y hy
theorem wf_subsL : ∀ l : List S25, (∀ x ∈ l, wfS25 x) → ∀ y ∈ subsL l, wfS25 y
  | [], _, y, hy => by simp [subsL] at hy
  | x :: l, h, y, hy => by
    simp only [subsL, List.mem_append] at hy
    rcases hy with hy | hy
    · exact wf_subs x (h x (by simp)) y hy
    · exact wf_subsL l (fun z hz => h z (by simp [hz])) y hy
end
theorem check_f (x : S25) (hw : wfS25 x) (hs : szS25 x ≤ 4194304) : Ev (fun k => value_Check.f k x.f0 x.f1 x.f2 x.f3 x.f4) (checkR x) := by
  obtain ⟨a, b, c, d, l⟩ := x
  have h1 := dep_sz ⟨a, b, c, d, l⟩
  have h2 := cnt_sz ⟨a, b, c, d, l⟩
  dsimp only
  refine Ev.congr (fun k => by unfold value_Check.f; rfl) (Ev.bind (depth_f _ ⟨a, b, c, d, l⟩ (Nat.lt_succ_self _) (by omega) hw) ?_)
  refine Ev.pos (by omega) ?_
  unfold checkR
  by_cases c1 : 64 < depR ⟨a, b, c, d, l⟩
  · exact Ev.pos c1 (Ev.const (by rw [if_pos c1]))
  rw [if_neg c1]
  refine Ev.neg c1 ?_
  rw [nodes_len, wrap_id (by omega) (by omega), nodes_subs _ _ _ (Nat.lt_succ_self _)]
  by_cases c2 : 65536 < cnt ⟨a, b, c, d, l⟩
  · exact Ev.pos (by omega) (Ev.const (by rw [if_pos c2]))
  rw [if_neg c2]
  exact Ev.neg (by omega) (chk_f _ (wf_subs _ hw))
mutual
def itR : S25 → List Int
  | ⟨k, b, n, s, l⟩ => Wr.hdr T25 ⟨k, b, n, s, l⟩ ++ itRL l
def itRL : List S25 → List Int
  | [] => []
  | x :: l => itR x ++ itRL l
end
theorem itRL_flat : ∀ l : List S25, itRL l = (l.map itR).flatten
  | [] => by simp [itRL]
  | x :: l => by simp [itRL, itRL_flat l]
theorem itm_R : ∀ (m : Nat) (x : S25), dep25 x < m → Wr.itm T25 m x = itR x := by
  intro m
  induction m with
  | zero => intro x h; omega
  | succ m ih =>
    rintro ⟨k, b, n, s, l⟩ h
    simp only [dep25] at h
    show Wr.hdr T25 ⟨k, b, n, s, l⟩ ++ (l.map (Wr.itm T25 m)).flatten = _
    rw [itR, itRL_flat]
    congr 2
    exact List.map_congr_left fun y hy => ih y (by have := dep25_mem l y hy; omega)
theorem hdr_len (x : S25) : (Wr.hdr T25 x).length ≤ 10 + x.f3.size := by
  unfold Wr.hdr
  have h1 := Wr.numR_len (T25.neg x) (T25.n x)
  have h2 := Wr.headR_len (T25.k x) ((T25.s x).size : Int)
  have h3 := Wr.extR_len ((T25.s x).size : Int)
  have h4 := Wr.lenR_len 222 (((T25.kids x).length : Int) / 2)
  have h5 := Wr.lenR_len 220 ((T25.kids x).length : Int)
  have h6 : (T25.s x).size = x.f3.size := rfl
  (repeat' split) <;> (try simp only [List.length_append, List.length_cons, List.length_nil, Wr.outR_len, bytesOf_length]) <;> omega
mutual
theorem itR_len : ∀ x : S25, (itR x).length ≤ 2 * szS25 x
  | ⟨k, b, n, s, l⟩ => by
    have h1 := hdr_len ⟨k, b, n, s, l⟩
    have h2 := itRL_len l
    simp only [itR, List.length_append, szS25] at h1 ⊢
    omega
theorem itRL_len : ∀ l : List S25, (itRL l).length ≤ 2 * szL25 l
  | [] => by simp [itRL]
  | x :: l => by
    have h1 := itR_len x
    have h2 := itRL_len l
    simp only [itRL, List.length_append, szL25] at h1 ⊢
    omega
end
mutual
def saysR : S25 → Bool
  | ⟨k, b, n, _, l⟩ => if k = 2 ∨ k = 3 ∨ k = 5 ∨ k = 6 ∨ k = 13 then false else if k = 4 then !b || decide (n < 9223372036854775808) else saysRL l
def saysRL : List S25 → Bool
  | [] => true
  | x :: l => saysR x && saysRL l
end
theorem says_l0 (l : List S25) (hl : l.length * 64 ≤ 140737488351232) (hf : ∀ x ∈ l, Ev (fun k => pack_says.f k x.f0 x.f1 x.f2 x.f3 x.f4) (saysR x)) :
    ∀ (d j : Nat), j + d = l.length → Ev (fun k => pack_says.l0 k l (l.length : Int) (j : Int)) (saysRL (l.drop j)) := by
  intro d
  induction d with
  | zero =>
    intro j hj
    refine Ev.step (fun k => by simp only [pack_says.l0]; rfl) (Ev.neg (by omega) (Ev.const ?_))
    rw [List.drop_of_length_le (by omega)]
    rfl
  | succ d ih =>
    intro j hj
    have hlt : j < l.length := by omega
    refine Ev.step (fun k => by simp only [pack_says.l0]; rfl) (Ev.pos (by omega) (Ev.pos (by omega) (Ev.pos (by omega) ?_)))
    rw [rdT_get l j hlt, wrap_id (by omega) (by omega), List.drop_eq_getElem_cons hlt]
    refine Ev.bind (hf _ (List.getElem_mem hlt)) ?_
    simp only [saysRL]
    cases h : saysR l[j] with
    | true => rw [Bool.true_and]; exact Ev.pos rfl (ih (j + 1) (by omega))
    | false => exact Ev.neg (by simp) (Ev.const rfl)
theorem says_f : ∀ (m : Nat) (x : S25), dep25 x < m → wfS25 x → Ev (fun k => pack_says.f k x.f0 x.f1 x.f2 x.f3 x.f4) (saysR x) := by
  intro m
  induction m with
  | zero => intro x h; omega
  | succ m ih =>
    rintro ⟨a0, a1, a2, a3, a4⟩ hd hw
    obtain ⟨hl, hk⟩ := wf_kids hw
    simp only [dep25] at hd
    have hn := wf_u64 (show (Lit.int .u64 a2).wf = true from by simp only [wfS25] at hw; exact hw.2.2.1)
    have hj : ∀ b : Bool, b = decide (a0 = 2 ∨ a0 = 3 ∨ a0 = 5 ∨ a0 = 6 ∨ a0 = 13) → Ev (fun k => pack_says.j0 k a0 b a0 a1 a2 a3 a4) (saysR ⟨a0, a1, a2, a3, a4⟩) := by
      intro b hb
      refine Ev.step (fun k => by simp only [pack_says.j0]; rfl) ?_
      simp only [saysR]
      by_cases h1 : a0 = 2 ∨ a0 = 3 ∨ a0 = 5 ∨ a0 = 6 ∨ a0 = 13
      · rw [if_pos h1]
        exact Ev.pos (by rw [hb]; exact decide_eq_true h1) (Ev.const rfl)
      · rw [if_neg h1]
        refine Ev.neg (by rw [hb, decide_eq_false h1]; simp) ?_
        by_cases h4 : a0 = 4
        · rw [if_pos h4]
          refine Ev.pos h4 ?_
          cases a1 with
          | true =>
            refine Ev.pos rfl (Ev.const ?_)
            congr 1
            rw [Bool.eq_iff_iff]
            simp only [beq_iff_eq, Bool.not_true, Bool.false_or, decide_eq_true_eq]
            omega
          | false => exact Ev.neg (by simp) (Ev.const rfl)
        · rw [if_neg h4]
          refine Ev.neg h4 (Ev.res (says_l0 a4 hl (fun x hx => ih x (by have := dep25_mem a4 x hx; omega) (hk x hx)) a4.length 0 (by omega)) ?_)
          rw [List.drop_zero]
    refine Ev.step (fun k => by simp only [pack_says.f]; rfl) ?_
    by_cases h2 : a0 = 2
    · exact Ev.pos h2 (hj _ (by subst h2; decide))
    · refine Ev.neg h2 ?_
      by_cases h3 : a0 = 3
      · exact Ev.pos h3 (hj _ (by subst h3; decide))
      · refine Ev.neg h3 ?_
        by_cases h5 : a0 = 5
        · exact Ev.pos h5 (hj _ (by subst h5; decide))
        · refine Ev.neg h5 ?_
          by_cases h6 : a0 = 6
          · exact Ev.pos h6 (hj _ (by subst h6; decide))
          · refine Ev.neg h6 (hj _ ?_)
            rw [Bool.eq_iff_iff]
            simp only [beq_iff_eq, decide_eq_true_eq]
            omega
mutual
theorem okn_sz : ∀ x : S25, wfS25 x → szS25 x ≤ 1099511627776 → okn25 x = true
  | ⟨k, b, n, s, l⟩ => by
    intro hw hs
    obtain ⟨hl, hk⟩ := wf_kids hw
    have hn := wf_u64 (show (Lit.int .u64 n).wf = true from by simp only [wfS25] at hw; exact hw.2.2.1)
    simp only [szS25] at hs
    simp only [okn25, Bool.and_eq_true, decide_eq_true_eq]
    exact ⟨⟨hn.1, hn.2, by omega⟩, oknL_sz l hk (by omega)⟩
theorem oknL_sz : ∀ l : List S25, (∀ y ∈ l, wfS25 y) → szL25 l ≤ 1099511627776 → oknL25 l = true
  | [] => fun _ _ => rfl
  | x :: l => by
    intro hw hs
    simp only [szL25] at hs
    simp only [oknL25, Bool.and_eq_true]
    exact ⟨okn_sz x (hw x (List.mem_cons_self ..)) (by omega), oknL_sz l (fun y hy => hw y (List.mem_cons_of_mem _ hy)) (by omega)⟩
end
def encT (x : S25) : List Int × Int := if checkR x = 0 then (if saysR x = true then (itR x, 0) else ([], 10)) else ([], checkR x)
theorem enc_f (x : S25) (hw : wfS25 x) (hs : szS25 x ≤ 4194304) : Ev (fun k => pack_Encode.f k x.f0 x.f1 x.f2 x.f3 x.f4) (encT x) := by
  have hg : ∀ c b, pack_Encode.g x c b = some (if c = 0 then (if b = true then itR x else []) else [], if c = 0 then (if b = true then 0 else 10) else c) := by
    intro c b
    unfold pack_Encode.g
    have h1 := itR_len x
    rw [itm_R _ x (Nat.lt_succ_self _), if_pos ⟨okn_sz x hw (by omega), by omega⟩]
  obtain ⟨a0, a1, a2, a3, a4⟩ := x
  refine Ev.congr (fun k => by unfold pack_Encode.f; rfl) (Ev.bind (check_f ⟨a0, a1, a2, a3, a4⟩ hw hs) ?_)
  unfold encT
  by_cases h : checkR ⟨a0, a1, a2, a3, a4⟩ = 0
  · rw [if_pos h, h]
    refine Ev.pos (by trivial) (Ev.bind (says_f _ ⟨a0, a1, a2, a3, a4⟩ (Nat.lt_succ_self _) hw) (Ev.const ?_))
    rw [hg]
    cases saysR ⟨a0, a1, a2, a3, a4⟩ <;> simp
  · rw [if_neg h]
    refine Ev.neg h (Ev.const ?_)
    rw [hg, if_neg h, if_neg h]
theorem awake_t : Ev (fun k => glossatorlaw13_awake.f k) true := by
  have h := enc_f ⟨0, false, 0, ⟨#[]⟩, []⟩ (by simp only [wfS25]; exact ⟨by decide, trivial, by decide, by decide, by decide, (wfL25_iff _).2 (by simp)⟩) (by simp only [szS25, szL25]; decide)
  have e : encT ⟨0, false, 0, ⟨#[]⟩, []⟩ = ([192], 0) := by
    unfold encT
    have hc : checkR ⟨0, false, 0, ⟨#[]⟩, []⟩ = 0 := by decide +kernel
    have hz : saysR ⟨0, false, 0, ⟨#[]⟩, []⟩ = true := by decide +kernel
    rw [hc, hz]; rfl
  rw [e] at h
  dsimp only at h
  refine Ev.congr (fun k => by unfold glossatorlaw13_awake.f; rfl) (Ev.bind h ?_)
  dsimp only
  exact Ev.pos rfl (Ev.pos rfl (Ev.pos (by decide) (Ev.const rfl)))
theorem strs_size (xs : List Int) : (strOfNums xs).size = xs.length := by simp [strOfNums, ByteArray.size]
theorem big13_l0 (n : Int) : ∀ (d : Nat) (a : List Int), d ≤ 8 → a.length + d ≤ 1000 → Ev (fun k => glossatorref13_big.l0 k n a ((d : Int) - 1)) (a ++ Wr.outR n d) := by
  intro d
  induction d with
  | zero =>
    intro a _ _
    refine Ev.step (fun k => by simp only [glossatorref13_big.l0]; rfl) (Ev.neg (by omega) (Ev.const ?_))
    simp [Wr.outR]
  | succ d ih =>
    intro a hd ha
    have e1 : ((d + 1 : Nat) : Int) - 1 = (d : Int) := by omega
    rw [e1]
    have e2 : wrap64 (8 * (d : Int)) = 8 * (d : Int) := wrap_id (by omega) (by omega)
    refine Ev.step (fun k => by simp only [glossatorref13_big.l0]; rfl) ?_
    rw [e2, wrap_id (x := (d : Int) - 1) (by omega) (by omega)]
    refine Ev.pos (by omega) (Ev.pos (by omega) (Ev.pos (by omega) (Ev.res (ih _ (by omega) (by simp; omega)) ?_)))
    have e3 : shr .u64 n (8 * (d : Int)) = n / 2 ^ (8 * d) := by
      have h9 := shr_small (k := .u64) (x := n) (y := 8 * (d : Int)) rfl (show 8 * (d : Int) ≤ ((64 : Nat) : Int) by omega)
      rw [← h9, show (8 * (d : Int)).toNat = 8 * d by omega]
    rw [e3]
    simp [Wr.outR]
theorem big13_f (first n : Int) (_h0 : 0 ≤ n) (d : Nat) (hd : d ≤ 8) : Ev (fun k => glossatorref13_big.f k first n (d : Int)) (first % 256 :: Wr.outR n d) := by
  refine Ev.congr (fun k => by unfold glossatorref13_big.f; rfl) ?_
  rw [wrap_id (x := (d : Int) - 1) (by omega) (by omega)]
  exact big13_l0 n d [first % 256] hd (by simp; omega)
theorem wrap_u64' (n : Int) : IntKind.u64.wrap n = n % 18446744073709551616 := by simp [IntKind.wrap, IntKind.bits, IntKind.signed]
theorem mask64' (i : Nat) (hi : i ≤ 64) {m x : Int} (hm : m = 2 ^ i - 1) (h0 : 0 ≤ x) (h1 : x < 18446744073709551616) : Go.bits .and .u64 x m = x % 2 ^ i := by
  rw [hm]; exact bits_mask .u64 64 (by decide) (fun n g0 g1 => by rw [wrap_u64']; omega) i hi x h0 h1
def Each.eqL {S : Type} (f : S → S → Bool) : List S → List S → Bool
  | [], [] => true
  | x :: xs, y :: ys => f x y && Each.eqL f xs ys
  | _, _ => false
def Each.eqF {S : Type} (T : Each.Tree S) : Nat → S → S → Bool
  | 0, _, _ => false
  | m + 1, x, y => T.k x == T.k y && T.neg x == T.neg y && T.n x == T.n y && (T.s x).toList == (T.s y).toList && Each.eqL (Each.eqF T m) (T.kids x) (T.kids y)
theorem Each.eqL_len {S : Type} (f : S → S → Bool) : ∀ (xs ys : List S), xs.length ≠ ys.length → Each.eqL f xs ys = false
  | [], [], h => absurd rfl h
  | [], _ :: _, _ => rfl
  | _ :: _, [], _ => rfl
  | x :: xs, y :: ys, h => by simp only [Each.eqL, Each.eqL_len f xs ys (by simpa using h), Bool.and_false]
theorem same_j0t (a0 : Int) (a1 : Bool) (a2 : Int) (a3 : ByteArray) (a4 : List S25) (b0 : Int) (b1 : Bool) (b2 : Int) (b3 : ByteArray) (b4 : List S25) : Ev (fun k => glossatorlaw13_same.j0 k true a0 a1 a2 a3 a4 b0 b1 b2 b3 b4) false := by
  refine Ev.step (fun k => by simp only [glossatorlaw13_same.j0]; rfl) ?_
  exact Ev.pos (by trivial) (Ev.const rfl)
theorem same_l0 (f : S25 → S25 → Bool) (a0 : Int) (a1 : Bool) (a2 : Int) (a3 : ByteArray) (a4 : List S25) (b0 : Int) (b1 : Bool) (b2 : Int) (b3 : ByteArray) (b4 : List S25) (hl : a4.length = b4.length) (hm : a4.length * 64 ≤ 140737488351232)
    (hf : ∀ x ∈ a4, ∀ y ∈ b4, Ev (fun k => glossatorlaw13_same.f k x.f0 x.f1 x.f2 x.f3 x.f4 y.f0 y.f1 y.f2 y.f3 y.f4) (f x y)) :
    ∀ (d j : Nat), j + d = a4.length → Ev (fun k => glossatorlaw13_same.l0 k (j : Int) a0 a1 a2 a3 a4 b0 b1 b2 b3 b4) (Each.eqL f (a4.drop j) (b4.drop j)) := by
  intro d
  induction d with
  | zero =>
    intro j hj
    refine Ev.step (fun k => by simp only [glossatorlaw13_same.l0]; rfl) (Ev.neg (by omega) (Ev.const ?_))
    rw [List.drop_of_length_le (by omega), List.drop_of_length_le (by omega)]; rfl
  | succ d ih =>
    intro j hj
    have h1 : j < a4.length := by omega
    have h2 : j < b4.length := by omega
    refine Ev.step (fun k => by simp only [glossatorlaw13_same.l0]; rfl) (Ev.pos (by omega) (Ev.pos (by omega) (Ev.pos (by omega) ?_)))
    rw [rdT_get a4 j h1, rdT_get b4 j h2, wrap_id (by omega) (by omega)]
    refine Ev.bind (hf _ (List.getElem_mem h1) _ (List.getElem_mem h2)) ?_
    rw [List.drop_eq_getElem_cons h1, List.drop_eq_getElem_cons h2]
    simp only [Each.eqL]
    by_cases hq : f a4[j] b4[j] = true
    · refine Ev.pos hq (Ev.res (ih (j + 1) (by omega)) ?_)
      rw [hq]; rfl
    · refine Ev.neg hq (Ev.const ?_)
      rw [Bool.eq_false_iff.2 hq]; rfl
theorem same_f : ∀ (m : Nat) (a b : S25), dep25 a < m → wfS25 a → wfS25 b → Ev (fun k => glossatorlaw13_same.f k a.f0 a.f1 a.f2 a.f3 a.f4 b.f0 b.f1 b.f2 b.f3 b.f4) (Each.eqF T25 m a b) := by
  intro m
  induction m with
  | zero => intro a b h; omega
  | succ m ih =>
    rintro ⟨a0, a1, a2, a3, a4⟩ ⟨b0, b1, b2, b3, b4⟩ hd ha hb
    obtain ⟨hla, hwa⟩ := wf_kids ha
    obtain ⟨hlb, hwb⟩ := wf_kids hb
    have e : Each.eqF T25 (m + 1) ⟨a0, a1, a2, a3, a4⟩ ⟨b0, b1, b2, b3, b4⟩ = (a0 == b0 && a1 == b1 && a2 == b2 && a3.toList == b3.toList && Each.eqL (Each.eqF T25 m) a4 b4) := rfl
    rw [e]
    refine Ev.step (fun k => by simp only [glossatorlaw13_same.f]; rfl) ?_
    by_cases c0 : a0 = b0
    · refine Ev.pos c0 ?_
      by_cases c1 : a1 = b1
      · refine Ev.neg (by simp [c1]) ?_
        by_cases c2 : a2 = b2
        · refine Ev.pos c2 ?_
          by_cases c3 : a3.toList = b3.toList
          · refine Ev.pos c3 ?_
            by_cases c4 : a4.length = b4.length
            · rw [show ((a4.length : Int) != (b4.length : Int)) = false by simp [c4]]
              refine Ev.step (fun k => by simp only [glossatorlaw13_same.j0]; rfl) (Ev.neg (by simp) (Ev.res (same_l0 (Each.eqF T25 m) a0 a1 a2 a3 a4 b0 b1 b2 b3 b4 c4 hla (fun x hx y hy => ih x y (by have := dep_kid (f0 := a0) (f1 := a1) (f2 := a2) (f3 := a3) hx; omega) (hwa x hx) (hwb y hy)) a4.length 0 (by omega)) ?_))
              simp [c0, c1, c2, c3]
            · rw [show ((a4.length : Int) != (b4.length : Int)) = true by simp; omega, Each.eqL_len _ _ _ c4, Bool.and_false]
              exact same_j0t ..
          · refine Ev.neg c3 (Ev.res (same_j0t ..) ?_)
            simp [c3]
        · refine Ev.neg c2 (Ev.res (same_j0t ..) ?_)
          simp [c2]
      · refine Ev.pos (by simpa using c1) (Ev.res (same_j0t ..) ?_)
        simp [c1]
    · refine Ev.neg c0 (Ev.res (same_j0t ..) ?_)
      simp [c0]
theorem eqL_refl (f : S25 → S25 → Bool) : ∀ (l : List S25), (∀ x ∈ l, f x x = true) → Each.eqL f l l = true
  | [], _ => rfl
  | x :: l, h => by simp only [Each.eqL, h x (by simp), eqL_refl f l (fun y hy => h y (by simp [hy])), Bool.and_self]
theorem eqF_refl : ∀ (m : Nat) (a : S25), dep25 a < m → Each.eqF T25 m a a = true := by
  intro m
  induction m with
  | zero => intro a h; omega
  | succ m ih =>
    rintro ⟨a0, a1, a2, a3, a4⟩ hd
    have e : Each.eqF T25 (m + 1) ⟨a0, a1, a2, a3, a4⟩ ⟨a0, a1, a2, a3, a4⟩ = (a0 == a0 && a1 == a1 && a2 == a2 && a3.toList == a3.toList && Each.eqL (Each.eqF T25 m) a4 a4) := rfl
    rw [e, eqL_refl _ _ (fun x hx => ih x (by have := dep_kid (f0 := a0) (f1 := a1) (f2 := a2) (f3 := a3) hx; omega))]
    simp
theorem gat_bd : ∀ (l : List Int) (n : Int), 0 ≤ n → n < 18446744073709551616 → 0 ≤ Wr.gatF l n ∧ Wr.gatF l n < 18446744073709551616
  | [], n, h0, h1 => ⟨h0, h1⟩
  | c :: l, n, _, _ => by
    have hb : ∀ a b : Int, 0 ≤ Go.bits .or .u64 a b ∧ Go.bits .or .u64 a b < 18446744073709551616 := fun a b => by
      have : Go.bits .or .u64 a b = IntKind.u64.wrap (((BitVec.ofInt 64 a ||| BitVec.ofInt 64 b).toNat : Nat) : Int) := rfl
      rw [this]; simp only [IntKind.wrap, IntKind.bits, IntKind.signed]; simp; omega
    exact gat_bd l _ (hb _ _).1 (hb _ _).2
def num (s : ByteArray) : Int := Wr.gatF (bytesOf s) 0
theorem num_bd (s : ByteArray) : 0 ≤ num s ∧ num s < 18446744073709551616 := gat_bd _ 0 (by omega) (by omega)
theorem gather_f (s : ByteArray) (h : s.size ≤ 140737488351232) : pack_gather.f s = some (num s) := by unfold pack_gather.f; rw [if_pos h]; rfl
theorem bt_get (s : ByteArray) (j : Nat) (h : j < s.size) : bt s (j : Int) = (bytesOf s)[j]'(by rw [bytesOf_length]; exact h) := by
  unfold bt
  rw [dif_pos (by simpa using h)]
  simp only [Int.toNat_natCast, bytesOf, List.getElem_map]
  rfl
theorem number_l0 (s : ByteArray) (hs : s.size ≤ 140737488351232) : ∀ (d j : Nat) (n : Int), j + d = s.size → Ev (fun k => glossatorref13_number.l0 k s n (j : Int)) (Wr.gatF ((bytesOf s).drop j) n) := by
  intro d
  induction d with
  | zero =>
    intro j n hj
    refine Ev.step (fun k => by simp only [glossatorref13_number.l0]; rfl) (Ev.neg (by omega) (Ev.const ?_))
    rw [List.drop_of_length_le (by rw [bytesOf_length]; omega)]; rfl
  | succ d ih =>
    intro j n hj
    refine Ev.step (fun k => by simp only [glossatorref13_number.l0]; rfl) (Ev.pos (by omega) (Ev.pos (by omega) ?_))
    rw [wrap_id (by omega) (by omega), bt_get s j (by omega), List.drop_eq_getElem_cons (by rw [bytesOf_length]; omega)]
    exact ih (j + 1) _ (by omega)
theorem number_f (s : ByteArray) (hs : s.size ≤ 140737488351232) : Ev (fun k => glossatorref13_number.f k s) (num s) := by
  refine Ev.congr (fun k => by unfold glossatorref13_number.f; rfl) ?_
  exact number_l0 s hs s.size 0 0 (by omega)
def timS (s : ByteArray) : Int × Int × Bool :=
  if s.size = 12 then (if num (s.extract 0 4) ≥ 1000000000 then (0, 0, false) else (wrap64 (num (s.extract 4 s.size)), num (s.extract 0 4) % 4294967296, true))
  else if s.size = 8 then (if num s / 17179869184 ≥ 1000000000 then (0, 0, false) else (wrap64 (num s % 17179869184), num s / 17179869184 % 4294967296, true))
  else if s.size = 4 then (wrap64 (num s), 0, true) else (0, 0, false)
theorem ext_size (s : ByteArray) (a b : Nat) (h : s.size ≤ 140737488351232) : (s.extract a b).size ≤ 140737488351232 := by
  simp only [ByteArray.size_extract]; omega
theorem tim_t (x0 : Int) (x1 : Bool) (x2 : Int) (s : ByteArray) (l : List S25) : Ev (fun k => pack_Time.j0 k true x0 x1 x2 s l) (0, 0, false) := by
  refine Ev.step (fun k => by simp only [pack_Time.j0]; rfl) ?_
  exact Ev.pos (by trivial) (Ev.const rfl)
theorem tim_j (x0 : Int) (x1 : Bool) (x2 : Int) (s : ByteArray) (l : List S25) (hs : s.size ≤ 140737488351232) : Ev (fun k => pack_Time.j0 k false x0 x1 x2 s l) (timS s) := by
  refine Ev.step (fun k => by simp only [pack_Time.j0]; rfl) ?_
  refine Ev.neg (by simp) ?_
  unfold timS
  by_cases h12 : s.size = 12
  · rw [if_pos h12]
    refine Ev.pos (by omega) (Ev.pos (by omega) (Ev.pos (by omega) (Ev.pre (gather_f _ (ext_size s 0 4 hs)) (Ev.pre (gather_f _ (ext_size s 4 s.size hs)) ?_))))
    by_cases h : num (s.extract 0 4) ≥ 1000000000
    · exact Ev.pos h (Ev.const (by rw [if_pos h]))
    · exact Ev.neg h (Ev.const (by rw [if_neg h]))
  · rw [if_neg h12]
    refine Ev.neg (by omega) ?_
    by_cases h8 : s.size = 8
    · rw [if_pos h8]
      refine Ev.pos (by omega) (Ev.pre (gather_f s hs) ?_)
      have hb := num_bd s
      by_cases h : num s / 17179869184 ≥ 1000000000
      · exact Ev.pos h (Ev.const (by rw [if_pos h]))
      · refine Ev.neg h (Ev.const ?_)
        rw [if_neg h, wrap_u64', show num s * 1073741824 % 18446744073709551616 / 1073741824 = num s % 17179869184 by omega]
    · rw [if_neg h8]
      refine Ev.neg (by omega) ?_
      by_cases h4 : s.size = 4
      · rw [if_pos h4]
        exact Ev.pos (by omega) (Ev.pre (gather_f s hs) (Ev.neg (by decide) (Ev.const rfl)))
      · rw [if_neg h4]
        exact Ev.neg (by omega) (Ev.const rfl)
theorem rtim_t (x0 : Int) (x1 : Bool) (x2 : Int) (s : ByteArray) (l : List S25) : Ev (fun k => glossatorref13_Time.j0 k true x0 x1 x2 s l) (0, 0, false) := by
  refine Ev.step (fun k => by simp only [glossatorref13_Time.j0]; rfl) ?_
  exact Ev.pos (by trivial) (Ev.const rfl)
theorem rtim_j (x0 : Int) (x1 : Bool) (x2 : Int) (s : ByteArray) (l : List S25) (hs : s.size ≤ 140737488351232) : Ev (fun k => glossatorref13_Time.j0 k false x0 x1 x2 s l) (timS s) := by
  refine Ev.step (fun k => by simp only [glossatorref13_Time.j0]; rfl) ?_
  refine Ev.neg (by simp) ?_
  unfold timS
  by_cases h4 : s.size = 4
  · rw [if_neg (by omega), if_neg (by omega), if_pos h4]
    exact Ev.pos (by omega) (Ev.bind (number_f s hs) (Ev.neg (by decide) (Ev.const rfl)))
  · refine Ev.neg (by omega) ?_
    by_cases h8 : s.size = 8
    · rw [if_neg (by omega), if_pos h8]
      refine Ev.pos (by omega) (Ev.bind (number_f s hs) (Ev.bind (number_f s hs) ?_))
      have hb := num_bd s
      by_cases h : num s / 17179869184 ≥ 1000000000
      · exact Ev.pos h (Ev.const (by rw [if_pos h]))
      · refine Ev.neg h (Ev.const ?_)
        rw [if_neg h, mask64' 34 (by omega) (by decide) hb.1 hb.2]
        rfl
    · refine Ev.neg (by omega) ?_
      by_cases h12 : s.size = 12
      · rw [if_pos h12]
        refine Ev.pos (by omega) (Ev.pos (by omega) (Ev.pos (by omega) (Ev.bind (number_f _ (ext_size s 0 4 hs)) (Ev.bind (number_f _ (ext_size s 4 s.size hs)) ?_))))
        by_cases h : num (s.extract 0 4) ≥ 1000000000
        · exact Ev.pos h (Ev.const (by rw [if_pos h]))
        · exact Ev.neg h (Ev.const (by rw [if_neg h]))
      · rw [if_neg h12, if_neg h8, if_neg h4]
        exact Ev.neg (by omega) (Ev.const rfl)
def tim (k : Int) (b : Bool) (n : Int) (s : ByteArray) (l : List S25) : Int × Int × Bool := if k = 14 ∧ n = 255 ∧ b = false ∧ l = [] then timS s else (0, 0, false)
theorem time_f (a0 : Int) (a1 : Bool) (a2 : Int) (a3 : ByteArray) (a4 : List S25) (hs : a3.size ≤ 140737488351232) : Ev (fun k => pack_Time.f k a0 a1 a2 a3 a4) (tim a0 a1 a2 a3 a4) := by
  refine Ev.congr (fun k => by unfold pack_Time.f; rfl) ?_
  unfold tim
  by_cases h0 : a0 = 14
  · refine Ev.pos h0 ?_
    by_cases h2 : a2 = 255
    · refine Ev.pos h2 ?_
      cases a1 with
      | true => rw [if_neg (by simp)]; exact Ev.pos rfl (tim_t ..)
      | false =>
        refine Ev.neg (by simp) ?_
        cases a4 with
        | nil => rw [if_pos ⟨h0, h2, rfl, rfl⟩]; exact tim_j _ _ _ _ _ hs
        | cons x l => rw [if_neg (by simp), show decide (((x :: l).length : Int) > 0) = true from decide_eq_true (by simp only [List.length_cons]; omega)]; exact tim_t ..
    · rw [if_neg (fun h => h2 h.2.1)]; exact Ev.neg h2 (tim_t ..)
  · rw [if_neg (fun h => h0 h.1)]; exact Ev.neg h0 (tim_t ..)
theorem rtime_f (a0 : Int) (a1 : Bool) (a2 : Int) (a3 : ByteArray) (a4 : List S25) (hs : a3.size ≤ 140737488351232) : Ev (fun k => glossatorref13_Time.f k a0 a1 a2 a3 a4) (tim a0 a1 a2 a3 a4) := by
  refine Ev.congr (fun k => by unfold glossatorref13_Time.f; rfl) ?_
  unfold tim
  by_cases h0 : a0 = 14
  · refine Ev.pos h0 ?_
    by_cases h2 : a2 = 255
    · refine Ev.pos h2 ?_
      cases a1 with
      | true => rw [if_neg (by simp)]; exact Ev.pos rfl (rtim_t ..)
      | false =>
        refine Ev.neg (by simp) ?_
        cases a4 with
        | nil => rw [if_pos ⟨h0, h2, rfl, rfl⟩]; exact rtim_j _ _ _ _ _ hs
        | cons x l => rw [if_neg (by simp), show (((x :: l).length : Int) != 0) = true by simp only [List.length_cons, bne_iff_ne]; omega]; exact rtim_t ..
    · rw [if_neg (fun h => h2 h.2.1)]; exact Ev.neg h2 (rtim_t ..)
  · rw [if_neg (fun h => h0 h.1)]; exact Ev.neg h0 (rtim_t ..)
def frT (x n : Int) : Int × Bool × Int × ByteArray × List S25 × Int :=
  if 1000000000 ≤ n then (0, false, 0, ⟨#[]⟩, [], 1) else (14, false, 255, strOfNums (Wr.ftB (IntKind.u64.wrap x) n), [], 0)
theorem strs_app (a b : List Int) : strOfNums a ++ strOfNums b = strOfNums (a ++ b) := by
  apply ByteArray.ext
  rw [ByteArray.data_append]
  simp [strOfNums]
theorem outR_drop (n : Int) : ∀ (j d : Nat), (Wr.outR n (j + d)).drop j = Wr.outR n d
  | 0, d => by simp
  | j + 1, d => by rw [show j + 1 + d = (j + d) + 1 by omega, Wr.outR, List.drop_succ_cons, outR_drop n j d]
theorem rfrom_j1 (x0 x1 X : Int) (b : Bool) (hX : IntKind.u64.wrap x0 = X) (h0 : 0 ≤ x1) (h1 : x1 < 1000000000) :
    Ev (fun k => glossatorref13_FromTime.j1 k x0 x1 (0 % 256 :: Wr.outR X 8) b 14 false 255 ⟨#[]⟩) (14, false, 255, strOfNums (if b = true then Wr.outR (Go.bits .or .u64 (x1 * 17179869184) X) 8 else Wr.outR x1 4 ++ Wr.outR X 8), [], 0) := by
  refine Ev.step (fun k => by simp only [glossatorref13_FromTime.j1]; rfl) ?_
  have hu : IntKind.u64.wrap x1 = x1 := by rw [wrap_u64']; omega
  have hu2 : IntKind.u64.wrap (x1 * 17179869184) = x1 * 17179869184 := by rw [wrap_u64']; omega
  rw [hu, hu2, hX]
  cases b with
  | true =>
    refine Ev.pos (by rfl) (Ev.bind (big13_f 0 _ ?_ 8 (by omega)) (Ev.pos (by simp; omega) (Ev.const ?_)))
    · have : Go.bits .or .u64 (x1 * 17179869184) X = IntKind.u64.wrap (((BitVec.ofInt 64 (x1 * 17179869184) ||| BitVec.ofInt 64 X).toNat : Nat) : Int) := rfl
      rw [this, wrap_u64']; omega
    · rfl
  | false =>
    refine Ev.neg (by simp) (Ev.bind (big13_f 0 x1 h0 4 (by omega)) (Ev.pos (by simp; omega) (Ev.pre rfl (Ev.pos (by simp; omega) (Ev.pre rfl (Ev.pos ?_ (Ev.const ?_)))))))
    · rw [strs_size, strs_size]; simp [Wr.outR_len]
    · rw [strs_app]; rfl
theorem rfrom_f (x n : Int) (hx0 : -9223372036854775808 ≤ x) (hx1 : x ≤ 9223372036854775807) (h0 : 0 ≤ n) : Ev (fun k => glossatorref13_FromTime.f k x n) (frT x n) := by
  refine Ev.congr (fun k => by unfold glossatorref13_FromTime.f; rfl) ?_
  unfold frT
  by_cases hn : 1000000000 ≤ n
  · rw [if_pos hn]; exact Ev.pos hn (Ev.const rfl)
  · rw [if_neg hn]
    obtain ⟨X, hX⟩ : ∃ X, IntKind.u64.wrap x = X := ⟨_, rfl⟩
    have hX2 : X = x % 18446744073709551616 := by rw [← hX, wrap_u64']
    rw [hX]
    refine Ev.neg hn (Ev.bind (big13_f 0 X (by omega) 8 (by omega)) ?_)
    have hj0t : x ≥ 0 → x < 4294967296 → n = 0 → Ev (fun k => glossatorref13_FromTime.j0 k x n (0 % 256 :: Wr.outR X 8) true 14 false 255 ⟨#[]⟩) (14, false, 255, strOfNums (Wr.ftB X n), [], 0) := by
      intro g1 g2 g3
      refine Ev.step (fun k => by simp only [glossatorref13_FromTime.j0]; rfl) (Ev.pos (by trivial) (Ev.pos (by simp [Wr.outR_len]) (Ev.const ?_)))
      rw [Wr.ftB, if_neg (by omega), if_neg (by omega), List.drop_succ_cons, outR_drop X 4 4]
    have hj0f : ¬ (x ≥ 0 ∧ x < 4294967296 ∧ n = 0) → Ev (fun k => glossatorref13_FromTime.j0 k x n (0 % 256 :: Wr.outR X 8) false 14 false 255 ⟨#[]⟩) (14, false, 255, strOfNums (Wr.ftB X n), [], 0) := by
      intro g
      refine Ev.step (fun k => by simp only [glossatorref13_FromTime.j0]; rfl) (Ev.neg (by simp) ?_)
      by_cases g1 : x ≥ 0
      · refine Ev.pos g1 (Ev.res (rfrom_j1 x n X _ hX h0 (by omega)) ?_)
        by_cases g2 : x < 17179869184
        · rw [if_pos (decide_eq_true g2), Wr.ftB, if_neg (by omega), if_pos (by omega)]
        · rw [if_neg (by simpa using g2), Wr.ftB, if_pos (by omega)]
      · refine Ev.neg g1 (Ev.res (rfrom_j1 x n X false hX h0 (by omega)) ?_)
        rw [if_neg (by simp), Wr.ftB, if_pos (by omega)]
    by_cases g1 : x ≥ 0
    · refine Ev.pos g1 ?_
      by_cases g2 : x < 4294967296
      · refine Ev.pos g2 ?_
        by_cases g3 : n = 0
        · rw [show (n == 0) = true by simp [g3]]; exact hj0t g1 g2 g3
        · rw [show (n == 0) = false by simp [g3]]; exact hj0f (fun h => g3 h.2.2)
      · exact Ev.neg g2 (hj0f (fun h => g2 h.2.1))
    · exact Ev.neg g1 (hj0f (fun h => g1 h.1))
theorem from_f (x n : Int) (h0 : 0 ≤ n) : pack_FromTime.f x n = some (frT x n) := by
  unfold pack_FromTime.f frT
  by_cases h : 1000000000 ≤ n
  · rw [if_pos h, if_pos h]
  · rw [if_neg h, if_neg h, if_pos h0]
theorem ftB_len (x n : Int) : (Wr.ftB x n).length ≤ 12 := by
  unfold Wr.ftB
  repeat' split
  all_goals simp [Wr.outR_len]
theorem PackTimes : glossatorlaw13_PackTimes.Pure := by
  intro a0 a1 a2 a3 a4 x n ha hx hn
  have hx2 := wf_i64 hx
  have hn2 : 0 ≤ n ∧ n < 4294967296 := by simp [Lit.wf, IntKind.min, IntKind.max, IntKind.signed, IntKind.bits] at hn; omega
  have h3 : a3.size ≤ 140737488351232 := by rw [wfS25] at ha; exact ha.2.2.2.1
  refine Ev.rounds (Ev.congr (fun k => by unfold glossatorlaw13_PackTimes.f; rfl) ?_)
  refine Ev.bind (time_f a0 a1 a2 a3 a4 h3) (Ev.bind (rtime_f a0 a1 a2 a3 a4 h3) (Ev.pre (from_f x n hn2.1) (Ev.bind (rfrom_f x n hx2.1 hx2.2 hn2.1) ?_)))
  refine Ev.pos (by rfl) (Ev.pos (by rfl) (Ev.pos (by simp) ?_))
  have hw : wfS25 ⟨(frT x n).1, (frT x n).2.1, (frT x n).2.2.1, (frT x n).2.2.2.1, (frT x n).2.2.2.2.1⟩ := by
    have hl := ftB_len (IntKind.u64.wrap x) n
    unfold frT
    split
    · rw [wfS25]; exact ⟨by decide, trivial, by decide, by decide, by simp, (wfL25_iff _).2 (by simp)⟩
    · rw [wfS25]; refine ⟨(by decide : (Lit.int .i64 14).wf = true), trivial, (by decide : (Lit.int .u64 255).wf = true), ?_, by simp, (wfL25_iff _).2 (by simp)⟩
      show (strOfNums _).size ≤ _
      rw [strs_size]; omega
  have he := same_f (dep25 ⟨(frT x n).1, (frT x n).2.1, (frT x n).2.2.1, (frT x n).2.2.2.1, (frT x n).2.2.2.2.1⟩ + 1) _ _ (Nat.lt_succ_self _) hw hw
  rw [eqF_refl _ _ (Nat.lt_succ_self _)] at he
  exact Ev.bind he (Ev.pos (by rfl) (Ev.pos (by rfl) (Ev.bind awake_t (Ev.const rfl))))
end Go.Proofs.Ytchklgkakefhbaa.Pure
