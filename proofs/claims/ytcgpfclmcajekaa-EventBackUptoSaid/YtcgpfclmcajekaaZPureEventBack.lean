-- Out of texts of this seat by a program of this session: what the claim does not reach is struck
import Derived.Test.YtcgpfclmcajekaaZPEventBackx10
import Derived.Test.YtcgpfclmcajekaaZUtf
namespace Go.Proofs.Ytcgpfclmcajekaa.Pure
open Go.RowKit Go.Proofs.Ytcgpfclmcajekaa.PEventBack Go.Proofs.YtcgpfclmcajekaaW.PrintWords Go.Proofs.YtcgpfclmcajekaaW.PrintLast Go.Proofs.YtcgpfclmcajekaaW.PrintMore
theorem Ev.pos {α : Type} {c : Prop} [Decidable c] {f g : Nat → Option α} {r : α} (h : c) (k : Ev f r) : Ev (fun n => if c then f n else g n) r := Ev.congr (fun _ => if_pos h) k
theorem Ev.neg {α : Type} {c : Prop} [Decidable c] {f g : Nat → Option α} {r : α} (h : ¬ c) (k : Ev g r) : Ev (fun n => if c then f n else g n) r := Ev.congr (fun _ => if_neg h) k
theorem Ev.const {α : Type} {x : Option α} {r : α} (h : x = some r) : Ev (fun _ => x) r := ⟨0, fun _ _ => h⟩
theorem Ev.pre {α β : Type} {x : Option α} {a : α} {f : Nat → α → Option β} {r : β} (h : x = some a) (k : Ev (fun n => f n a) r) : Ev (fun n => x.bind (f n)) r := Ev.congr (fun _ => by rw [h]; rfl) k
theorem Ev.res {α : Type} {g : Nat → Option α} {r r' : α} (k : Ev g r') (e : r' = r) : Ev g r := e ▸ k
theorem wrap_id {x : Int} (h0 : -9223372036854775808 ≤ x) (h1 : x ≤ 9223372036854775807) : wrap64 x = x := by unfold wrap64; omega
theorem wf_u64 {n : Int} (h : (Lit.int .u64 n).wf = true) : 0 ≤ n ∧ n ≤ 18446744073709551615 := by
  simp [Lit.wf, IntKind.min, IntKind.max, IntKind.signed, IntKind.bits] at h; omega
theorem wf_kids {f0 : Int} {f1 : Bool} {f2 : Int} {f3 : ByteArray} {l : List S25} (h : wfS25 ⟨f0, f1, f2, f3, l⟩) : l.length * 64 ≤ 140737488351232 ∧ ∀ y ∈ l, wfS25 y := by
  simp only [wfS25] at h
  exact ⟨h.2.2.2.2.1, (wfL25_iff _).1 h.2.2.2.2.2⟩
theorem rdT_get (xs : List S25) (j : Nat) (h : j < xs.length) : rd_T25 xs (j : Int) = xs[j] := by
  simp [rd_T25, List.getElem?_eq_getElem h]
theorem dep_kid {f0 : Int} {f1 : Bool} {f2 : Int} {f3 : ByteArray} {l : List S25} {y : S25} (h : y ∈ l) : dep25 y < dep25 ⟨f0, f1, f2, f3, l⟩ := by
  have := dep25_mem l y h; simp only [dep25]; omega
mutual
def cnt : S25 → Nat
  | ⟨_, _, _, _, l⟩ => cntL l + 1
def cntL : List S25 → Nat
  | [] => 0
  | x :: l => cnt x + cntL l
end
mutual
def subs : S25 → List S25
  | ⟨a, b, c, d, l⟩ => ⟨a, b, c, d, l⟩ :: subsL l
def subsL : List S25 → List S25
  | [] => []
  | x :: l => subs x ++ subsL l
end
mutual
theorem subs_len : ∀ x : S25, (subs x).length = cnt x
  | ⟨a, b, c, d, l⟩ => by simp only [subs, cnt, List.length_cons, subsL_len l]
theorem subsL_len : ∀ l : List S25, (subsL l).length = cntL l
  | [] => rfl
  | x :: l => by simp only [subsL, cntL, List.length_append, subs_len x, subsL_len l]
end
theorem nodesL_subs (f : List Int → S25 → List (List Int × S25)) (p : List Int) : ∀ (l : List S25) (i : Nat), (∀ y ∈ l, ∀ q, (f q y).map (·.2) = subs y) → (Each.Tree.nodesL f p l i).map (·.2) = subsL l
  | [], _, _ => rfl
  | y :: l, i, h => by simp only [Each.Tree.nodesL, List.map_append, subsL, h y (by simp), nodesL_subs f p l (i + 1) (fun z hz => h z (by simp [hz]))]
theorem nodes_subs : ∀ (m : Nat) (x : S25) (p : List Int), dep25 x < m → (T25.nodes m p x).map (·.2) = subs x := by
  intro m
  induction m with
  | zero => intro x p h; omega
  | succ m ih =>
    rintro ⟨a, b, c, d, l⟩ p h
    have e : T25.nodes (m + 1) p ⟨a, b, c, d, l⟩ = (p, ⟨a, b, c, d, l⟩) :: Each.Tree.nodesL (T25.nodes m) p l 0 := rfl
    rw [e, List.map_cons, nodesL_subs _ _ _ _ (fun y hy q => ih y q (by have := dep_kid (f0 := a) (f1 := b) (f2 := c) (f3 := d) hy; omega))]
    rfl
theorem nodes_len (x : S25) (p : List Int) : (T25.nodes (dep25 x + 1) p x).length = cnt x := by
  rw [← subs_len, ← nodes_subs _ x p (Nat.lt_succ_self _), List.length_map]
mutual
theorem dep_sz : ∀ x : S25, dep25 x ≤ szS25 x
  | ⟨a, b, c, d, l⟩ => by have := depL_sz l; simp only [dep25, szS25]; omega
theorem depL_sz : ∀ l : List S25, depL25 l ≤ szL25 l
  | [] => Nat.le_refl _
  | x :: l => by have := dep_sz x; have := depL_sz l; simp only [depL25, szL25]; omega
end
mutual
theorem cnt_sz : ∀ x : S25, cnt x ≤ szS25 x
  | ⟨a, b, c, d, l⟩ => by have := cntL_sz l; simp only [cnt, szS25]; omega
theorem cntL_sz : ∀ l : List S25, cntL l ≤ szL25 l
  | [] => Nat.le_refl _
  | x :: l => by have := cnt_sz x; have := cntL_sz l; simp only [cntL, szL25]; omega
end
theorem cnt_pos : ∀ x : S25, 1 ≤ cnt x
  | ⟨_, _, _, _, l⟩ => by simp only [cnt]; omega
def leafR (k : Int) : Bool := decide (k ≠ 11 ∧ k ≠ 12 ∧ k ≠ 13)
mutual
def depR : S25 → Int
  | ⟨k, _, _, _, l⟩ => if leafR k = true then (if k = 5 then 1 else 0) else depRL l + 1
def depRL : List S25 → Int
  | [] => 0
  | x :: l => max (depR x) (depRL l)
end
mutual
theorem depR_pos : ∀ x : S25, 0 ≤ depR x ∧ depR x ≤ dep25 x
  | ⟨k, _, _, _, l⟩ => by
    have := depRL_pos l
    simp only [depR, dep25]
    by_cases h : leafR k = true
    · rw [if_pos h]; by_cases h5 : k = 5
      · rw [if_pos h5]; omega
      · rw [if_neg h5]; omega
    · rw [if_neg h]; omega
theorem depRL_pos : ∀ l : List S25, 0 ≤ depRL l ∧ depRL l ≤ depL25 l
  | [] => by simp [depRL, depL25]
  | x :: l => by have := depR_pos x; have := depRL_pos l; simp only [depRL, depL25]; omega
end
theorem leaf_f (a0 : Int) (a1 : Bool) (a2 : Int) (a3 : ByteArray) (a4 : List S25) : value_Leaf.f a0 a1 a2 a3 a4 = some (leafR a0) := by
  unfold value_Leaf.f leafR
  by_cases h1 : a0 = 11
  · rw [if_pos h1]; simp [h1]
  · by_cases h2 : a0 = 12
    · rw [if_neg h1, if_pos h2]; simp [h2]
    · by_cases h3 : a0 = 13
      · rw [if_neg h1, if_neg h2, if_pos h3]; simp [h3]
      · rw [if_neg h1, if_neg h2, if_neg h3]; simp [h1, h2, h3]
theorem mx_max (a b : Int) : mx a b = max a b := by unfold mx; omega
theorem depth_l0 (l : List S25) (hl : l.length * 64 ≤ 140737488351232) (hd : depL25 l ≤ 9000000000000000000) (hf : ∀ x ∈ l, Ev (fun k => value_Depth.f k x.f0 x.f1 x.f2 x.f3 x.f4) (depR x)) :
    ∀ (d j : Nat) (a : Int), j + d = l.length → 0 ≤ a → a ≤ 9000000000000000000 → Ev (fun k => value_Depth.l0 k a l (l.length : Int) (j : Int)) (max a (depRL (l.drop j)) + 1) := by
  intro d
  induction d with
  | zero =>
    intro j a hj h0 h1
    refine Ev.step (fun k => by simp only [value_Depth.l0]; rfl) (Ev.neg (by omega) (Ev.const ?_))
    rw [List.drop_of_length_le (by omega), wrap_id (by omega) (by omega)]
    simp only [depRL]
    rw [show max a 0 = a by omega]
  | succ d ih =>
    intro j a hj h0 h1
    have hlt : j < l.length := by omega
    have hb := depR_pos l[j]
    have hm := dep25_mem l l[j] (List.getElem_mem hlt)
    refine Ev.step (fun k => by simp only [value_Depth.l0]; rfl) (Ev.pos (by omega) (Ev.pos (by omega) (Ev.pos (by omega) ?_)))
    rw [rdT_get l j hlt, wrap_id (by omega) (by omega)]
    refine Ev.bind (hf _ (List.getElem_mem hlt)) ?_
    rw [mx_max]
    refine Ev.res (ih (j + 1) _ (by omega) (by omega) (by omega)) ?_
    rw [List.drop_eq_getElem_cons hlt]
    simp only [depRL]
    omega
theorem depth_f : ∀ (m : Nat) (x : S25), dep25 x < m → m ≤ 9000000000000000000 → wfS25 x → Ev (fun k => value_Depth.f k x.f0 x.f1 x.f2 x.f3 x.f4) (depR x) := by
  intro m
  induction m with
  | zero => intro x h; omega
  | succ m ih =>
    rintro ⟨a0, a1, a2, a3, a4⟩ hd hm hw
    obtain ⟨hl, hk⟩ := wf_kids hw
    refine Ev.step (fun k => by simp only [value_Depth.f]; rfl) (Ev.pre (leaf_f a0 a1 a2 a3 a4) ?_)
    simp only [depR]
    by_cases h : leafR a0 = true
    · rw [if_pos h]
      refine Ev.pos h ?_
      by_cases h5 : a0 = 5
      · exact Ev.pos h5 (Ev.const (by rw [if_pos h5]))
      · exact Ev.neg h5 (Ev.const (by rw [if_neg h5]))
    · rw [if_neg h]
      have hdl : depL25 a4 < m := by simp only [dep25] at hd; omega
      refine Ev.neg h (Ev.res (depth_l0 a4 hl (by omega) (fun x hx => ih x (by have := dep25_mem a4 x hx; omega) (by omega) (hk x hx)) a4.length 0 0 (by omega) (by omega) (by omega)) ?_)
      have := depRL_pos a4
      rw [List.drop_zero]; omega
def bigR (s : ByteArray) : Bool := decide (8 < (s.size : Int) ∧ (s.size : Int) ≤ 512) && (bt s 0 != 0)
theorem big_f (s : ByteArray) : value_big.f s = some (bigR s) := by
  unfold value_big.f bigR
  by_cases h1 : (s.size : Int) > 8
  · rw [if_pos h1]
    by_cases h2 : (s.size : Int) ≤ 512
    · rw [if_pos h2, if_pos (by omega)]; simp [show 8 < (s.size : Int) by omega, h2]
    · rw [if_neg h2]; simp [h2]
  · rw [if_neg h1]; simp [show ¬ 8 < (s.size : Int) by omega]
def bitsR (k : Int) : Nat := if k = 1 then 1 else if k = 6 then 16 else if k = 7 then 32 else if k = 4 ∨ k = 8 ∨ k = 13 then 64 else if k = 3 ∨ k = 14 then 8 else 0
def oneR (y : S25) : Bool :=
  decide (0 ≤ y.f0 ∧ y.f0 ≤ 14) && !(y.f1 && decide (y.f0 ≠ 4 ∧ y.f0 ≠ 5)) && decide (y.f2 < 2 ^ bitsR y.f0) &&
  (if y.f0 = 10 then (Utf.checkF y.f3).2 == 0 else if y.f0 = 9 ∨ y.f0 = 14 then true else if y.f0 = 5 then bigR y.f3 else
    (y.f3.toList == ([] : List UInt8)) && (if y.f0 = 3 then !decide (19 < y.f2 ∧ y.f2 < 32) else if y.f0 = 12 then decide ((y.f4.length : Int) % 2 = 0) else
      if y.f0 = 13 then decide (y.f4.length = 1) && !(decide (y.f2 / 2 = 1) && decide ((rd_T25 y.f4 0).f0 = 9) && bigR (rd_T25 y.f4 0).f3) else true))
theorem shr_ne (n : Int) (b : Nat) (hb : b ≤ 64) (h0 : 0 ≤ n) : (shr .u64 n (b : Int) != 0) = !decide (n < 2 ^ b) := by
  unfold shr
  rw [Int.toNat_natCast, Nat.min_eq_left (by simpa [IntKind.bits] using hb)]
  have hp : (0 : Int) < 2 ^ b := Int.pow_pos (by decide)
  by_cases h : n < 2 ^ b
  · rw [Int.ediv_eq_zero_of_lt h0 h]; simp [h]
  · have : n / 2 ^ b ≠ 0 := fun e => h (by
      have := Int.lt_ediv_add_one_mul_self n hp
      rw [e] at this; omega)
    simp [h, this]
theorem bits_f (k : Int) (m : Nat) : value_bits.f (m + 1) k = some (bitsR k : Int) := by
  unfold value_bits.f bitsR
  by_cases h1 : k = 1
  · rw [if_pos h1, if_pos h1]; rfl
  by_cases h6 : k = 6
  · rw [if_neg h1, if_neg h1, if_pos h6, if_pos h6]; rfl
  by_cases h7 : k = 7
  · rw [if_neg h1, if_neg h1, if_neg h6, if_neg h6, if_pos h7, if_pos h7]; rfl
  rw [if_neg h1, if_neg h1, if_neg h6, if_neg h6, if_neg h7, if_neg h7]
  by_cases h4 : k = 4
  · rw [if_pos h4, if_pos (.inl h4)]; subst h4; rfl
  by_cases h8 : k = 8
  · rw [if_neg h4, if_pos h8, if_pos (.inr (.inl h8))]; subst h8; rfl
  rw [if_neg h4, if_neg h8]
  by_cases h13 : k = 13
  · rw [if_pos (.inr (.inr h13))]; subst h13; rfl
  rw [if_neg (by omega)]
  have e : (k == 13) = false := by simp [h13]
  rw [e]
  simp only [value_bits.j0]
  by_cases h3 : k = 3
  · rw [if_neg (by simp), if_pos h3, if_pos (.inl h3)]; rfl
  by_cases h14 : k = 14
  · rw [if_neg (by simp), if_neg h3, if_pos h14, if_pos (.inr h14)]; rfl
  rw [if_neg (by simp), if_neg h3, if_neg h14, if_neg (by omega)]; rfl
theorem bitsR_le (k : Int) : bitsR k ≤ 64 := by unfold bitsR; (repeat' split) <;> omega
theorem one_j2 (m : Nat) (k : Int) (neg : Bool) (n : Int) (s : ByteArray) (l : List S25) (_hk : k ≠ 9 ∧ k ≠ 10) :
    value_One.j2 (m + 1) k (k == 14) k neg n s l = some (if k = 14 then true else if k = 5 then bigR s else
    (s.toList == ([] : List UInt8)) && (if k = 3 then !decide (19 < n ∧ n < 32) else if k = 12 then decide ((l.length : Int) % 2 = 0) else
      if k = 13 then decide (l.length = 1) && !(decide (n / 2 = 1) && decide ((rd_T25 l 0).f0 = 9) && bigR (rd_T25 l 0).f3) else true)) := by
  simp only [value_One.j2]
  by_cases h14 : k = 14
  · rw [if_pos (by simp [h14]), if_pos h14]
  rw [if_neg (by simp [h14]), if_neg h14]
  by_cases h5 : k = 5
  · rw [if_pos h5, if_pos h5, big_f]; rfl
  rw [if_neg h5, if_neg h5]
  by_cases h3 : k = 3
  · rw [if_pos h3, if_pos h3]
    by_cases c1 : n > 19
    · rw [if_pos c1]
      by_cases c2 : n < 32
      · rw [if_pos c2]; simp [show 19 < n by omega, c2]
      · rw [if_neg c2]; simp [c2]
    · rw [if_neg c1]; simp [show ¬ 19 < n by omega]
  rw [if_neg h3, if_neg h3]
  by_cases h12 : k = 12
  · rw [if_pos h12, if_pos h12]
    by_cases c1 : (l.length : Int) % 2 = 0
    · rw [if_pos c1]; simp [c1]
    · rw [if_neg c1]; simp [c1]
  rw [if_neg h12, if_neg h12]
  by_cases h13 : k = 13
  · rw [if_pos h13, if_pos h13]
    by_cases c1 : (l.length : Int) = 1
    · have c1' : l.length = 1 := by omega
      rw [if_pos c1]
      by_cases c2 : n / 2 = 1
      · rw [if_pos c2, if_pos (by omega)]
        by_cases c3 : (rd_T25 l 0).f0 = 9
        · rw [if_pos c3, big_f]
          simp only [Option.bind_some]
          by_cases c4 : bigR (rd_T25 l 0).f3 = true
          · rw [if_pos c4]; simp [c1', c2, c3, c4]
          · rw [if_neg c4]; simp [c1', c2, c3, c4]
        · rw [if_neg c3]; simp [c1', c3]
      · rw [if_neg c2]; simp [c1', c2]
    · have c1' : ¬ l.length = 1 := by omega
      rw [if_neg c1]; simp [c1']
  rw [if_neg h13, if_neg h13]; simp
theorem one_j1 (m : Nat) (k : Int) (neg : Bool) (n : Int) (s : ByteArray) (l : List S25) (b : Bool) (hs : s.size ≤ 140737488351232) :
    value_One.j1 (m + 2) (!b) k neg n s l = some (b && (if k = 10 then (Utf.checkF s).2 == 0 else if k = 9 ∨ k = 14 then true else if k = 5 then bigR s else
    (s.toList == ([] : List UInt8)) && (if k = 3 then !decide (19 < n ∧ n < 32) else if k = 12 then decide ((l.length : Int) % 2 = 0) else
      if k = 13 then decide (l.length = 1) && !(decide (n / 2 = 1) && decide ((rd_T25 l 0).f0 = 9) && bigR (rd_T25 l 0).f3) else true))) := by
  rw [show m + 2 = (m + 1) + 1 from rfl]
  simp only [value_One.j1]
  cases b
  · simp
  · rw [if_neg (by simp)]
    by_cases h10 : k = 10
    · rw [if_pos h10, if_pos h10]; unfold utf_Check.f; rw [if_pos hs]; simp
    rw [if_neg h10, if_neg h10]
    by_cases h9 : k = 9
    · rw [if_pos h9, if_pos (.inl h9)]; subst h9; simp [value_One.j2]
    rw [if_neg h9, one_j2 m k neg n s l ⟨h9, h10⟩]
    by_cases h14 : k = 14
    · rw [if_pos h14, if_pos (.inr h14)]; simp
    · rw [if_neg h14, if_neg (show ¬ (k = 9 ∨ k = 14) by omega)]; simp
theorem one_j0 (m : Nat) (k : Int) (neg : Bool) (n : Int) (s : ByteArray) (l : List S25) (hs : s.size ≤ 140737488351232) (hn : 0 ≤ n ∧ n ≤ 18446744073709551615) :
    value_One.j0 (m + 3) false k neg n s l = some (decide (n < 2 ^ bitsR k) && (if k = 10 then (Utf.checkF s).2 == 0 else if k = 9 ∨ k = 14 then true else if k = 5 then bigR s else
    (s.toList == ([] : List UInt8)) && (if k = 3 then !decide (19 < n ∧ n < 32) else if k = 12 then decide ((l.length : Int) % 2 = 0) else
      if k = 13 then decide (l.length = 1) && !(decide (n / 2 = 1) && decide ((rd_T25 l 0).f0 = 9) && bigR (rd_T25 l 0).f3) else true))) := by
  rw [show m + 3 = (m + 2) + 1 from rfl]
  simp only [value_One.j0]
  have hb := bitsR_le k
  rw [if_neg (by simp), show m + 2 = (m + 1) + 1 from rfl, bits_f, Option.bind_some]
  by_cases h : (bitsR k : Int) < 64
  · rw [if_pos h, if_pos (by omega), shr_ne n (bitsR k) hb hn.1]
    exact one_j1 m k neg n s l _ hs
  · rw [if_neg h]
    have e : bitsR k = 64 := by omega
    have e2 : decide (n < 2 ^ bitsR k) = true := by rw [e]; simp; omega
    rw [e2]
    exact one_j1 m k neg n s l true hs
theorem one_f (y : S25) (hw : wfS25 y) : Ev (fun k => value_One.f k y.f0 y.f1 y.f2 y.f3 y.f4) (oneR y) := by
  obtain ⟨k, neg, n, s, l⟩ := y
  simp only [wfS25] at hw
  have hn := wf_u64 hw.2.2.1
  have hs : s.size ≤ 140737488351232 := hw.2.2.2.1
  refine ⟨3, fun q hq => ?_⟩
  obtain ⟨m, rfl⟩ : ∃ m, q = m + 3 := ⟨q - 3, by omega⟩
  have ht : value_One.j0 (m + 3) true k neg n s l = some false := by rw [show m + 3 = (m + 2) + 1 from rfl]; simp [value_One.j0]
  unfold value_One.f oneR
  simp only
  by_cases h0 : k < 0
  · rw [if_pos h0, ht]; simp [show ¬ 0 ≤ k by omega]
  by_cases h1 : k > 14
  · rw [if_neg h0, if_pos h1, ht]; simp [show ¬ k ≤ 14 by omega]
  rw [if_neg h0, if_neg h1]
  have e : decide (0 ≤ k ∧ k ≤ 14) = true := decide_eq_true ⟨by omega, by omega⟩
  rw [e, Bool.true_and]
  by_cases h2 : neg = true
  · rw [if_pos h2]
    by_cases h4 : k = 4
    · rw [if_pos h4, one_j0 m k neg n s l hs hn]; simp [h4]
    · rw [if_neg h4]
      by_cases h5 : k = 5
      · rw [show (k != 5) = false by simp [h5], one_j0 m k neg n s l hs hn]; simp [h5]
      · rw [show (k != 5) = true by simp [h5], ht]; simp [h2, h4, h5]
  · rw [if_neg h2, one_j0 m k neg n s l hs hn]; simp [h2]
def okR (y : S25) : Bool := oneR y && !(leafR y.f0 && decide (0 < y.f4.length))
def checkR (x : S25) : Int := if 64 < depR x then 2 else if 65536 < cnt x then 2 else if (subs x).all okR then 0 else 9
theorem chk_f : ∀ l : List S25, (∀ y ∈ l, wfS25 y) → Ev (fun k => Each.chk T25 (fun y => value_One.f k y.f0 y.f1 y.f2 y.f3 y.f4) (fun y => value_Leaf.f y.f0 y.f1 y.f2 y.f3 y.f4) l) (if l.all okR then 0 else 9)
  | [], _ => Ev.const rfl
  | y :: l, h => by
    refine Ev.congr (fun k => by simp only [Each.chk]; rfl) (Ev.bind (one_f y (h y (by simp))) ?_)
    simp only [List.all_cons]
    by_cases h1 : oneR y = true
    · refine Ev.pos h1 (Ev.pre (leaf_f ..) ?_)
      by_cases h2 : leafR y.f0 = true
      · refine Ev.pos h2 ?_
        by_cases h3 : 0 < y.f4.length
        · refine Ev.pos h3 (Ev.const ?_)
          simp [okR, h2, h3]
        · refine Ev.neg h3 (Ev.res (chk_f l (fun z hz => h z (by simp [hz]))) ?_)
          simp [okR, h1, h3]
      · refine Ev.neg h2 (Ev.res (chk_f l (fun z hz => h z (by simp [hz]))) ?_)
        simp [okR, h1, h2]
    · refine Ev.neg h1 (Ev.const ?_)
      simp [okR, h1]
mutual
theorem wf_subs : ∀ x : S25, wfS25 x → ∀ y ∈ subs x, wfS25 y
  | ⟨a, b, c, d, l⟩, h, y, hy => by
    simp only [subs, List.mem_cons] at hy
    rcases hy with rfl | hy
    · exact h
    · exact wf_subsL l (wf_kids h).2 y hy
theorem wf_subsL : ∀ l : List S25, (∀ x ∈ l, wfS25 x) → ∀ y ∈ subsL l, wfS25 y
  | [], _, y, hy => by simp [subsL] at hy
  | x :: l, h, y, hy => by
    simp only [subsL, List.mem_append] at hy
    rcases hy with hy | hy
    · exact wf_subs x (h x (by simp)) y hy
    · exact wf_subsL l (fun z hz => h z (by simp [hz])) y hy
end
theorem check_f (x : S25) (hw : wfS25 x) (hs : szS25 x ≤ 4194304) : Ev (fun k => value_Check.f k x.f0 x.f1 x.f2 x.f3 x.f4) (checkR x) := by
  obtain ⟨a, b, c, d, l⟩ := x
  have h1 := dep_sz ⟨a, b, c, d, l⟩
  have h2 := cnt_sz ⟨a, b, c, d, l⟩
  dsimp only
  refine Ev.congr (fun k => by unfold value_Check.f; rfl) (Ev.bind (depth_f _ ⟨a, b, c, d, l⟩ (Nat.lt_succ_self _) (by omega) hw) ?_)
  refine Ev.pos (by omega) ?_
  unfold checkR
  by_cases c1 : 64 < depR ⟨a, b, c, d, l⟩
  · exact Ev.pos c1 (Ev.const (by rw [if_pos c1]))
  rw [if_neg c1]
  refine Ev.neg c1 ?_
  rw [nodes_len, wrap_id (by omega) (by omega), nodes_subs _ _ _ (Nat.lt_succ_self _)]
  by_cases c2 : 65536 < cnt ⟨a, b, c, d, l⟩
  · exact Ev.pos (by omega) (Ev.const (by rw [if_pos c2]))
  rw [if_neg c2]
  exact Ev.neg (by omega) (chk_f _ (wf_subs _ hw))
theorem need_f (k : Nat) (c : Int) (h0 : 0 ≤ c) (h1 : c ≤ 255) : glossatorref02_need.f (k + 2) c = some (Utf.rowF c).2.2.1 := by
  have e : glossatorref02_need.f (k + 2) c = glossatorref02_need.f 2 c := by
    simp only [glossatorref02_need.f, glossatorref02_need.j0, glossatorref02_need.j1]
  rw [e]
  obtain ⟨n, rfl⟩ := Int.eq_ofNat_of_zero_le h0
  have hd : ∀ n : Fin 256, glossatorref02_need.f 2 ((n.val : Nat) : Int) = some (Utf.rowF ((n.val : Nat) : Int)).2.2.1 := by decide +kernel
  exact hd ⟨n, by omega⟩
theorem row_lohi (c : Int) (h0 : 0 ≤ c) (h1 : c ≤ 255) (h2 : 2 ≤ (Utf.rowF c).2.2.1) : (Utf.rowF c).2.2.2 = (if c = 224 then (160, 191) else if c = 237 then (128, 159) else if c = 240 then (144, 191) else if c = 244 then (128, 143) else (128, 191)) := by
  obtain ⟨n, rfl⟩ := Int.eq_ofNat_of_zero_le h0
  have hd : ∀ n : Fin 256, 2 ≤ (Utf.rowF ((n.val : Nat) : Int)).2.2.1 → (Utf.rowF ((n.val : Nat) : Int)).2.2.2 = (if ((n.val : Nat) : Int) = 224 then (160, 191) else if ((n.val : Nat) : Int) = 237 then (128, 159) else if ((n.val : Nat) : Int) = 240 then (144, 191) else if ((n.val : Nat) : Int) = 244 then (128, 143) else (128, 191)) := by decide +kernel
  exact hd ⟨n, by omega⟩ h2
theorem may_1 (c x : Int) (h0 : 0 ≤ c) (h1 : c ≤ 255) (h2 : 2 ≤ (Utf.rowF c).2.2.1) : glossatorref02_may.f c 1 x = some (!decide (x < (Utf.rowF c).2.2.2.1 ∨ (Utf.rowF c).2.2.2.2 < x)) := by
  have e := row_lohi c h0 h1 h2
  rw [show (Utf.rowF c).2.2.2.1 = ((Utf.rowF c).2.2.2).1 from rfl, show (Utf.rowF c).2.2.2.2 = ((Utf.rowF c).2.2.2).2 from rfl, e]
  unfold glossatorref02_may.f
  rw [if_pos rfl]
  have g : ∀ lo hi : Int, (if x ≥ lo then some (decide (x ≤ hi)) else some false) = some (!decide (x < lo ∨ hi < x)) := fun lo hi => by
    by_cases c1 : x ≥ lo
    · rw [if_pos c1]; congr 1
      by_cases c2 : x ≤ hi
      · rw [decide_eq_true c2, decide_eq_false (by omega)]; rfl
      · rw [decide_eq_false c2, decide_eq_true (by omega)]; rfl
    · rw [if_neg c1, decide_eq_true (by omega)]; rfl
  by_cases c1 : c = 224
  · rw [if_pos c1, if_pos c1]; exact g _ _
  by_cases c2 : c = 237
  · rw [if_neg c1, if_neg c1, if_pos c2, if_pos c2]; exact g _ _
  by_cases c3 : c = 240
  · rw [if_neg c1, if_neg c1, if_neg c2, if_neg c2, if_pos c3, if_pos c3]; exact g _ _
  by_cases c4 : c = 244
  · rw [if_neg c1, if_neg c1, if_neg c2, if_neg c2, if_neg c3, if_neg c3, if_pos c4, if_pos c4]; exact g _ _
  · rw [if_neg c1, if_neg c1, if_neg c2, if_neg c2, if_neg c3, if_neg c3, if_neg c4, if_neg c4]; exact g _ _
theorem may_n (c j x : Int) (hj : j ≠ 1) : glossatorref02_may.f c j x = some (!decide (x < 128 ∨ 191 < x)) := by
  unfold glossatorref02_may.f
  rw [if_neg hj]
  by_cases c1 : x ≥ 128
  · rw [if_pos c1]; congr 1
    by_cases c2 : x ≤ 191
    · rw [decide_eq_true c2, decide_eq_false (by omega)]; rfl
    · rw [decide_eq_false c2, decide_eq_true (by omega)]; rfl
  · rw [if_neg c1, decide_eq_true (by omega)]; rfl
def stR (c : Int) (m : Nat) : Int × Int × Int := if m = 1 then ((Utf.rowF c).2.2.1 - 1, (Utf.rowF c).2.2.2.1, (Utf.rowF c).2.2.2.2) else ((Utf.rowF c).2.2.1 - (m : Int), 128, 191)
theorem stR_1 (c : Int) (m : Nat) : (stR c m).1 = (Utf.rowF c).2.2.1 - (m : Int) := by
  unfold stR; split
  · next h => subst h; rfl
  · rfl
theorem stR_may (c : Int) (m : Nat) (x : Int) (h0 : 0 ≤ c) (h1 : c ≤ 255) (hm : 1 ≤ m) (h2 : (m : Int) < (Utf.rowF c).2.2.1) : glossatorref02_may.f c (m : Int) x = some (!decide (x < (stR c m).2.1 ∨ (stR c m).2.2 < x)) := by
  unfold stR
  by_cases h : m = 1
  · subst h; rw [if_pos rfl]; exact may_1 c x h0 h1 (by omega)
  · rw [if_neg h]; exact may_n c _ x (by omega)
theorem stepF_z (s : Int × Int × Int) (c : Int) (hs : s.1 = 0) (hz : (Utf.rowF c).2.2.1 = 0) : Utf.stepF s c (-1) = (false, s) := by
  unfold Utf.stepF
  rw [if_neg (by omega), if_pos (Or.inl hz)]
theorem stepF_n (s : Int × Int × Int) (c : Int) (hs : s.1 = 0) (hz : ¬ (Utf.rowF c).2.2.1 = 0) : Utf.stepF s c (-1) = (true, (Utf.rowF c).2.2.1 - 1, (Utf.rowF c).2.2.2.1, (Utf.rowF c).2.2.2.2) := by
  unfold Utf.stepF
  rw [if_neg (by omega), if_neg (show ¬ ((Utf.rowF c).2.2.1 = 0 ∨ (0 : Int) ≤ -1 ∧ (-1 : Int) < (Utf.rowF c).2.2.1 - 1) by omega)]
theorem stepF_bad (s : Int × Int × Int) (c : Int) (hs : 0 < s.1) (hz : c < s.2.1 ∨ s.2.2 < c) : Utf.stepF s c (-1) = (false, s) := by
  unfold Utf.stepF
  rw [if_pos hs, if_pos hz]
theorem stepF_ok (s : Int × Int × Int) (c : Int) (hs : 0 < s.1) (hz : ¬ (c < s.2.1 ∨ s.2.2 < c)) : Utf.stepF s c (-1) = (true, s.1 - 1, 128, 191) := by
  unfold Utf.stepF
  rw [if_pos hs, if_neg hz]
theorem within_f (a : ByteArray) (ha : a.size ≤ 140737488351232) : ∀ d : Nat,
    (∀ (j : Nat) (s : Int × Int × Int), j + d = a.size → s.1 = 0 → Ev (fun k => glossatorref02_within.l0 k a (-1) (j : Int)) (Utf.scanF a d j s)) ∧
    (∀ (i m : Nat), i + m + d = a.size → 1 ≤ m → (m : Int) ≤ (Utf.rowF (bt a (i : Int))).2.2.1 → Ev (fun k => glossatorref02_within.l1 k a (-1) (i : Int) (Utf.rowF (bt a (i : Int))).2.2.1 (m : Int)) (Utf.scanF a d (i + m) (stR (bt a (i : Int)) m))) := by
  intro d
  have hP0 : ∀ (j : Nat) (s : Int × Int × Int), j = a.size → s.1 = 0 → Ev (fun k => glossatorref02_within.l0 k a (-1) (j : Int)) (Utf.scanF a 0 j s) := fun j s hj hs => by
    refine Ev.step (fun k => by simp only [glossatorref02_within.l0]; rfl) (Ev.neg (by omega) (Ev.neg (by omega) (Ev.const ?_)))
    simp only [Utf.scanF]
    rw [if_neg (by omega), hj]
  have hend : ∀ (i m d : Nat), i + m + d = a.size → (m : Int) = (Utf.rowF (bt a (i : Int))).2.2.1 → (∀ s : Int × Int × Int, s.1 = 0 → Ev (fun k => glossatorref02_within.l0 k a (-1) ((i + m : Nat) : Int)) (Utf.scanF a d (i + m) s)) → Ev (fun k => glossatorref02_within.l1 k a (-1) (i : Int) (Utf.rowF (bt a (i : Int))).2.2.1 (m : Int)) (Utf.scanF a d (i + m) (stR (bt a (i : Int)) m)) := fun i m d h0 h1 h2 => by
    refine Ev.step (fun k => by simp only [glossatorref02_within.l1]; rfl) (Ev.neg (by omega) ?_)
    rw [← h1, wrap_id (by omega) (by omega)]
    exact h2 _ (by rw [stR_1]; omega)
  induction d with
  | zero =>
    refine ⟨fun j s hj hs => hP0 j s (by omega) hs, fun i m him hm1 hm2 => ?_⟩
    by_cases hlt : (m : Int) < (Utf.rowF (bt a (i : Int))).2.2.1
    · refine Ev.step (fun k => by simp only [glossatorref02_within.l1]; rfl) (Ev.pos hlt ?_)
      rw [wrap_id (by omega) (by omega)]
      refine Ev.pos (by omega) (Ev.const ?_)
      simp only [Utf.scanF]
      rw [if_pos (by rw [stR_1]; omega)]
    · exact hend i m 0 (by omega) (by omega) (fun s hs => hP0 _ s (by omega) hs)
  | succ d ih =>
    obtain ⟨ihP, ihQ⟩ := ih
    have hP : ∀ (j : Nat) (s : Int × Int × Int), j + (d + 1) = a.size → s.1 = 0 → Ev (fun k => glossatorref02_within.l0 k a (-1) (j : Int)) (Utf.scanF a (d + 1) j s) := fun j s hj hs => by
      have hb := bt_range a (j : Int)
      have hn := Utf.rowF_n (bt a (j : Int))
      refine Ev.step (fun k => by simp only [glossatorref02_within.l0]; rfl) (Ev.pos (by omega) (Ev.pos (by omega) ?_))
      refine Ev.bind ⟨2, fun k hk => by obtain ⟨m, rfl⟩ : ∃ m, k = m + 2 := ⟨k - 2, by omega⟩; exact need_f m _ hb.1 hb.2⟩ ?_
      simp only [Utf.scanF]
      by_cases hz : (Utf.rowF (bt a (j : Int))).2.2.1 = 0
      · rw [stepF_z s _ hs hz]
        refine Ev.pos hz (Ev.step (fun k => by simp only [glossatorref02_within.j1]; rfl) (Ev.pos (by first | trivial | rfl) (Ev.const ?_)))
        rw [if_neg (by simp)]
      · rw [stepF_n s _ hs hz]
        refine Ev.neg hz (Ev.neg (by omega) (Ev.step (fun k => by simp only [glossatorref02_within.j1]; rfl) (Ev.neg (by simp) ?_)))
        rw [if_pos rfl]
        exact ihQ j 1 (by omega) (by omega) (by omega)
    refine ⟨hP, fun i m him hm1 hm2 => ?_⟩
    by_cases hlt : (m : Int) < (Utf.rowF (bt a (i : Int))).2.2.1
    · have hb := bt_range a (i : Int)
      refine Ev.step (fun k => by simp only [glossatorref02_within.l1]; rfl) (Ev.pos hlt ?_)
      rw [wrap_id (x := (i : Int) + (m : Int)) (by omega) (by omega), wrap_id (x := (m : Int) + 1) (by omega) (by omega), show (i : Int) + (m : Int) = ((i + m : Nat) : Int) by omega]
      refine Ev.neg (by omega) (Ev.pos (by omega) (Ev.pos (by omega) (Ev.pos (by omega) (Ev.pos (by omega) (Ev.pre (stR_may _ m _ hb.1 hb.2 hm1 hlt) ?_)))))
      simp only [Utf.scanF]
      have hpos : 0 < (stR (bt a (i : Int)) m).1 := by rw [stR_1]; omega
      by_cases hc : bt a ((i + m : Nat) : Int) < (stR (bt a (i : Int)) m).2.1 ∨ (stR (bt a (i : Int)) m).2.2 < bt a ((i + m : Nat) : Int)
      · rw [stepF_bad _ _ hpos hc, decide_eq_true hc]
        exact Ev.neg (by simp) (Ev.const (by rw [if_neg (by simp)]))
      · rw [stepF_ok _ _ hpos hc, decide_eq_false hc]
        refine Ev.pos (by first | trivial | rfl) ?_
        rw [if_pos rfl]
        have := ihQ i (m + 1) (by omega) (by omega) (by omega)
        rw [show ((m + 1 : Nat) : Int) = (m : Int) + 1 by omega] at this
        refine Ev.res this ?_
        rw [show i + (m + 1) = i + m + 1 by omega]
        congr 1
        rw [stR_1]
        unfold stR
        rw [if_neg (by omega), show (Utf.rowF (bt a (i : Int))).2.2.1 - ((m + 1 : Nat) : Int) = (Utf.rowF (bt a (i : Int))).2.2.1 - (m : Int) - 1 by omega]
    · exact hend i m (d + 1) (by omega) (by omega) (fun s hs => hP (i + m) s (by omega) hs)
theorem ucheck_f (a : ByteArray) (ha : a.size ≤ 140737488351232) : Ev (fun k => glossatorref02_Check.f k a) (Utf.checkF a) := by
  refine Ev.congr (fun k => by unfold glossatorref02_Check.f glossatorref02_within.f; rfl) (Ev.bind ((within_f a ha a.size).1 0 (0, 0, 0) (by omega) rfl) (Ev.const rfl))
theorem rbig_f (s : ByteArray) : glossatorref08_Big.f s = some (bigR s) := by
  unfold glossatorref08_Big.f bigR
  by_cases h1 : (s.size : Int) > 8
  · rw [if_pos h1]
    by_cases h2 : (s.size : Int) ≤ 512
    · rw [if_pos h2, if_pos (by omega)]; simp [show 8 < (s.size : Int) by omega, h2]
    · rw [if_neg h2]; simp [h2]
  · rw [if_neg h1]; simp [show ¬ 8 < (s.size : Int) by omega]
theorem rleaf_f (a0 : Int) (a1 : Bool) (a2 : Int) (a3 : ByteArray) (a4 : List S25) : glossatorref08_Leaf.f a0 a1 a2 a3 a4 = some (leafR a0) := by
  unfold glossatorref08_Leaf.f leafR
  by_cases h1 : a0 = 11
  · rw [if_pos h1]; simp [h1]
  · by_cases h2 : a0 = 12
    · rw [if_neg h1, if_pos h2]; simp [h2]
    · rw [if_neg h1, if_neg h2]; by_cases h3 : a0 = 13 <;> simp [h1, h2, h3]
theorem rone_j (k : Int) (neg : Bool) (n : Int) (s : ByteArray) (l : List S25) (hn : 0 ≤ n ∧ n ≤ 18446744073709551615) (h10 : k ≠ 10) (m : Nat) :
    glossatorref08_One.f (m + 1) k neg n s l = some (oneR ⟨k, neg, n, s, l⟩) := by
  have hk : k < 0 ∨ k = 0 ∨ k = 1 ∨ k = 2 ∨ k = 3 ∨ k = 4 ∨ k = 5 ∨ k = 6 ∨ k = 7 ∨ k = 8 ∨ k = 9 ∨ k = 11 ∨ k = 12 ∨ k = 13 ∨ k = 14 ∨ 14 < k := by omega
  obtain ⟨e, he⟩ : ∃ e, (s.toList == ([] : List UInt8)) = e := ⟨_, rfl⟩
  obtain ⟨L, hL⟩ : ∃ L : Nat, l.length = L := ⟨_, rfl⟩
  rcases hk with h | rfl | rfl | rfl | rfl | rfl | rfl | rfl | rfl | rfl | rfl | rfl | rfl | rfl | rfl | h
  · simp only [glossatorref08_One.f, glossatorref08_One.j0, oneR]
    rw [if_neg (by omega), if_neg (by simp; omega), if_neg (by omega), if_neg (by omega), if_neg (by omega), if_neg (by omega), if_neg (by omega), if_neg (by omega), if_neg (by omega), if_neg (by omega), if_neg (by omega), if_neg (by omega), if_neg (by omega), if_neg (by omega), if_neg (by omega)]
    simp [show ¬ 0 ≤ k by omega]
  all_goals try (simp only [glossatorref08_One.f, glossatorref08_One.j0, oneR, bitsR, he, hL]; cases e <;> cases neg <;> simp <;> omega)
  all_goals try (simp only [glossatorref08_One.f, glossatorref08_One.j0, oneR, bitsR, he, hL, rbig_f]; have h1 : (n < 1) = (n = 0) := (by simp only [eq_iff_iff]; omega); by_cases h0 : n = 0 <;> cases e <;> cases neg <;> simp [*] <;> done)
  · simp only [glossatorref08_One.f, glossatorref08_One.j0, oneR, bitsR, he, hL]
    have g3 : (n < 256) = (n ≤ 255) := by simp only [eq_iff_iff]; omega
    by_cases c1 : n ≤ 19
    · have h1 : ¬ 19 < n := by omega
      have h2 : n ≤ 255 := by omega
      cases e <;> cases neg <;> simp [c1, h1, h2, g3]
    · have h1 : 19 < n := by omega
      by_cases c2 : 32 ≤ n
      · have h2 : ¬ n < 32 := by omega
        cases e <;> cases neg <;> simp [c1, h1, h2, c2, g3]
      · have h2 : n < 32 := by omega
        cases e <;> cases neg <;> simp [c1, h1, h2, c2]
  · simp only [glossatorref08_One.f, glossatorref08_One.j0, oneR, bitsR, he, hL]
    have h1 : (n < 1) = (n = 0) := by simp only [eq_iff_iff]; omega
    obtain ⟨q, hq⟩ : ∃ q : Int, (L : Int) % 2 = q := ⟨_, rfl⟩
    by_cases h0 : n = 0 <;> by_cases h2 : q = 0 <;> cases e <;> cases neg <;> simp [h0, h1, hq, h2]
  · simp only [glossatorref08_One.f, glossatorref08_One.j0, oneR, bitsR, he, hL, rbig_f]
    have g : decide (n < 2 ^ 64) = true := by simp; omega
    by_cases hL1 : L = 1
    · have hL1' : (L : Int) = 1 := by omega
      have hL0 : 0 < (L : Int) := by omega
      by_cases h2 : n = 2
      · subst h2; cases e <;> cases neg <;> by_cases h9 : (rd_T25 l 0).f0 = 9 <;> simp [*]
      · by_cases h3 : n = 3
        · subst h3; cases e <;> cases neg <;> by_cases h9 : (rd_T25 l 0).f0 = 9 <;> simp [*]
        · have h4 : ¬ n / 2 = 1 := by omega
          cases e <;> cases neg <;> simp [*] <;> omega
    · have hL1' : ¬ (L : Int) = 1 := by omega
      cases e <;> cases neg <;> simp [*]
  · simp only [glossatorref08_One.f, glossatorref08_One.j0, oneR]
    rw [if_neg (by omega), if_neg (by simp; omega), if_neg (by omega), if_neg (by omega), if_neg (by omega), if_neg (by omega), if_neg (by omega), if_neg (by omega), if_neg (by omega), if_neg (by omega), if_neg (by omega), if_neg (by omega), if_neg (by omega), if_neg (by omega), if_neg (by omega)]
    simp [show ¬ k ≤ 14 by omega]
theorem rone_f (y : S25) (hw : wfS25 y) : Ev (fun k => glossatorref08_One.f k y.f0 y.f1 y.f2 y.f3 y.f4) (oneR y) := by
  obtain ⟨k, neg, n, s, l⟩ := y
  simp only [wfS25] at hw
  have hn := wf_u64 hw.2.2.1
  have hs : s.size ≤ 140737488351232 := hw.2.2.2.1
  dsimp only
  by_cases h10 : k = 10
  · subst h10
    refine Ev.congr (fun q => by unfold glossatorref08_One.f; rfl) (Ev.neg (by decide) (Ev.step (fun q => by simp only [glossatorref08_One.j0]; rfl) ?_))
    refine Ev.neg (by decide) (Ev.neg (by decide) (Ev.neg (by decide) (Ev.neg (by decide) (Ev.neg (by decide) (Ev.neg (by decide) (Ev.neg (by decide) (Ev.neg (by decide) (Ev.neg (by decide) (Ev.pos (by decide) (Ev.bind (ucheck_f s hs) ?_))))))))))
    refine Ev.const ?_
    simp only [oneR, bitsR]
    cases neg <;> simp <;> by_cases h0 : n = 0 <;> simp [h0] <;> omega
  · exact ⟨1, fun q hq => by obtain ⟨m, rfl⟩ : ∃ m, q = m + 1 := ⟨q - 1, by omega⟩; exact rone_j k neg n s l hn h10 m⟩
theorem rdepth_l0 (v0 : Int) (v1 : Bool) (v2 : Int) (v3 : ByteArray) (l : List S25) (hl : l.length * 64 ≤ 140737488351232) (hd : depL25 l ≤ 9000000000000000000) (hf : ∀ x ∈ l, Ev (fun k => glossatorref08_Depth.f k x.f0 x.f1 x.f2 x.f3 x.f4) (depR x)) :
    ∀ (d j : Nat) (a : Int), j + d = l.length → 0 ≤ a → a ≤ 9000000000000000000 → Ev (fun k => glossatorref08_Depth.l0 k a (j : Int) v0 v1 v2 v3 l) (max a (depRL (l.drop j)) + 1) := by
  intro d
  induction d with
  | zero =>
    intro j a hj h0 h1
    refine Ev.step (fun k => by simp only [glossatorref08_Depth.l0]; rfl) (Ev.neg (by omega) (Ev.const ?_))
    rw [List.drop_of_length_le (by omega), wrap_id (by omega) (by omega)]
    simp only [depRL]
    rw [show max a 0 = a by omega]
  | succ d ih =>
    intro j a hj h0 h1
    have hlt : j < l.length := by omega
    have hb := depR_pos l[j]
    have hm := dep25_mem l l[j] (List.getElem_mem hlt)
    refine Ev.step (fun k => by simp only [glossatorref08_Depth.l0]; rfl) (Ev.pos (by omega) (Ev.pos (by omega) ?_))
    rw [rdT_get l j hlt, wrap_id (by omega) (by omega)]
    refine Ev.bind (hf _ (List.getElem_mem hlt)) ?_
    rw [mx_max]
    refine Ev.res (ih (j + 1) _ (by omega) (by omega) (by omega)) ?_
    rw [List.drop_eq_getElem_cons hlt]
    simp only [depRL]
    omega
theorem rdepth_f : ∀ (m : Nat) (x : S25), dep25 x < m → m ≤ 9000000000000000000 → wfS25 x → Ev (fun k => glossatorref08_Depth.f k x.f0 x.f1 x.f2 x.f3 x.f4) (depR x) := by
  intro m
  induction m with
  | zero => intro x h; omega
  | succ m ih =>
    rintro ⟨a0, a1, a2, a3, a4⟩ hd hm hw
    obtain ⟨hl, hk⟩ := wf_kids hw
    refine Ev.step (fun k => by simp only [glossatorref08_Depth.f]; rfl) ?_
    simp only [depR]
    by_cases h5 : a0 = 5
    · refine Ev.pos h5 (Ev.const ?_)
      subst h5; rfl
    refine Ev.neg h5 (Ev.pre (rleaf_f a0 a1 a2 a3 a4) ?_)
    by_cases h : leafR a0 = true
    · rw [if_pos h, if_neg h5]
      exact Ev.pos h (Ev.const rfl)
    · rw [if_neg h]
      have hdl : depL25 a4 < m := by simp only [dep25] at hd; omega
      refine Ev.neg h (Ev.res (rdepth_l0 a0 a1 a2 a3 a4 hl (by omega) (fun x hx => ih x (by have := dep25_mem a4 x hx; omega) (by omega) (hk x hx)) a4.length 0 0 (by omega) (by omega) (by omega)) ?_)
      have := depRL_pos a4
      rw [List.drop_zero]; omega
theorem cntL_mem : ∀ (l : List S25) (y : S25), y ∈ l → cnt y ≤ cntL l
  | [], _, h => by simp at h
  | x :: l, y, h => by
    simp only [cntL]
    rcases List.mem_cons.1 h with rfl | h
    · omega
    · have := cntL_mem l y h; omega
theorem len_cntL : ∀ l : List S25, l.length ≤ cntL l
  | [] => Nat.le_refl _
  | x :: l => by have := len_cntL l; have := cnt_pos x; simp only [cntL, List.length_cons]; omega
theorem rcount_l0 (v0 : Int) (v1 : Bool) (v2 : Int) (v3 : ByteArray) (l : List S25) (hc : cntL l ≤ 9000000000000000) (hf : ∀ x ∈ l, Ev (fun k => glossatorref08_Count.f k x.f0 x.f1 x.f2 x.f3 x.f4) (cnt x : Int)) :
    ∀ (d j : Nat) (a : Nat), j + d = l.length → a ≤ 9000000000000000 → a + cntL (l.drop j) ≤ 9000000000000001 → Ev (fun k => glossatorref08_Count.l0 k (a : Int) (j : Int) v0 v1 v2 v3 l) ((a + cntL (l.drop j) : Nat) : Int) := by
  have hll := len_cntL l
  intro d
  induction d with
  | zero =>
    intro j a hj h1 h2
    refine Ev.step (fun k => by simp only [glossatorref08_Count.l0]; rfl) (Ev.neg (by omega) (Ev.const ?_))
    rw [List.drop_of_length_le (by omega)]; rfl
  | succ d ih =>
    intro j a hj h1 h2
    have hlt : j < l.length := by omega
    rw [List.drop_eq_getElem_cons hlt] at h2 ⊢
    simp only [cntL] at h2 ⊢
    refine Ev.step (fun k => by simp only [glossatorref08_Count.l0]; rfl) (Ev.pos (by omega) (Ev.pos (by omega) ?_))
    rw [rdT_get l j hlt, wrap_id (x := (j : Int) + 1) (by omega) (by omega)]
    refine Ev.bind (hf _ (List.getElem_mem hlt)) ?_
    rw [wrap_id (by omega) (by omega), show (a : Int) + (cnt l[j] : Int) = ((a + cnt l[j] : Nat) : Int) by omega]
    by_cases hd0 : d = 0
    · subst hd0
      refine Ev.step (fun k => by simp only [glossatorref08_Count.l0]; rfl) (Ev.neg (by omega) (Ev.const ?_))
      rw [List.drop_of_length_le (by omega)]; rfl
    · have hrest : 1 ≤ cntL (l.drop (j + 1)) := by have := len_cntL (l.drop (j + 1)); rw [List.length_drop] at this; omega
      refine Ev.res (ih (j + 1) (a + cnt l[j]) (by omega) (by omega) (by omega)) ?_
      rw [Nat.add_assoc]
theorem rcount_f : ∀ (m : Nat) (x : S25), dep25 x < m → cnt x ≤ 9000000000000000 → Ev (fun k => glossatorref08_Count.f k x.f0 x.f1 x.f2 x.f3 x.f4) (cnt x : Int) := by
  intro m
  induction m with
  | zero => intro x h; omega
  | succ m ih =>
    rintro ⟨a0, a1, a2, a3, a4⟩ hd hc
    simp only [cnt] at hc ⊢
    have hdl : depL25 a4 < m := by simp only [dep25] at hd; omega
    refine Ev.step (fun k => by simp only [glossatorref08_Count.f]; rfl) (Ev.res (rcount_l0 a0 a1 a2 a3 a4 (by omega) (fun x hx => ih x (by have := dep25_mem a4 x hx; omega) (by have := cntL_mem a4 x hx; omega)) a4.length 0 1 (by omega) (by omega) (by rw [List.drop_zero]; omega)) ?_)
    rw [List.drop_zero, Nat.add_comm]
theorem rright_l0 (v0 : Int) (v1 : Bool) (v2 : Int) (v3 : ByteArray) (l : List S25) (hl : l.length * 64 ≤ 140737488351232) (hf : ∀ x ∈ l, Ev (fun k => glossatorref08_right.f k x.f0 x.f1 x.f2 x.f3 x.f4) ((subs x).all okR)) :
    ∀ (d j : Nat), j + d = l.length → Ev (fun k => glossatorref08_right.l0 k (j : Int) v0 v1 v2 v3 l) ((subsL (l.drop j)).all okR) := by
  intro d
  induction d with
  | zero =>
    intro j hj
    refine Ev.step (fun k => by simp only [glossatorref08_right.l0]; rfl) (Ev.neg (by omega) (Ev.const ?_))
    rw [List.drop_of_length_le (by omega)]; rfl
  | succ d ih =>
    intro j hj
    have hlt : j < l.length := by omega
    rw [List.drop_eq_getElem_cons hlt]
    simp only [subsL, List.all_append]
    refine Ev.step (fun k => by simp only [glossatorref08_right.l0]; rfl) (Ev.pos (by omega) (Ev.pos (by omega) ?_))
    rw [rdT_get l j hlt, wrap_id (x := (j : Int) + 1) (by omega) (by omega)]
    refine Ev.bind (hf _ (List.getElem_mem hlt)) ?_
    by_cases h : (subs l[j]).all okR = true
    · refine Ev.pos h (Ev.res (ih (j + 1) (by omega)) ?_)
      rw [h, Bool.true_and]
    · refine Ev.neg h (Ev.const ?_)
      rw [Bool.eq_false_iff.2 h, Bool.false_and]
theorem rright_f : ∀ (m : Nat) (x : S25), dep25 x < m → wfS25 x → Ev (fun k => glossatorref08_right.f k x.f0 x.f1 x.f2 x.f3 x.f4) ((subs x).all okR) := by
  intro m
  induction m with
  | zero => intro x h; omega
  | succ m ih =>
    rintro ⟨a0, a1, a2, a3, a4⟩ hd hw
    obtain ⟨hl, hk⟩ := wf_kids hw
    have hdl : depL25 a4 < m := by simp only [dep25] at hd; omega
    have hone := rone_f ⟨a0, a1, a2, a3, a4⟩ hw
    dsimp only at hone
    have hkids := rright_l0 a0 a1 a2 a3 a4 hl (fun x hx => ih x (by have := dep25_mem a4 x hx; omega) (hk x hx)) a4.length 0 (by omega)
    rw [List.drop_zero] at hkids
    simp only [subs, List.all_cons]
    refine Ev.step (fun k => by simp only [glossatorref08_right.f]; rfl) (Ev.bind hone ?_)
    by_cases h1 : oneR ⟨a0, a1, a2, a3, a4⟩ = true
    · refine Ev.pos h1 (Ev.pre (rleaf_f a0 a1 a2 a3 a4) ?_)
      by_cases h2 : leafR a0 = true
      · refine Ev.pos h2 (Ev.step (fun k => by simp only [glossatorref08_right.j0]; rfl) ?_)
        by_cases h3 : a4.length = 0
        · refine Ev.neg (by simp [h3]) (Ev.res hkids ?_)
          simp [okR, h1, h3]
        · refine Ev.pos (by simp only [bne_iff_ne, ne_eq]; omega) (Ev.const ?_)
          simp [okR, h2, show 0 < a4.length by omega]
      · refine Ev.neg h2 (Ev.step (fun k => by simp only [glossatorref08_right.j0]; rfl) (Ev.neg (by simp) (Ev.res hkids ?_)))
        simp [okR, h1, h2]
    · refine Ev.neg h1 (Ev.step (fun k => by simp only [glossatorref08_right.j0]; rfl) (Ev.pos (by first | trivial | rfl) (Ev.const ?_)))
      simp [okR, h1]
theorem rcheck_f (x : S25) (hw : wfS25 x) (hs : szS25 x ≤ 4194304) : Ev (fun k => glossatorref08_Check.f k x.f0 x.f1 x.f2 x.f3 x.f4) (checkR x) := by
  have h1 := dep_sz x
  have h2 := cnt_sz x
  refine Ev.congr (fun k => by unfold glossatorref08_Check.f; rfl) (Ev.bind (rdepth_f _ x (Nat.lt_succ_self _) (by omega) hw) ?_)
  unfold checkR
  by_cases c1 : 64 < depR x
  · refine Ev.pos c1 (Ev.step (fun k => by simp only [glossatorref08_Check.j0]; rfl) (Ev.pos (by first | trivial | rfl) (Ev.const (by rw [if_pos c1]))))
  rw [if_neg c1]
  refine Ev.neg c1 (Ev.bind (rcount_f _ x (Nat.lt_succ_self _) (by omega)) (Ev.step (fun k => by simp only [glossatorref08_Check.j0]; rfl) ?_))
  by_cases c2 : 65536 < cnt x
  · exact Ev.pos (decide_eq_true (by omega)) (Ev.const (by rw [if_pos c2]))
  rw [if_neg c2]
  refine Ev.neg (by simp; omega) (Ev.bind (rright_f _ x (Nat.lt_succ_self _) hw) ?_)
  by_cases c3 : (subs x).all okR = true
  · exact Ev.pos c3 (Ev.const (by rw [if_pos c3]))
  · exact Ev.neg c3 (Ev.const (by rw [if_neg c3]))
mutual
def evR : S25 → List S37
  | ⟨k, neg, n, s, l⟩ => ⟨k, neg, n, s⟩ :: (evRL l ++ (if k = 11 ∨ k = 12 then [⟨15, false, 0, ⟨#[]⟩⟩] else []))
def evRL : List S25 → List S37
  | [] => []
  | x :: l => evR x ++ evRL l
end
theorem evRL_flat : ∀ l : List S25, evRL l = (l.map evR).flatten
  | [] => rfl
  | x :: l => by simp only [evRL, List.map_cons, List.flatten_cons, evRL_flat l]
theorem evs_R : ∀ (m : Nat) (x : S25), dep25 x < m → Each.evs T25 V37 m x = evR x := by
  intro m
  induction m with
  | zero => intro x h; omega
  | succ m ih =>
    rintro ⟨k, neg, n, s, l⟩ h
    have e : Each.evs T25 V37 (m + 1) ⟨k, neg, n, s, l⟩ = ⟨k, neg, n, s⟩ :: ((l.map (Each.evs T25 V37 m)).flatten ++ (if k = 11 ∨ k = 12 then [⟨15, false, 0, ⟨#[]⟩⟩] else [])) := rfl
    rw [e]
    simp only [evR, evRL_flat]
    rw [List.map_congr_left (fun y hy => ih y (by have := dep_kid (f0 := k) (f1 := neg) (f2 := n) (f3 := s) hy; omega))]
mutual
theorem evR_len : ∀ x : S25, (evR x).length ≤ 2 * cnt x
  | ⟨k, neg, n, s, l⟩ => by
    have := evRL_len l
    simp only [evR, cnt, List.length_cons, List.length_append]
    split <;> simp <;> omega
theorem evRL_len : ∀ l : List S25, (evRL l).length ≤ 2 * cntL l
  | [] => Nat.le_refl _
  | x :: l => by have := evR_len x; have := evRL_len l; simp only [evRL, cntL, List.length_append]; omega
end
def eventsT (x : S25) : List S37 × Int := (if checkR x = 0 then evR x else [], checkR x)
theorem events_f (x : S25) (hw : wfS25 x) (hs : szS25 x ≤ 1048576) : Ev (fun k => event_Events.f k x.f0 x.f1 x.f2 x.f3 x.f4) (eventsT x) := by
  obtain ⟨a, b, c, d, l⟩ := x
  have h1 := evR_len ⟨a, b, c, d, l⟩
  have h2 := cnt_sz ⟨a, b, c, d, l⟩
  refine Ev.congr (fun k => by unfold event_Events.f; rfl) (Ev.bind (check_f ⟨a, b, c, d, l⟩ hw (by omega)) ?_)
  dsimp only
  rw [evs_R _ _ (Nat.lt_succ_self _)]
  exact Ev.pos (by omega) (Ev.const rfl)
theorem list_l0 (xs : List S37) (hx : xs.length ≤ 9000000000000000000) : ∀ (d j : Nat), j + d = xs.length → Ev (fun k => glossatorlaw09_list.l0 k xs xs (j : Int)) true := by
  intro d
  induction d with
  | zero =>
    intro j hj
    exact Ev.step (fun k => by simp only [glossatorlaw09_list.l0]; rfl) (Ev.neg (by omega) (Ev.const rfl))
  | succ d ih =>
    intro j hj
    refine Ev.step (fun k => by simp only [glossatorlaw09_list.l0]; rfl) (Ev.pos (by omega) (Ev.pos (by omega) (Ev.pos (by omega) (Ev.neg (by simp) ?_))))
    rw [wrap_id (x := (j : Int) + 1) (by omega) (by omega)]
    exact ih (j + 1) (by omega)
theorem list_f (xs : List S37) (hx : xs.length ≤ 9000000000000000000) : Ev (fun k => glossatorlaw09_list.f k xs xs) true :=
  Ev.congr (fun k => by unfold glossatorlaw09_list.f; rfl) (Ev.pos (by first | trivial | rfl) (list_l0 xs hx xs.length 0 (by omega)))
theorem awake_t : Ev (fun k => glossatorlaw09_awake.f k) true := by
  have h := events_f ⟨11, false, 0, ⟨#[]⟩, []⟩ (by simp only [wfS25]; exact ⟨by decide, trivial, by decide, by decide, by decide, (wfL25_iff _).2 (by simp)⟩) (by simp only [szS25, szL25]; decide)
  have e : eventsT ⟨11, false, 0, ⟨#[]⟩, []⟩ = ([⟨11, false, 0, ⟨#[]⟩⟩, ⟨15, false, 0, ⟨#[]⟩⟩], 0) := by
    unfold eventsT
    have hc : checkR ⟨11, false, 0, ⟨#[]⟩, []⟩ = 0 := by decide +kernel
    rw [hc]; rfl
  rw [e] at h
  dsimp only at h
  exact Ev.congr (fun k => by unfold glossatorlaw09_awake.f; rfl) (Ev.bind h (Ev.pos rfl (Ev.const rfl)))
def Each.eqL {S : Type} (f : S → S → Bool) : List S → List S → Bool
  | [], [] => true
  | x :: xs, y :: ys => f x y && Each.eqL f xs ys
  | _, _ => false
def Each.eqF {S : Type} (T : Each.Tree S) : Nat → S → S → Bool
  | 0, _, _ => false
  | m + 1, x, y => T.k x == T.k y && T.neg x == T.neg y && T.n x == T.n y && (T.s x).toList == (T.s y).toList && Each.eqL (Each.eqF T m) (T.kids x) (T.kids y)
theorem Each.eqL_len {S : Type} (f : S → S → Bool) : ∀ (xs ys : List S), xs.length ≠ ys.length → Each.eqL f xs ys = false
  | [], [], h => absurd rfl h
  | [], _ :: _, _ => rfl
  | _ :: _, [], _ => rfl
  | x :: xs, y :: ys, h => by simp only [Each.eqL, Each.eqL_len f xs ys (by simpa using h), Bool.and_false]
theorem same_j0t (a0 : Int) (a1 : Bool) (a2 : Int) (a3 : ByteArray) (a4 : List S25) (b0 : Int) (b1 : Bool) (b2 : Int) (b3 : ByteArray) (b4 : List S25) : Ev (fun k => glossatorlaw09_same.j0 k true a0 a1 a2 a3 a4 b0 b1 b2 b3 b4) false := by
  refine Ev.step (fun k => by simp only [glossatorlaw09_same.j0]; rfl) ?_
  exact Ev.pos (by trivial) (Ev.const rfl)
theorem same_l0 (f : S25 → S25 → Bool) (a0 : Int) (a1 : Bool) (a2 : Int) (a3 : ByteArray) (a4 : List S25) (b0 : Int) (b1 : Bool) (b2 : Int) (b3 : ByteArray) (b4 : List S25) (hl : a4.length = b4.length) (hm : a4.length * 64 ≤ 140737488351232)
    (hf : ∀ x ∈ a4, ∀ y ∈ b4, Ev (fun k => glossatorlaw09_same.f k x.f0 x.f1 x.f2 x.f3 x.f4 y.f0 y.f1 y.f2 y.f3 y.f4) (f x y)) :
    ∀ (d j : Nat), j + d = a4.length → Ev (fun k => glossatorlaw09_same.l0 k (j : Int) a0 a1 a2 a3 a4 b0 b1 b2 b3 b4) (Each.eqL f (a4.drop j) (b4.drop j)) := by
  intro d
  induction d with
  | zero =>
    intro j hj
    refine Ev.step (fun k => by simp only [glossatorlaw09_same.l0]; rfl) (Ev.neg (by omega) (Ev.const ?_))
    rw [List.drop_of_length_le (by omega), List.drop_of_length_le (by omega)]; rfl
  | succ d ih =>
    intro j hj
    have h1 : j < a4.length := by omega
    have h2 : j < b4.length := by omega
    refine Ev.step (fun k => by simp only [glossatorlaw09_same.l0]; rfl) (Ev.pos (by omega) (Ev.pos (by omega) (Ev.pos (by omega) ?_)))
    rw [rdT_get a4 j h1, rdT_get b4 j h2, wrap_id (by omega) (by omega)]
    refine Ev.bind (hf _ (List.getElem_mem h1) _ (List.getElem_mem h2)) ?_
    rw [List.drop_eq_getElem_cons h1, List.drop_eq_getElem_cons h2]
    simp only [Each.eqL]
    by_cases hq : f a4[j] b4[j] = true
    · refine Ev.pos hq (Ev.res (ih (j + 1) (by omega)) ?_)
      rw [hq]; rfl
    · refine Ev.neg hq (Ev.const ?_)
      rw [Bool.eq_false_iff.2 hq]; rfl
theorem same_f : ∀ (m : Nat) (a b : S25), dep25 a < m → wfS25 a → wfS25 b → Ev (fun k => glossatorlaw09_same.f k a.f0 a.f1 a.f2 a.f3 a.f4 b.f0 b.f1 b.f2 b.f3 b.f4) (Each.eqF T25 m a b) := by
  intro m
  induction m with
  | zero => intro a b h; omega
  | succ m ih =>
    rintro ⟨a0, a1, a2, a3, a4⟩ ⟨b0, b1, b2, b3, b4⟩ hd ha hb
    obtain ⟨hla, hwa⟩ := wf_kids ha
    obtain ⟨hlb, hwb⟩ := wf_kids hb
    have e : Each.eqF T25 (m + 1) ⟨a0, a1, a2, a3, a4⟩ ⟨b0, b1, b2, b3, b4⟩ = (a0 == b0 && a1 == b1 && a2 == b2 && a3.toList == b3.toList && Each.eqL (Each.eqF T25 m) a4 b4) := rfl
    rw [e]
    refine Ev.step (fun k => by simp only [glossatorlaw09_same.f]; rfl) ?_
    by_cases c0 : a0 = b0
    · refine Ev.pos c0 ?_
      by_cases c1 : a1 = b1
      · refine Ev.neg (by simp [c1]) ?_
        by_cases c2 : a2 = b2
        · refine Ev.pos c2 ?_
          by_cases c3 : a3.toList = b3.toList
          · refine Ev.pos c3 ?_
            by_cases c4 : a4.length = b4.length
            · rw [show ((a4.length : Int) != (b4.length : Int)) = false by simp [c4]]
              refine Ev.step (fun k => by simp only [glossatorlaw09_same.j0]; rfl) (Ev.neg (by simp) (Ev.res (same_l0 (Each.eqF T25 m) a0 a1 a2 a3 a4 b0 b1 b2 b3 b4 c4 hla (fun x hx y hy => ih x y (by have := dep_kid (f0 := a0) (f1 := a1) (f2 := a2) (f3 := a3) hx; omega) (hwa x hx) (hwb y hy)) a4.length 0 (by omega)) ?_))
              simp [c0, c1, c2, c3]
            · rw [show ((a4.length : Int) != (b4.length : Int)) = true by simp; omega, Each.eqL_len _ _ _ c4, Bool.and_false]
              exact same_j0t ..
          · refine Ev.neg c3 (Ev.res (same_j0t ..) ?_)
            simp [c3]
        · refine Ev.neg c2 (Ev.res (same_j0t ..) ?_)
          simp [c2]
      · refine Ev.pos (by simpa using c1) (Ev.res (same_j0t ..) ?_)
        simp [c1]
    · refine Ev.neg c0 (Ev.res (same_j0t ..) ?_)
      simp [c0]
theorem eqL_refl (f : S25 → S25 → Bool) : ∀ (l : List S25), (∀ x ∈ l, f x x = true) → Each.eqL f l l = true
  | [], _ => rfl
  | x :: l, h => by simp only [Each.eqL, h x (by simp), eqL_refl f l (fun y hy => h y (by simp [hy])), Bool.and_self]
theorem eqF_refl : ∀ (m : Nat) (a : S25), dep25 a < m → Each.eqF T25 m a a = true := by
  intro m
  induction m with
  | zero => intro a h; omega
  | succ m ih =>
    rintro ⟨a0, a1, a2, a3, a4⟩ hd
    have e : Each.eqF T25 (m + 1) ⟨a0, a1, a2, a3, a4⟩ ⟨a0, a1, a2, a3, a4⟩ = (a0 == a0 && a1 == a1 && a2 == a2 && a3.toList == a3.toList && Each.eqL (Each.eqF T25 m) a4 a4) := rfl
    rw [e, eqL_refl _ _ (fun x hx => ih x (by have := dep_kid (f0 := a0) (f1 := a1) (f2 := a2) (f3 := a3) hx; omega))]
    simp
def hdrR (a : Int) (ng : Bool) (c : Int) (d : ByteArray) : Bool := oneR (if a = 13 then ⟨a, ng, c, d, [z25]⟩ else ⟨a, ng, c, d, []⟩)
def numR (p : S25) (a : Int) (d : ByteArray) : Bool := !(decide (p.f0 = 13 ∧ p.f2 / 2 = 1) && (decide (a = 9) && bigR d))
def topR (ps : List S25) (a : Int) (d : ByteArray) : Bool := match ps with | [] => true | p :: _ => numR p a d
def mayR (b : Bld.BS S25) (a : Int) (ng : Bool) (c : Int) (d : ByteArray) : Int :=
  if hdrR a ng c d = false then 4 else if topR b.open_ a d = false then 4 else if b.depth < (b.open_.length : Int) + depR ⟨a, ng, c, d, []⟩ ∨ 65536 ≤ b.count then 8 else 0
def putR (b : Bld.BS S25) (a : Int) (ng : Bool) (c : Int) (d : ByteArray) : Int × Bld.BS S25 :=
  if b.whole = true then (4, b) else if a = 15 then Bld.closeX MK25 b ng c d else if mayR b a ng c d = 0 then
    (0, if a ≠ 11 ∧ a ≠ 12 ∧ a ≠ 13 then Bld.addB MK25 { b with count := b.count + 1 } ⟨a, ng, c, d, []⟩ else { b with count := b.count + 1, open_ := ⟨a, ng, c, d, []⟩ :: b.open_ }) else (mayR b a ng c d, b)
def psh (p v : S25) : S25 := ⟨p.f0, p.f1, p.f2, p.f3, p.f4 ++ [v]⟩
theorem addR_nil (v : S25) : Bld.addR MK25 v [] = ([], some v) := rfl
theorem addR_cons (v p : S25) (ps : List S25) : Bld.addR MK25 v (p :: ps) = if p.f0 = 13 then Bld.addR MK25 (psh p v) ps else (psh p v :: ps, none) := rfl
theorem addB_nil (b : Bld.BS S25) (v : S25) (h : b.open_ = []) : Bld.addB MK25 b v = { b with open_ := [], whole := true, v := v } := by unfold Bld.addB; rw [h]; rfl
theorem addB_tag (b : Bld.BS S25) (v p : S25) (ps : List S25) (h : b.open_ = p :: ps) (h13 : p.f0 = 13) : Bld.addB MK25 b v = Bld.addB MK25 { b with open_ := ps } (psh p v) := by
  unfold Bld.addB; rw [h, addR_cons, if_pos h13]
theorem addB_not (b : Bld.BS S25) (v p : S25) (ps : List S25) (h : b.open_ = p :: ps) (h13 : p.f0 ≠ 13) : Bld.addB MK25 b v = { b with open_ := psh p v :: ps } := by
  unfold Bld.addB; rw [h, addR_cons, if_neg h13]
theorem one_tag (c : Int) (ng : Bool) (d : ByteArray) (y : S25) (h : oneR ⟨13, ng, c, d, [z25]⟩ = true) : oneR ⟨13, ng, c, d, [y]⟩ = !(decide (c / 2 = 1) && (decide (y.f0 = 9) && bigR y.f3)) := by
  simp [oneR, rd_T25, z25] at h ⊢
  obtain ⟨⟨h1, h2⟩, h3⟩ := h
  simp [h1, h2, h3, Bool.or_assoc]
theorem tag2_one (a : Int) (ng : Bool) (c : Int) (d : ByteArray) : oneR ⟨13, false, 2, ⟨#[]⟩, [⟨a, ng, c, d, []⟩]⟩ = !(decide (a = 9) && bigR d) := by
  simp [oneR, rd_T25, bitsR]
theorem hdr_kids (k : Int) (ng : Bool) (n : Int) (s : ByteArray) (l : List S25) (h : oneR ⟨k, ng, n, s, l⟩ = true) : hdrR k ng n s = true := by
  unfold hdrR
  by_cases h13 : k = 13
  · subst h13
    rw [if_pos rfl]
    simp [oneR, rd_T25, z25] at h ⊢
    exact ⟨h.1, h.2.1⟩
  · rw [if_neg h13]
    simp only [oneR, if_neg h13, List.length_nil] at h ⊢
    by_cases h12 : k = 12
    · simp only [h12] at h ⊢
      simp at h ⊢
      exact ⟨h.1, h.2.1⟩
    · simpa only [h12, if_false] using h
theorem hdr_tag (ng : Bool) (n : Int) (s : ByteArray) (l : List S25) (h : oneR ⟨13, ng, n, s, l⟩ = true) : ∃ y, l = [y] ∧ numR ⟨13, ng, n, s, []⟩ y.f0 y.f3 = true := by
  simp [oneR] at h
  match l, h.2.2.1 with
  | [y], _ =>
    refine ⟨y, rfl, ?_⟩
    have h2 := h.2.2.2
    simp [rd_T25] at h2
    simp [numR]
    exact or_assoc.1 h2
theorem hdr_map (ng : Bool) (n : Int) (s : ByteArray) (l : List S25) (h : oneR ⟨12, ng, n, s, l⟩ = true) : l.length % 2 = 0 := by
  simp [oneR] at h
  omega
theorem one_of_hdr (k : Int) (ng : Bool) (n : Int) (s : ByteArray) (l : List S25) (h : hdrR k ng n s = true) (h12 : k = 12 → l.length % 2 = 0) (h13 : k = 13 → ∃ y, l = [y] ∧ numR ⟨13, ng, n, s, []⟩ y.f0 y.f3 = true) : oneR ⟨k, ng, n, s, l⟩ = true := by
  unfold hdrR at h
  by_cases e13 : k = 13
  · subst e13
    obtain ⟨y, rfl, hy⟩ := h13 rfl
    rw [if_pos rfl] at h
    rw [one_tag n ng s y h]
    simp [numR] at hy
    simp
    exact hy
  · rw [if_neg e13] at h
    simp only [oneR, if_neg e13, List.length_nil] at h ⊢
    by_cases e12 : k = 12
    · have := h12 e12
      simp only [e12] at h ⊢
      simp at h ⊢
      exact ⟨h.1, h.2, by omega⟩
    · simpa only [e12, if_false] using h
theorem dep_leaf (a : Int) (ng : Bool) (c : Int) (d : ByteArray) : 0 ≤ depR ⟨a, ng, c, d, []⟩ ∧ depR ⟨a, ng, c, d, []⟩ ≤ 1 := by
  simp only [depR, depRL]
  split
  · split <;> omega
  · omega
theorem may_f (b : Bld.BS S25) (a : Int) (ng : Bool) (c : Int) (d : ByteArray) (ha : (Lit.int .i64 a).wf = true) (hc : (Lit.int .u64 c).wf = true) (hd : d.size ≤ 140737488351232) : Ev (fun k => Bld.mayX MK25 (EN25 k) b a ng c d) (mayR b a ng c d) := by
  have hz : wfS25 z25 := by simp only [z25, wfS25]; exact ⟨by decide, trivial, by decide, by decide, by decide, trivial⟩
  have hev : wfS25 ⟨a, ng, c, d, []⟩ := by simp only [wfS25]; exact ⟨ha, trivial, hc, hd, by simp, trivial⟩
  have h1 : Ev (fun k => (EN25 k).one (Bld.rightX MK25 a ng c d)) (hdrR a ng c d) := by
    have e : Bld.rightX MK25 a ng c d = if a = 13 then ⟨a, ng, c, d, [z25]⟩ else ⟨a, ng, c, d, []⟩ := rfl
    rw [e]
    unfold hdrR
    refine one_f _ ?_
    split
    · simp only [wfS25]; exact ⟨ha, trivial, hc, hd, by simp, hz, trivial⟩
    · exact hev
  have h2 : Ev (fun k => Bld.topX MK25 (EN25 k) b.open_ a ng c d) (topR b.open_ a d) := by
    cases b.open_ with
    | nil => exact Ev.const rfl
    | cons p ps =>
      show Ev (fun k => if p.f0 = 13 ∧ p.f2 / 2 = 1 then (EN25 k).one ⟨13, false, 2, ⟨#[]⟩, [⟨a, ng, c, d, []⟩]⟩ else some true) (numR p a d)
      by_cases h : p.f0 = 13 ∧ p.f2 / 2 = 1
      · refine Ev.pos h ?_
        have e := one_f ⟨13, false, 2, ⟨#[]⟩, [⟨a, ng, c, d, []⟩]⟩ (by simp only [wfS25]; exact ⟨by decide, trivial, by decide, by decide, by simp, by simp only [wfS25]; exact ⟨ha, trivial, hc, hd, by simp, trivial⟩, trivial⟩)
        rw [tag2_one] at e
        unfold numR
        rw [decide_eq_true h, Bool.true_and]
        exact e
      · refine Ev.neg h ?_
        unfold numR
        rw [decide_eq_false h]
        exact Ev.const rfl
  have h3 : Ev (fun k => (EN25 k).dep (MK25.ev a ng c d)) (depR ⟨a, ng, c, d, []⟩) := depth_f _ ⟨a, ng, c, d, []⟩ (Nat.lt_succ_self _) (by simp [dep25, depL25]) hev
  refine Ev.congr (fun k => by unfold Bld.mayX; rfl) (Ev.bind h1 ?_)
  unfold mayR
  by_cases e1 : hdrR a ng c d = false
  · rw [if_pos e1]
    exact Ev.pos e1 (Ev.const rfl)
  rw [if_neg e1]
  refine Ev.neg e1 (Ev.bind h2 ?_)
  by_cases e2 : topR b.open_ a d = false
  · rw [if_pos e2]
    exact Ev.pos e2 (Ev.const rfl)
  rw [if_neg e2]
  refine Ev.neg e2 (Ev.bind h3 ?_)
  have := dep_leaf a ng c d
  exact Ev.pos (by omega) (Ev.const rfl)
theorem put_f (b : Bld.BS S25) (a : Int) (ng : Bool) (c : Int) (d : ByteArray) (ha : (Lit.int .i64 a).wf = true) (hc : (Lit.int .u64 c).wf = true) (hd : d.size ≤ 140737488351232) : Ev (fun k => Bld.putX MK25 (EN25 k) b a ng c d) (putR b a ng c d) := by
  refine Ev.congr (fun k => by unfold Bld.putX; rfl) ?_
  unfold putR
  by_cases h1 : b.whole = true
  · rw [if_pos h1]; exact Ev.pos h1 (Ev.const rfl)
  rw [if_neg h1]
  refine Ev.neg h1 ?_
  by_cases h2 : a = 15
  · rw [if_pos h2]; exact Ev.pos h2 (Ev.const rfl)
  rw [if_neg h2]
  refine Ev.neg h2 (Ev.bind (may_f b a ng c d ha hc hd) ?_)
  by_cases h3 : mayR b a ng c d = 0
  · exact Ev.pos h3 (Ev.const (by rw [if_pos h3]; rfl))
  · exact Ev.neg h3 (Ev.const (by rw [if_neg h3]))
def treeR : List S37 → Int → Bld.BS S25 → S25 × Int × Int
  | [], i, b => if b.whole = true then (b.v, i, 0) else (z25, i, 3)
  | e :: l, i, b => if (putR b e.f0 e.f1 e.f2 e.f3).1 = 0 then treeR l (i + 1) (putR b e.f0 e.f1 e.f2 e.f3).2 else (z25, i, (putR b e.f0 e.f1 e.f2 e.f3).1)
theorem treeX_f : ∀ (l : List S37) (i : Int) (b : Bld.BS S25), (∀ e ∈ l, wfS37 e) → Ev (fun k => Bld.treeX MK25 (EN25 k) EO37 l i b) (treeR l i b)
  | [], i, b, _ => by
    refine Ev.const ?_
    simp only [treeR]
    rfl
  | e :: l, i, b, h => by
    have he := h e List.mem_cons_self
    obtain ⟨a, ng, c, d⟩ := e
    refine Ev.congr (fun k => by unfold Bld.treeX; rfl) (Ev.bind (put_f b a ng c d he.1 he.2.2.1 he.2.2.2) ?_)
    simp only [treeR]
    by_cases h0 : (putR b a ng c d).1 = 0
    · rw [if_pos h0]; exact Ev.pos h0 (treeX_f l (i + 1) _ (fun e he => h e (List.mem_cons_of_mem _ he)))
    · rw [if_neg h0]; exact Ev.neg h0 (Ev.const rfl)
theorem tree_f (l : List S37) (h : ∀ e ∈ l, wfS37 e) : Ev (fun k => event_Tree.f k l) ((treeR l 0 (Bld.newB MK25 64)).1.f0, (treeR l 0 (Bld.newB MK25 64)).1.f1, (treeR l 0 (Bld.newB MK25 64)).1.f2, (treeR l 0 (Bld.newB MK25 64)).1.f3, (treeR l 0 (Bld.newB MK25 64)).1.f4, (treeR l 0 (Bld.newB MK25 64)).2.1, (treeR l 0 (Bld.newB MK25 64)).2.2) :=
  Ev.congr (fun k => by unfold event_Tree.f; rfl) (Ev.bind (treeX_f l 0 _ h) (Ev.const rfl))
def feed : List S37 → Bld.BS S25 → Option (Bld.BS S25)
  | [], b => some b
  | e :: l, b => if (putR b e.f0 e.f1 e.f2 e.f3).1 = 0 then feed l (putR b e.f0 e.f1 e.f2 e.f3).2 else none
theorem feed_append : ∀ (p q : List S37) (b b1 : Bld.BS S25), feed p b = some b1 → feed (p ++ q) b = feed q b1
  | [], q, b, b1, h => by injection h with h; rw [h]; rfl
  | e :: p, q, b, b1, h => by
    simp only [feed, List.cons_append] at h ⊢
    split at h
    · rename_i h0; rw [if_pos h0]; exact feed_append p q _ _ h
    · cases h
theorem feed_cons {e : S37} {l : List S37} {b b1 : Bld.BS S25} (h : putR b e.f0 e.f1 e.f2 e.f3 = (0, b1)) : feed (e :: l) b = feed l b1 := by
  simp only [feed, h, if_true]
theorem put_ok (b : Bld.BS S25) (a : Int) (ng : Bool) (c : Int) (d : ByteArray) (hw : b.whole = false) (h15 : a ≠ 15) (hh : hdrR a ng c d = true) (ht : topR b.open_ a d = true) (hd : (b.open_.length : Int) + depR ⟨a, ng, c, d, []⟩ ≤ b.depth) (hc : b.count < 65536) :
    putR b a ng c d = (0, if a ≠ 11 ∧ a ≠ 12 ∧ a ≠ 13 then Bld.addB MK25 { b with count := b.count + 1 } ⟨a, ng, c, d, []⟩ else { b with count := b.count + 1, open_ := ⟨a, ng, c, d, []⟩ :: b.open_ }) := by
  have hm : mayR b a ng c d = 0 := by
    unfold mayR
    rw [if_neg (by simp [hh]), if_neg (by simp [ht]), if_neg (by omega)]
  unfold putR
  rw [if_neg (by simp [hw]), if_neg h15, if_pos hm]
theorem close_ok (b : Bld.BS S25) (p : S25) (ps : List S25) (hw : b.whole = false) (ho : b.open_ = p :: ps) (h13 : p.f0 ≠ 13) (hk : p.f0 = 12 → p.f4.length % 2 = 0) :
    putR b 15 false 0 ⟨#[]⟩ = (0, Bld.addB MK25 { b with open_ := ps } p) := by
  unfold putR
  rw [if_neg (by simp [hw]), if_pos rfl]
  unfold Bld.closeX
  rw [ho]
  have hc : (false = false ∧ (0 : Int) = 0 ∧ (⟨#[]⟩ : ByteArray) = ⟨#[]⟩) ∧ MK25.k p ≠ 13 ∧ ¬ (MK25.k p = 12 ∧ (MK25.kids p).length % 2 = 1) := by
    refine ⟨⟨rfl, rfl, rfl⟩, h13, ?_⟩
    rintro ⟨h1, h2⟩
    have e1 : p.f0 = 12 := h1
    have e2 : p.f4.length % 2 = 1 := h2
    have := hk e1
    omega
  show (if (false = false ∧ (0 : Int) = 0 ∧ (⟨#[]⟩ : ByteArray) = ⟨#[]⟩) ∧ MK25.k p ≠ 13 ∧ ¬ (MK25.k p = 12 ∧ (MK25.kids p).length % 2 = 1) then ((0 : Int), Bld.addB MK25 { b with open_ := ps } p) else (4, b)) = _
  exact if_pos hc
theorem okR_parts (k : Int) (ng : Bool) (n : Int) (s : ByteArray) (l : List S25) (h : okR ⟨k, ng, n, s, l⟩ = true) : oneR ⟨k, ng, n, s, l⟩ = true ∧ (leafR k = true → l = []) := by
  unfold okR at h
  simp only [Bool.and_eq_true, Bool.not_eq_true', Bool.and_eq_false_iff, decide_eq_false_iff_not] at h
  refine ⟨h.1, fun hl => ?_⟩
  rcases h.2 with h2 | h2
  · rw [hl] at h2; cases h2
  · exact List.eq_nil_of_length_eq_zero (by omega)
theorem one_range (y : S25) (h : oneR y = true) : 0 ≤ y.f0 ∧ y.f0 ≤ 14 := by
  simp only [oneR, Bool.and_eq_true, decide_eq_true_eq] at h
  exact h.1.1.1
theorem topR_not (p : S25) (ps : List S25) (a : Int) (d : ByteArray) (h : p.f0 ≠ 13) : topR (p :: ps) a d = true := by
  simp [topR, numR, h]
theorem cntL_append : ∀ (a b : List S25), cntL (a ++ b) = cntL a + cntL b
  | [], b => by simp [cntL]
  | x :: a, b => by simp only [List.cons_append, cntL, cntL_append a b]; omega
mutual
theorem feed_ev : ∀ x : S25, (subs x).all okR = true → ∀ b : Bld.BS S25, b.whole = false → topR b.open_ x.f0 x.f3 = true → (b.open_.length : Int) + depR x ≤ b.depth → b.count + cnt x ≤ 65536 →
    feed (evR x) b = some (Bld.addB MK25 { b with count := b.count + cnt x } x)
  | ⟨k, ng, n, s, l⟩, h, b, hw, ht, hd, hc => by
    simp only [subs, List.all_cons, Bool.and_eq_true] at h
    obtain ⟨h1, h2⟩ := h
    obtain ⟨h1, hl⟩ := okR_parts k ng n s l h1
    have hr := one_range _ h1
    have hhd := hdr_kids k ng n s l h1
    have hdl := dep_leaf k ng n s
    have hdp := depRL_pos l
    simp only [cnt] at hc ⊢
    simp only [depR] at hd
    simp only at ht hr
    have hdl2 : (b.open_.length : Int) + depR ⟨k, ng, n, s, []⟩ ≤ b.depth := by
      simp only [depR, depRL]
      split at hd
      · rename_i h0; rw [if_pos h0]; exact hd
      · rename_i h0; rw [if_neg h0]; omega
    have hp := put_ok b k ng n s hw (by omega) hhd ht hdl2 (by omega)
    simp only [evR]
    by_cases hlf : leafR k = true
    · have hn := hl hlf
      subst hn
      have hk : k ≠ 11 ∧ k ≠ 12 ∧ k ≠ 13 := by simpa [leafR] using hlf
      rw [if_pos hk] at hp
      rw [if_neg (by omega), feed_cons hp]
      simp [evRL, feed, cntL]
    · have hk : ¬ (k ≠ 11 ∧ k ≠ 12 ∧ k ≠ 13) := by intro h; exact hlf (by simp [leafR, h])
      rw [if_neg hk] at hp
      rw [if_neg hlf] at hd
      rw [feed_cons hp]
      by_cases h13 : k = 13
      · subst h13
        rw [if_neg (by decide), List.append_nil]
        obtain ⟨y, rfl, hy⟩ := hdr_tag ng n s l h1
        simp only [evRL, List.append_nil]
        simp only [subsL, List.append_nil] at h2
        simp only [depRL] at hd
        simp only [cntL] at hc ⊢
        have hdy := depR_pos y
        have e := feed_ev y h2 { b with count := b.count + 1, open_ := ⟨13, ng, n, s, []⟩ :: b.open_ } hw (by
            show numR ⟨13, ng, n, s, []⟩ y.f0 y.f3 = true
            exact hy) (by simp only [List.length_cons]; omega) (by show b.count + 1 + _ ≤ _; omega)
        rw [e, addB_tag _ y ⟨13, ng, n, s, []⟩ b.open_ rfl rfl]
        have e2 : psh ⟨13, ng, n, s, []⟩ y = ⟨13, ng, n, s, [y]⟩ := rfl
        rw [e2]
        congr 3
        show b.count + 1 + (cnt y : Int) = _
        omega
      · have h1112 : k = 11 ∨ k = 12 := by omega
        rw [if_pos h1112]
        have e := feed_evL l h2 { b with count := b.count + 1, open_ := ⟨k, ng, n, s, []⟩ :: b.open_ } ⟨k, ng, n, s, []⟩ b.open_ hw rfl h13 (by simp only [List.length_cons]; omega) (by show b.count + 1 + _ ≤ _; omega)
        rw [feed_append _ _ _ _ e]
        have hcl := close_ok { b with count := b.count + 1 + (cntL l : Int), open_ := ⟨k, ng, n, s, [] ++ l⟩ :: b.open_ } ⟨k, ng, n, s, [] ++ l⟩ b.open_ hw rfl h13 (by
            intro h12
            have h12' : k = 12 := h12
            subst h12'
            exact hdr_map ng n s l h1)
        rw [feed_cons hcl]
        simp only [feed, List.nil_append]
        congr 3
        omega
theorem feed_evL : ∀ l : List S25, (subsL l).all okR = true → ∀ (b : Bld.BS S25) (p : S25) (ps : List S25), b.whole = false → b.open_ = p :: ps → p.f0 ≠ 13 → (b.open_.length : Int) + depRL l ≤ b.depth → b.count + cntL l ≤ 65536 →
    feed (evRL l) b = some { b with open_ := ⟨p.f0, p.f1, p.f2, p.f3, p.f4 ++ l⟩ :: ps, count := b.count + cntL l }
  | [], _, b, p, ps, hw, ho, h13, hd, hc => by
    simp only [evRL, feed, cntL, List.append_nil]
    obtain ⟨o, w, v, c, d⟩ := b
    simp only at ho
    subst ho
    cases p
    simp
  | x :: l, h, b, p, ps, hw, ho, h13, hd, hc => by
    simp only [subsL, List.all_append, Bool.and_eq_true] at h
    simp only [depRL] at hd
    simp only [cntL] at hc
    have e1 := feed_ev x h.1 b hw (by rw [ho]; exact topR_not p ps _ _ h13) (by omega) (by omega)
    rw [addB_not { b with count := b.count + (cnt x : Int) } x p ps ho h13] at e1
    simp only [evRL]
    rw [feed_append _ _ _ _ e1]
    have e2 := feed_evL l h.2 { b with open_ := psh p x :: ps, count := b.count + (cnt x : Int) } (psh p x) ps hw rfl h13 (by simp only [List.length_cons]; rw [ho, List.length_cons] at hd; omega) (by show b.count + (cnt x : Int) + _ ≤ _; omega)
    rw [e2]
    simp only [psh, cntL, List.append_assoc, List.singleton_append]
    rw [show b.count + (cnt x : Int) + (cntL l : Int) = b.count + ((cnt x + cntL l : Nat) : Int) by omega]
end
theorem treeR_feed : ∀ (p l : List S37) (i : Int) (b b1 : Bld.BS S25), feed p b = some b1 → treeR (p ++ l) i b = treeR l (i + p.length) b1
  | [], l, i, b, b1, h => by injection h with h; subst h; simp
  | e :: p, l, i, b, b1, h => by
    simp only [feed, List.cons_append, treeR] at h ⊢
    split at h
    · rename_i h0; rw [if_pos h0, treeR_feed p l _ _ _ h, List.length_cons]; congr 1; omega
    · cases h
theorem treeR_ev (x : S25) (h : checkR x = 0) : treeR (evR x) 0 (Bld.newB MK25 64) = (x, ((evR x).length : Int), 0) := by
  have h3 : depR x ≤ 64 ∧ cnt x ≤ 65536 ∧ (subs x).all okR = true := by
    unfold checkR at h
    split at h
    · cases h
    split at h
    · cases h
    split at h
    · rename_i h1 h2 h3; exact ⟨by omega, by omega, h3⟩
    · cases h
  have e := feed_ev x h3.2.2 (Bld.newB MK25 64) rfl rfl (by show ((0 : Nat) : Int) + depR x ≤ min (max 64 0) 64; omega) (by show (0 : Int) + _ ≤ _; omega)
  have e2 := treeR_feed _ [] 0 _ _ e
  rw [List.append_nil] at e2
  rw [e2, addB_nil _ _ rfl]
  simp [treeR]
def nodeW (y : S25) : Prop := (Lit.int .i64 y.f0).wf = true ∧ (Lit.int .u64 y.f2).wf = true ∧ y.f3.size ≤ 140737488351232
def allR (x : S25) : Prop := ∀ y ∈ subs x, okR y = true ∧ nodeW y
def allRL (l : List S25) : Prop := ∀ y ∈ subsL l, okR y = true ∧ nodeW y
theorem allR_of (k : Int) (ng : Bool) (n : Int) (s : ByteArray) (l : List S25) (h1 : okR ⟨k, ng, n, s, l⟩ = true) (h2 : nodeW ⟨k, ng, n, s, l⟩) (h3 : allRL l) : allR ⟨k, ng, n, s, l⟩ := by
  intro y hy
  rw [subs] at hy
  rcases List.mem_cons.1 hy with rfl | hy
  · exact ⟨h1, h2⟩
  · exact h3 y hy
theorem allRL_nil : allRL [] := fun y hy => by simp [subsL] at hy
theorem allRL_snoc (l : List S25) (v : S25) (h1 : allRL l) (h2 : allR v) : allRL (l ++ [v]) := by
  have e : ∀ l : List S25, subsL (l ++ [v]) = subsL l ++ subs v := by
    intro l
    induction l with
    | nil => simp [subsL]
    | cons x l ih => simp only [List.cons_append, subsL, ih, List.append_assoc]
  intro y hy
  rw [e, List.mem_append] at hy
  rcases hy with hy | hy
  · exact h1 y hy
  · exact h2 y hy
theorem evRL_snoc (l : List S25) (v : S25) : evRL (l ++ [v]) = evRL l ++ evR v := by
  induction l with
  | nil => simp [evRL]
  | cons x l ih => simp only [List.cons_append, evRL, ih, List.append_assoc]
theorem depRL_snoc (l : List S25) (v : S25) : depRL (l ++ [v]) = max (depRL l) (depR v) := by
  induction l with
  | nil => have := depR_pos v; simp only [List.nil_append, depRL]; omega
  | cons x l ih => simp only [List.cons_append, depRL, ih]; omega
def ValO (d : Int) : List S25 → Prop
  | [] => True
  | p :: ps => hdrR p.f0 p.f1 p.f2 p.f3 = true ∧ (p.f0 = 11 ∨ p.f0 = 12 ∨ p.f0 = 13) ∧ (p.f0 = 13 → p.f4 = []) ∧ nodeW p ∧ allRL p.f4 ∧ (ps.length : Int) + 1 + depRL p.f4 ≤ d ∧ ValO d ps
def cntO : List S25 → Nat
  | [] => 0
  | p :: ps => 1 + cntL p.f4 + cntO ps
def evO : List S25 → List S37
  | [] => []
  | p :: ps => evO ps ++ (⟨p.f0, p.f1, p.f2, p.f3⟩ :: evRL p.f4)
theorem addR_val (d : Int) : ∀ (ps : List S25) (v : S25), ValO d ps → allR v → topR ps v.f0 v.f3 = true → (ps.length : Int) + depR v ≤ d →
    match Bld.addR MK25 v ps with
    | (ys, none) => ValO d ys ∧ cntO ys = cntO ps + cnt v ∧ evO ys = evO ps ++ evR v
    | (ys, some u) => ys = [] ∧ allR u ∧ depR u ≤ d ∧ cnt u = cntO ps + cnt v ∧ evR u = evO ps ++ evR v
  | [], v, h, hv, ht, hd => by
    rw [addR_nil]
    simp only [List.length_nil, cntO, evO, List.nil_append] at hd ⊢
    exact ⟨by trivial, hv, by omega, by omega, by trivial⟩
  | p :: ps, v, h, hv, ht, hd => by
    obtain ⟨h1, h2, h3, h4, h5, h6, h7⟩ := h
    rw [addR_cons]
    simp only [List.length_cons] at hd
    by_cases h13 : p.f0 = 13
    · rw [if_pos h13]
      have hk := h3 h13
      obtain ⟨k, ng, n, s, l⟩ := p
      simp only at h13 hk h1
      subst h13; subst hk
      have e : psh ⟨13, ng, n, s, []⟩ v = ⟨13, ng, n, s, [v]⟩ := rfl
      rw [e]
      have ho : oneR ⟨13, ng, n, s, [v]⟩ = true := one_of_hdr 13 ng n s [v] h1 (by intro h; cases h) (fun _ => ⟨v, rfl, ht⟩)
      have hok : okR ⟨13, ng, n, s, [v]⟩ = true := by simp [okR, ho, leafR]
      have hall : allR ⟨13, ng, n, s, [v]⟩ := allR_of 13 ng n s [v] hok h4 (by have := allRL_snoc [] v allRL_nil hv; simpa using this)
      have hdp : depR ⟨13, ng, n, s, [v]⟩ = depR v + 1 := by
        have := depR_pos v
        simp only [depR, depRL]
        rw [if_neg (by decide)]
        omega
      have hcn : cnt ⟨13, ng, n, s, [v]⟩ = cnt v + 1 := by simp only [cnt, cntL, Nat.add_zero]
      have hev : evR ⟨13, ng, n, s, [v]⟩ = ⟨13, ng, n, s⟩ :: evR v := by simp [evR, evRL]
      have ih := addR_val d ps ⟨13, ng, n, s, [v]⟩ h7 hall (by
        cases ps with
        | nil => rfl
        | cons q qs => simp [topR, numR]) (by rw [hdp]; omega)
      revert ih
      split
      · rintro ⟨i1, i2, i3⟩
        refine ⟨i1, ?_, ?_⟩
        · rw [i2, hcn]; simp only [cntO, cntL]; omega
        · rw [i3, hev]; simp only [evO, evRL, List.append_assoc, List.cons_append, List.nil_append]
      · rintro ⟨i1, i2, i3, i4, i5⟩
        refine ⟨i1, i2, i3, ?_, ?_⟩
        · rw [i4, hcn]; simp only [cntO, cntL]; omega
        · rw [i5, hev]; simp only [evO, evRL, List.append_assoc, List.cons_append, List.nil_append]
    · rw [if_neg h13]
      have hc : cntL (p.f4 ++ [v]) = cntL p.f4 + cnt v := by rw [cntL_append]; simp [cntL]
      refine ⟨⟨h1, h2, fun h => absurd h h13, h4, allRL_snoc _ _ h5 hv, ?_, h7⟩, ?_, ?_⟩
      · show (ps.length : Int) + 1 + depRL (p.f4 ++ [v]) ≤ d
        rw [depRL_snoc]; omega
      · show 1 + cntL (p.f4 ++ [v]) + cntO ps = _
        rw [hc]; simp only [cntO]; omega
      · show evO ps ++ (⟨p.f0, p.f1, p.f2, p.f3⟩ :: evRL (p.f4 ++ [v])) = _
        rw [evRL_snoc]; simp only [evO, List.append_assoc, List.cons_append]
structure Val (b : Bld.BS S25) : Prop where
  c0 : 0 ≤ b.count
  c1 : b.count ≤ 65536
  op : b.whole = false → ValO b.depth b.open_ ∧ b.count = cntO b.open_
  wh : b.whole = true → b.open_ = [] ∧ allR b.v ∧ depR b.v ≤ b.depth ∧ b.count = cnt b.v
def evB (b : Bld.BS S25) : List S37 := if b.whole = true then evR b.v else evO b.open_
theorem val_new (d : Int) : Val (Bld.newB MK25 d) := ⟨by show (0 : Int) ≤ 0; omega, by show (0 : Int) ≤ 65536; omega, fun _ => ⟨trivial, rfl⟩, fun h => by cases h⟩
theorem val_add (b : Bld.BS S25) (v : S25) (hw : b.whole = false) (h : ValO b.depth b.open_) (hv : allR v) (ht : topR b.open_ v.f0 v.f3 = true) (hd : (b.open_.length : Int) + depR v ≤ b.depth) (hc : b.count = cntO b.open_ + cnt v) (hc1 : b.count ≤ 65536) :
    Val (Bld.addB MK25 b v) ∧ evB (Bld.addB MK25 b v) = evO b.open_ ++ evR v := by
  have ha := addR_val b.depth b.open_ v h hv ht hd
  unfold Bld.addB
  revert ha
  split
  · rename_i ys heq
    rw [heq]
    rintro ⟨i1, i2, i3⟩
    refine ⟨⟨by show 0 ≤ b.count; omega, hc1, fun _ => ⟨i1, ?_⟩, fun h => ?_⟩, ?_⟩
    · show b.count = (cntO ys : Int); omega
    · rw [show (b.whole = true) = (false = true) by rw [hw]] at h; cases h
    · unfold evB
      rw [if_neg (by simp [hw])]
      exact i3
  · rename_i ys u heq
    rw [heq]
    rintro ⟨i1, i2, i3, i4, i5⟩
    refine ⟨⟨by show 0 ≤ b.count; omega, hc1, fun h => (by cases h), fun _ => ⟨i1, i2, i3, ?_⟩⟩, ?_⟩
    · show b.count = (cnt u : Int); omega
    · unfold evB
      rw [if_pos rfl]
      exact i5
theorem val_put (b b1 : Bld.BS S25) (a : Int) (ng : Bool) (c : Int) (d : ByteArray) (h : Val b) (ha : (Lit.int .i64 a).wf = true) (hc : (Lit.int .u64 c).wf = true) (hd : d.size ≤ 140737488351232) (hp : putR b a ng c d = (0, b1)) :
    Val b1 ∧ b1.depth = b.depth ∧ b.whole = false ∧ evB b1 = evB b ++ [⟨a, ng, c, d⟩] := by
  unfold putR at hp
  split at hp
  · cases hp
  rename_i hw
  have hw' : b.whole = false := by simpa using hw
  obtain ⟨ho, hcn⟩ := h.op hw'
  have hevb : evB b = evO b.open_ := by unfold evB; rw [if_neg hw]
  have hc1 := h.c1
  split at hp
  · rename_i h15
    subst h15
    unfold Bld.closeX at hp
    split at hp
    · cases hp
    rename_i p ps hop
    split at hp
    · rename_i hcond
      injection hp with _ hp
      subst hp
      obtain ⟨⟨rfl, rfl, rfl⟩, h13, hk⟩ := hcond
      have h13' : p.f0 ≠ 13 := h13
      have hk' : ¬ (p.f0 = 12 ∧ p.f4.length % 2 = 1) := hk
      rw [hop] at ho hcn
      obtain ⟨h1, h2, h3, h4, h5, h6, h7⟩ := ho
      have hall : allR p := by
        obtain ⟨k, ng, n, s, l⟩ := p
        simp only at h13' hk' h1 h2 h5
        refine allR_of k ng n s l ?_ h4 h5
        have := one_of_hdr k ng n s l h1 (fun h => by have : ¬ l.length % 2 = 1 := fun h' => hk' ⟨h, h'⟩; omega) (fun h => absurd h h13')
        simp only [okR, this, Bool.true_and, Bool.not_eq_true', Bool.and_eq_false_iff]
        left
        rcases h2 with rfl | rfl | rfl <;> first | decide | exact absurd rfl h13'
      have hdp : depR p = depRL p.f4 + 1 := by
        obtain ⟨k, ng, n, s, l⟩ := p
        simp only at h2
        simp only [depR]
        rw [if_neg (by rcases h2 with rfl | rfl | rfl <;> decide)]
      have hcp : cnt p = cntL p.f4 + 1 := by cases p; simp only [cnt]
      have hev : evR p = ⟨p.f0, p.f1, p.f2, p.f3⟩ :: (evRL p.f4 ++ [⟨15, false, 0, ⟨#[]⟩⟩]) := by
        obtain ⟨k, ng, n, s, l⟩ := p
        simp only at h2 h13'
        simp only [evR]
        rw [if_pos (by omega)]
      have htop : topR ps p.f0 p.f3 = true := by
        cases ps with
        | nil => rfl
        | cons q qs => have : p.f0 ≠ 9 := by omega
                       simp [topR, numR, this]
      have := val_add { b with open_ := ps } p hw' h7 hall htop (by show (ps.length : Int) + _ ≤ b.depth; rw [hdp]; omega) (by show b.count = (cntO ps : Int) + _; rw [hcn, hcp]; simp only [cntO]; omega) h.c1
      refine ⟨this.1, (Bld.addB_open MK25 { b with open_ := ps } p).2.2, hw', ?_⟩
      rw [this.2, hevb, hop, hev]
      simp only [evO, List.append_assoc, List.cons_append]
    · cases hp
  · rename_i h15
    split at hp
    · rename_i hm
      unfold mayR at hm
      split at hm
      · cases hm
      rename_i hh
      split at hm
      · cases hm
      rename_i ht
      split at hm
      · cases hm
      rename_i hlim
      have hh' : hdrR a ng c d = true := by simpa using hh
      have ht' : topR b.open_ a d = true := by simpa using ht
      have hlim1 : (b.open_.length : Int) + depR ⟨a, ng, c, d, []⟩ ≤ b.depth := by omega
      have hlim2 : b.count < 65536 := by omega
      injection hp with _ hp
      by_cases hlf : a ≠ 11 ∧ a ≠ 12 ∧ a ≠ 13
      · rw [if_pos hlf] at hp
        subst hp
        have hone : oneR ⟨a, ng, c, d, []⟩ = true := by
          have := hh'
          unfold hdrR at this
          rwa [if_neg hlf.2.2] at this
        have hall : allR ⟨a, ng, c, d, []⟩ := allR_of a ng c d [] (by simp [okR, hone]) ⟨ha, hc, hd⟩ allRL_nil
        have hcv : cnt ⟨a, ng, c, d, []⟩ = 1 := by simp only [cnt, cntL]
        have := val_add { b with count := b.count + 1 } ⟨a, ng, c, d, []⟩ hw' ho hall ht' hlim1 (by show b.count + 1 = (cntO b.open_ : Int) + _; rw [hcv]; omega) (by show b.count + 1 ≤ 65536; omega)
        refine ⟨this.1, (Bld.addB_open MK25 { b with count := b.count + 1 } _).2.2, hw', ?_⟩
        rw [this.2, hevb]
        have : evR ⟨a, ng, c, d, []⟩ = [⟨a, ng, c, d⟩] := by
          simp only [evR, evRL]
          rw [if_neg (by omega)]
          rfl
        rw [this]
      · rw [if_neg hlf] at hp
        subst hp
        have hdp : depR ⟨a, ng, c, d, []⟩ = 1 := by
          simp only [depR, depRL]
          rw [if_neg (by simp [leafR]; omega)]
          rfl
        have hc0 := h.c0
        refine ⟨⟨by show 0 ≤ b.count + 1; omega, by show b.count + 1 ≤ 65536; omega, fun _ => ⟨⟨hh', by show a = 11 ∨ a = 12 ∨ a = 13; omega, fun _ => rfl, ⟨ha, hc, hd⟩, allRL_nil, ?_, ho⟩, ?_⟩, fun h => ?_⟩, rfl, hw', ?_⟩
        · show (b.open_.length : Int) + 1 + depRL [] ≤ b.depth
          rw [hdp] at hlim1
          simp only [depRL]; omega
        · show b.count + 1 = ((1 + cntL [] + cntO b.open_ : Nat) : Int)
          simp only [cntL]; omega
        · rw [show (b.whole = true) = (false = true) by rw [hw']] at h; cases h
        · rw [hevb]
          unfold evB
          rw [if_neg (by simp [hw'])]
          simp only [evO, evRL]
    · rename_i hm
      injection hp with hp
      exact absurd hp hm
theorem treeR_val : ∀ (l : List S37) (i : Int) (b : Bld.BS S25), Val b → (∀ e ∈ l, wfS37 e) → (treeR l i b).2.2 = 0 →
    allR (treeR l i b).1 ∧ depR (treeR l i b).1 ≤ b.depth ∧ cnt (treeR l i b).1 ≤ 65536 ∧ evB b ++ l = evR (treeR l i b).1 ∧ (treeR l i b).2.1 = i + l.length
  | [], i, b, h, _, h0 => by
    simp only [treeR] at h0 ⊢
    by_cases hw : b.whole = true
    · obtain ⟨h1, h2, h3, h4⟩ := h.wh hw
      have := h.c1
      rw [if_pos hw]
      refine ⟨h2, h3, by show cnt b.v ≤ 65536; omega, ?_, by simp⟩
      unfold evB
      rw [if_pos hw, List.append_nil]
    · rw [if_neg hw] at h0
      cases h0
  | e :: l, i, b, h, hwf, h0 => by
    have he := hwf e List.mem_cons_self
    obtain ⟨a, ng, c, d⟩ := e
    simp only [treeR] at h0 ⊢
    by_cases hq : (putR b a ng c d).1 = 0
    · rw [if_pos hq] at h0 ⊢
      obtain ⟨b1, hb1⟩ : ∃ b1, putR b a ng c d = (0, b1) := ⟨(putR b a ng c d).2, by rw [← hq]⟩
      rw [hb1] at h0 ⊢
      obtain ⟨v1, v2, v3, v4⟩ := val_put b b1 a ng c d h he.1 he.2.2.1 he.2.2.2 hb1
      obtain ⟨i1, i2, i3, i4, i5⟩ := treeR_val l (i + 1) b1 v1 (fun e he => hwf e (List.mem_cons_of_mem _ he)) h0
      refine ⟨i1, by rw [← v2]; exact i2, i3, ?_, ?_⟩
      · rw [← i4, v4]; simp
      · rw [i5, List.length_cons]; omega
    · rw [if_neg hq] at h0
      exact absurd h0 hq
theorem treeR_not : ∀ (l : List S37) (i : Int) (b : Bld.BS S25), (treeR l i b).2.2 ≠ 0 → (treeR l i b).1 = z25
  | [], i, b, h => by
    simp only [treeR] at h ⊢
    by_cases hw : b.whole = true
    · rw [if_pos hw] at h; exact absurd rfl h
    · rw [if_neg hw]
  | e :: l, i, b, h => by
    simp only [treeR] at h ⊢
    by_cases hq : (putR b e.f0 e.f1 e.f2 e.f3).1 = 0
    · rw [if_pos hq] at h ⊢; exact treeR_not l _ _ h
    · rw [if_neg hq]
theorem len_cntL' : ∀ l : List S25, l.length ≤ cntL l
  | [] => Nat.le_refl _
  | x :: l => by have := cnt_pos x; have := len_cntL' l; simp only [cntL, List.length_cons]; omega
mutual
theorem wf_all : ∀ x : S25, allR x → cnt x ≤ 65536 → wfS25 x
  | ⟨k, ng, n, s, l⟩, h, hc => by
    have hw := (h ⟨k, ng, n, s, l⟩ (by simp [subs])).2
    simp only [cnt] at hc
    have hl := len_cntL' l
    simp only [wfS25]
    exact ⟨hw.1, trivial, hw.2.1, hw.2.2, by omega, wfL_all l (fun y hy => h y (by simp [subs, hy])) (by omega)⟩
theorem wfL_all : ∀ l : List S25, allRL l → cntL l ≤ 65536 → wfL25 l
  | [], _, _ => by simp only [wfL25]
  | x :: l, h, hc => by
    simp only [cntL] at hc
    simp only [wfL25]
    exact ⟨wf_all x (fun y hy => h y (by simp [subsL, hy])) (by omega), wfL_all l (fun y hy => h y (by simp [subsL, hy])) (by omega)⟩
end
theorem check_all (x : S25) (h : allR x) (hd : depR x ≤ 64) (hc : cnt x ≤ 65536) : checkR x = 0 := by
  unfold checkR
  rw [if_neg (by omega), if_neg (by omega), if_pos]
  rw [List.all_eq_true]
  exact fun y hy => (h y hy).1
theorem sumSz_append {α : Type} (f : α → Nat) : ∀ (a b : List α), Open.sumSz f (a ++ b) = Open.sumSz f a + Open.sumSz f b
  | [], b => by simp [Open.sumSz]
  | x :: a, b => by simp only [List.cons_append, Open.sumSz, sumSz_append f a b]; omega
mutual
theorem sz_ev : ∀ x : S25, szS25 x ≤ 2 * Open.sumSz szS37 (evR x)
  | ⟨k, ng, n, s, l⟩ => by
    have := sz_evL l
    simp only [evR, Open.sumSz, sumSz_append, szS25, szS37]
    omega
theorem sz_evL : ∀ l : List S25, szL25 l ≤ 2 * Open.sumSz szS37 (evRL l)
  | [] => by simp [szL25]
  | x :: l => by
    have := sz_ev x
    have := sz_evL l
    simp only [evRL, sumSz_append, szL25]
    omega
end
mutual
theorem wf_ev : ∀ x : S25, wfS25 x → ∀ e ∈ evR x, wfS37 e
  | ⟨k, ng, n, s, l⟩, h, e, he => by
    simp only [wfS25] at h
    obtain ⟨h1, _, h3, h4, _, h6⟩ := h
    simp only [evR, List.mem_cons, List.mem_append] at he
    rcases he with rfl | he | he
    · exact ⟨h1, trivial, h3, h4⟩
    · exact wf_evL l h6 e he
    · split at he
      · simp only [List.mem_singleton] at he
        subst he
        exact ⟨by decide, trivial, by decide, by decide⟩
      · simp at he
theorem wf_evL : ∀ l : List S25, wfL25 l → ∀ e ∈ evRL l, wfS37 e
  | [], _, e, he => by simp [evRL] at he
  | x :: l, h, e, he => by
    simp only [wfL25] at h
    simp only [evRL, List.mem_append] at he
    rcases he with he | he
    · exact wf_ev x h.1 e he
    · exact wf_evL l h.2 e he
end
theorem back_j0 (l : List S37) (hl : ∀ e ∈ l, wfS37 e) (hsz : Open.sumSz szS37 l ≤ 1048576) (hlen : l.length * 40 ≤ 140737488351232) : Ev (fun k => glossatorlaw09_EventBack.j0 k l) true := by
  refine Ev.step (fun k => by simp only [glossatorlaw09_EventBack.j0]; rfl) (Ev.bind (tree_f l hl) ?_)
  dsimp only
  obtain ⟨w, hw⟩ : ∃ w, (treeR l 0 (Bld.newB MK25 64)).1 = w := ⟨_, rfl⟩
  obtain ⟨f, hf⟩ : ∃ f, (treeR l 0 (Bld.newB MK25 64)).2.2 = f := ⟨_, rfl⟩
  rw [hw, hf]
  by_cases h0 : f = 0
  · refine Ev.pos h0 ?_
    obtain ⟨i1, i2, i3, i4, i5⟩ := treeR_val l 0 (Bld.newB MK25 64) (val_new 64) hl (by rw [hf]; exact h0)
    rw [hw] at i1 i2 i3 i4
    have hd64 : depR w ≤ 64 := i2
    have hev : l = evR w := i4
    have hch := check_all w i1 hd64 i3
    have hwf := wf_all w i1 i3
    have hsw := sz_ev w
    rw [← hev] at hsw
    have hb : Ev (fun k => event_Events.f k w.f0 w.f1 w.f2 w.f3 w.f4) (l, 0) := by
      obtain ⟨a, b, c, d, ll⟩ := w
      have h2 := evR_len ⟨a, b, c, d, ll⟩
      refine Ev.congr (fun k => by unfold event_Events.f; rfl) (Ev.bind (check_f ⟨a, b, c, d, ll⟩ hwf (by omega)) ?_)
      dsimp only
      rw [evs_R _ _ (Nat.lt_succ_self _), hch]
      exact Ev.pos (by omega) (Ev.const (by rw [if_pos rfl, ← hev]))
    refine Ev.bind hb (Ev.pos (by rfl) (Ev.bind (list_f l (by omega)) (Ev.pos (by rfl) (Ev.bind (check_f w hwf (by omega)) (Ev.pos hch (Ev.bind (rcheck_f w hwf (by omega)) (Ev.const (by rw [hch]; rfl))))))))
  · refine Ev.neg h0 ?_
    have hz := treeR_not l 0 (Bld.newB MK25 64) (by rw [hf]; exact h0)
    rw [hw] at hz
    subst hz
    have hzw : wfS25 z25 := by simp only [z25, wfS25]; exact ⟨by decide, trivial, by decide, by decide, by decide, trivial⟩
    have hs := same_f (dep25 z25 + 1) z25 z25 (Nat.lt_succ_self _) hzw hzw
    rw [eqF_refl _ _ (Nat.lt_succ_self _)] at hs
    exact Ev.bind hs (Ev.pos (by rfl) (Ev.bind awake_t (Ev.const rfl)))
theorem EventBack : glossatorlaw09_EventBack.Pure := by
  intro a0 a1 a2 a3 a4 l ha hl hs
  have h3 := evR_len ⟨a0, a1, a2, a3, a4⟩
  have h2 := cnt_sz ⟨a0, a1, a2, a3, a4⟩
  dsimp only at hs hl
  have hj := back_j0 l hl.2 (by omega) hl.1
  refine Ev.rounds (Ev.congr (fun k => by unfold glossatorlaw09_EventBack.f; rfl) (Ev.bind (events_f ⟨a0, a1, a2, a3, a4⟩ ha (by omega)) ?_))
  unfold eventsT
  dsimp only
  by_cases hc : checkR ⟨a0, a1, a2, a3, a4⟩ = 0
  · rw [if_pos hc]
    refine Ev.pos hc (Ev.bind (tree_f _ (wf_ev _ ha)) ?_)
    rw [treeR_ev _ hc]
    have hsm := same_f (dep25 ⟨a0, a1, a2, a3, a4⟩ + 1) ⟨a0, a1, a2, a3, a4⟩ ⟨a0, a1, a2, a3, a4⟩ (Nat.lt_succ_self _) ha ha
    rw [eqF_refl _ _ (Nat.lt_succ_self _)] at hsm
    exact Ev.pos (by rfl) (Ev.pos (by rfl) (Ev.bind hsm (Ev.pos (by rfl) hj)))
  · exact Ev.neg hc hj
end Go.Proofs.Ytcgpfclmcajekaa.Pure
