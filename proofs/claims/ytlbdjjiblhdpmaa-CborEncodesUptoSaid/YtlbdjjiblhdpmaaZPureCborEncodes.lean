-- Out of texts of this seat by a program of this session: what the claim does not reach is struck
import Derived.Test.YtlbdjjiblhdpmaaZPCborEncodesx9
import Derived.Test.YtlbdjjiblhdpmaaZUtf
namespace Go.Proofs.Ytlbdjjiblhdpmaa.Pure
open Go.RowKit Go.Proofs.Ytlbdjjiblhdpmaa.PCborEncodes Go.Proofs.YtlbdjjiblhdpmaaW.PrintWords Go.Proofs.YtlbdjjiblhdpmaaW.PrintLast Go.Proofs.YtlbdjjiblhdpmaaW.PrintMore
theorem Ev.pos {α : Type} {c : Prop} [Decidable c] {f g : Nat → Option α} {r : α} (h : c) (k : Ev f r) : Ev (fun n => if c then f n else g n) r := Ev.congr (fun _ => if_pos h) k
theorem Ev.neg {α : Type} {c : Prop} [Decidable c] {f g : Nat → Option α} {r : α} (h : ¬ c) (k : Ev g r) : Ev (fun n => if c then f n else g n) r := Ev.congr (fun _ => if_neg h) k
theorem Ev.const {α : Type} {x : Option α} {r : α} (h : x = some r) : Ev (fun _ => x) r := ⟨0, fun _ _ => h⟩
theorem Ev.pre {α β : Type} {x : Option α} {a : α} {f : Nat → α → Option β} {r : β} (h : x = some a) (k : Ev (fun n => f n a) r) : Ev (fun n => x.bind (f n)) r := Ev.congr (fun _ => by rw [h]; rfl) k
theorem Ev.res {α : Type} {g : Nat → Option α} {r r' : α} (k : Ev g r') (e : r' = r) : Ev g r := e ▸ k
theorem wrap_id {x : Int} (h0 : -9223372036854775808 ≤ x) (h1 : x ≤ 9223372036854775807) : wrap64 x = x := by unfold wrap64; omega
theorem wf_u64 {n : Int} (h : (Lit.int .u64 n).wf = true) : 0 ≤ n ∧ n ≤ 18446744073709551615 := by
  simp [Lit.wf, IntKind.min, IntKind.max, IntKind.signed, IntKind.bits] at h; omega
def tl (x : Int) : Nat → List Int
  | 0 => []
  | j + 1 => (shr .u64 x (8 * (j : Int))) % 256 :: tl x j
def hd (m x s : Int) : List Int := if s = 0 then [(m * 32 + x) % 256] else (m * 32 + (if s = 1 then 24 else if s = 2 then 25 else if s = 4 then 26 else 27)) :: tl x s.toNat
theorem or_first (m s : Int) (h0 : 0 ≤ m) (h1 : m ≤ 7) (s0 : 0 ≤ s) (s1 : s ≤ 3) : (wrap64 ((Go.bits .or .i64 (wrap64 (m * 32)) 24) + s)) % 256 = m * 32 + 24 + s ∧ (Go.bits .or .i64 (wrap64 (m * 32)) (24 + s)) % 256 = m * 32 + 24 + s := by
  have hm : m = 0 ∨ m = 1 ∨ m = 2 ∨ m = 3 ∨ m = 4 ∨ m = 5 ∨ m = 6 ∨ m = 7 := by omega
  have hs : s = 0 ∨ s = 1 ∨ s = 2 ∨ s = 3 := by omega
  rcases hm with rfl | rfl | rfl | rfl | rfl | rfl | rfl | rfl <;> rcases hs with rfl | rfl | rfl | rfl <;> decide +kernel
theorem or_small (m x : Int) (h0 : 0 ≤ m) (h1 : m ≤ 7) (s0 : 0 ≤ x) (s1 : x ≤ 23) : Go.bits .or .u8 ((wrap64 (m * 32)) % 256) (x % 256) = m * 32 + x := by
  have hm : m = 0 ∨ m = 1 ∨ m = 2 ∨ m = 3 ∨ m = 4 ∨ m = 5 ∨ m = 6 ∨ m = 7 := by omega
  have e1 : wrap64 (m * 32) % 256 = m * 32 := by unfold wrap64; omega
  have e2 : x % 256 = x := by omega
  rw [e1, e2]
  refine bits_join .u8 8 (by decide) wraps_u8 5 _ _ (by omega) (by omega) (by omega) s0 (by omega) (by omega)
def mayH (m x : Int) : Prop := 0 ≤ m ∧ m ≤ 7 ∧ (m = 7 → x < 24 ∨ (32 ≤ x ∧ x ≤ 255))
def need (x : Int) : Int := if x < 24 then 0 else if x < 256 then 1 else if x < 65536 then 2 else if x < 4294967296 then 4 else 8
instance (m x : Int) : Decidable (mayH m x) := by unfold mayH; infer_instance
def mayW (m x s : Int) : Prop := mayH m x ∧ (s = 0 ∨ s = 1 ∨ s = 2 ∨ s = 4 ∨ s = 8) ∧ need x ≤ s ∧ (m = 7 → s = need x)
instance (m x s : Int) : Decidable (mayW m x s) := by unfold mayW; infer_instance
def lv (x : Int) : Int := if x < 24 then 4 else if x < 256 then 0 else if x < 65536 then 1 else if x < 4294967296 then 2 else 3
theorem lv_cases (x : Int) : (x < 24 ∧ lv x = 4 ∧ need x = 0) ∨ (24 ≤ x ∧ x < 256 ∧ lv x = 0 ∧ need x = 1) ∨ (256 ≤ x ∧ x < 65536 ∧ lv x = 1 ∧ need x = 2) ∨ (65536 ≤ x ∧ x < 4294967296 ∧ lv x = 2 ∧ need x = 4) ∨ (4294967296 ≤ x ∧ lv x = 3 ∧ need x = 8) := by
  unfold lv need
  repeat' split
  all_goals omega
theorem wide_l0 (x : Int) : ∀ (j k : Nat) (acc : List Int), j ≤ 8 → acc.length ≤ 100 - j → j < k → glossatorref10_Wide.l0 k x acc ((j : Int) - 1) = some (acc ++ tl x j, 0) := by
  intro j
  induction j with
  | zero =>
    intro k acc _ _ hk
    obtain ⟨k, rfl⟩ : ∃ m, k = m + 1 := ⟨k - 1, by omega⟩
    simp only [glossatorref10_Wide.l0]
    rw [if_neg (by omega)]
    simp [tl]
  | succ j ih =>
    intro k acc hj ha hk
    obtain ⟨k, rfl⟩ : ∃ m, k = m + 1 := ⟨k - 1, by omega⟩
    have e1 : ((j + 1 : Nat) : Int) - 1 = (j : Int) := by omega
    have e2 : wrap64 (8 * (j : Int)) = 8 * (j : Int) := by unfold wrap64; omega
    have e3 : wrap64 ((j : Int) - 1) = (j : Int) - 1 := by unfold wrap64; omega
    simp only [glossatorref10_Wide.l0]
    rw [e1, e2, e3, if_pos (by omega), if_pos (by omega), if_pos (by omega), ih k _ (by omega) (by simp; omega) (by omega)]
    simp [tl]
theorem refsize_f (x : Int) : glossatorref10_size.f x = some (need x) := by
  unfold glossatorref10_size.f need
  repeat' split
  all_goals rfl
theorem info_f (s : Int) : glossatorref10_info.f s = some (if s = 1 then 24 else if s = 2 then 25 else if s = 4 then 26 else if s = 8 then 27 else 0) := by
  unfold glossatorref10_info.f
  repeat' split
  all_goals rfl
theorem refwide_in (k : Nat) (m x s : Int) (hk : 20 < k) (h0 : 0 ≤ m) (h1 : m ≤ 7) (x0 : 0 ≤ x) (b : Bool) (hb : b = true → ¬ mayW m x s) (hb' : b = false → (mayW m x s ↔ (s = 0 ∨ s = 1 ∨ s = 2 ∨ s = 4 ∨ s = 8) ∧ need x ≤ s)) : glossatorref10_Wide.j0 k m x s b = some (if mayW m x s then (hd m x s, 0) else ([], 1)) := by
  obtain ⟨k, rfl⟩ : ∃ j, k = j + 2 := ⟨k - 2, by omega⟩
  simp only [glossatorref10_Wide.j0, glossatorref10_Wide.j1]
  cases b with
  | true => rw [if_pos rfl, if_neg (hb rfl)]
  | false =>
    have hb' := hb' rfl
    rw [if_neg (show ¬ (false = true) by simp), info_f, refsize_f]
    simp only [Option.bind_some]
    by_cases s0 : s = 0
    · rw [if_pos s0]
      by_cases hn : need x > s
      · rw [decide_eq_true hn, if_pos rfl, if_neg (fun hq => by have := (hb'.1 hq).2; omega)]
      · rw [decide_eq_false hn, if_neg (show ¬ (false = true) by simp), if_pos s0, if_pos (hb'.2 ⟨.inl s0, by omega⟩)]
        have hx : x < 24 := by have := lv_cases x; omega
        rw [or_small m x h0 h1 x0 (by omega)]
        have : (m * 32 + x) % 256 = m * 32 + x := by omega
        simp [hd, s0, this]
    · rw [if_neg s0]
      by_cases sx : s = 1 ∨ s = 2 ∨ s = 4 ∨ s = 8
      · rw [if_neg (by rcases sx with rfl | rfl | rfl | rfl <;> decide)]
        by_cases hn : need x > s
        · rw [decide_eq_true hn, if_pos rfl, if_neg (fun hq => by have := (hb'.1 hq).2; omega)]
        · rw [decide_eq_false hn, if_neg (show ¬ (false = true) by simp), if_neg s0, if_pos (hb'.2 ⟨.inr sx, by omega⟩)]
          have e := fun c a b => (or_first m c h0 h1 a b).2
          rcases sx with rfl | rfl | rfl | rfl
          · have e := e 0 (by omega) (by omega)
            rw [if_pos rfl, show (24 : Int) = 24 + 0 by rfl, e, show wrap64 ((1 : Int) - 1) = ((1 : Nat) : Int) - 1 by decide +kernel, wide_l0 x 1 k _ (by omega) (by simp) (by omega)]
            simp [hd, tl]
          · have e := e 1 (by omega) (by omega)
            rw [if_neg (by decide), if_pos rfl, show (25 : Int) = 24 + 1 by rfl, e, show wrap64 ((2 : Int) - 1) = ((2 : Nat) : Int) - 1 by decide +kernel, wide_l0 x 2 k _ (by omega) (by simp) (by omega)]
            simp [hd, tl]; omega
          · have e := e 2 (by omega) (by omega)
            rw [if_neg (by decide), if_neg (by decide), if_pos rfl, show (26 : Int) = 24 + 2 by rfl, e, show wrap64 ((4 : Int) - 1) = ((4 : Nat) : Int) - 1 by decide +kernel, wide_l0 x 4 k _ (by omega) (by simp) (by omega)]
            simp [hd, tl]; omega
          · have e := e 3 (by omega) (by omega)
            rw [if_neg (by decide), if_neg (by decide), if_neg (by decide), if_pos rfl, show (27 : Int) = 24 + 3 by rfl, e, show wrap64 ((8 : Int) - 1) = ((8 : Nat) : Int) - 1 by decide +kernel, wide_l0 x 8 k _ (by omega) (by simp) (by omega)]
            simp [hd, tl]; omega
      · rw [if_neg (show ¬ s = 1 by omega), if_neg (show ¬ s = 2 by omega), if_neg (show ¬ s = 4 by omega), if_neg (show ¬ s = 8 by omega), if_pos rfl, if_neg (fun hq : mayW m x s => by have := hq.2.1; omega)]
        simp only [if_true]
theorem refwide_f (k : Nat) (m x s : Int) (hk : 20 < k) (x0 : 0 ≤ x) : glossatorref10_Wide.f k m x s = some (if mayW m x s then (hd m x s, 0) else ([], 1)) := by
  unfold glossatorref10_Wide.f
  have no : ∀ h : ¬ mayW m x s, glossatorref10_Wide.j0 k m x s true = some (if mayW m x s then (hd m x s, 0) else ([], 1)) := by
    intro h
    obtain ⟨k, rfl⟩ : ∃ j, k = j + 2 := ⟨k - 2, by omega⟩
    simp only [glossatorref10_Wide.j0]
    rw [if_pos trivial, if_neg h]
  have hl := lv_cases x
  by_cases m0 : m < 0
  · rw [if_pos m0]; exact no (fun hq => by have := hq.1.1; omega)
  · rw [if_neg m0]
    by_cases m8 : m > 7
    · rw [if_pos m8]; exact no (fun hq => by have := hq.1.2.1; omega)
    · rw [if_neg m8]
      by_cases m7 : m = 7
      · rw [if_pos m7]
        have key : ∀ b : Bool, (b = true ↔ s = 1 ∧ x < 32) → (x < 24 ∨ 31 < x) → x ≤ 255 → s ≤ 1 → glossatorref10_Wide.j0 k m x s b = some (if mayW m x s then (hd m x s, 0) else ([], 1)) := by
          intro b hb hx hx2 hs
          refine refwide_in k m x s hk (by omega) (by omega) x0 b (fun h hq => ?_) (fun h => ?_)
          · have := hb.1 h; have := hq.2.2.2 m7; have := hq.1.2.2 m7; omega
          · have hn : ¬ (s = 1 ∧ x < 32) := fun hq => by have := hb.2 hq; rw [h] at this; cases this
            constructor
            · intro hq; exact ⟨hq.2.1, hq.2.2.1⟩
            · intro hq; exact ⟨⟨by omega, by omega, by omega⟩, hq.1, hq.2, by omega⟩
        have noseven : (¬ (x < 24 ∨ (32 ≤ x ∧ x ≤ 255)) ∨ s > 1) → ¬ mayW m x s := fun h hq => by
          have := hq.1.2.2 m7; have := hq.2.2.2 m7; omega
        by_cases a1 : x ≥ 24
        · rw [if_pos a1]
          by_cases a2 : x ≤ 31
          · rw [if_pos a2]; exact no (noseven (by omega))
          · rw [if_neg a2]
            by_cases a3 : x > 255
            · rw [if_pos a3]; exact no (noseven (by omega))
            · rw [if_neg a3]
              by_cases a4 : s > 1
              · rw [if_pos a4]; exact no (noseven (by omega))
              · rw [if_neg a4]
                by_cases a5 : s = 1
                · rw [if_pos a5]; exact key _ (by simp [a5]) (by omega) (by omega) (by omega)
                · rw [if_neg a5]; exact key _ (by simp [a5]) (by omega) (by omega) (by omega)
        · rw [if_neg a1]
          by_cases a3 : x > 255
          · rw [if_pos a3]; exact no (noseven (by omega))
          · rw [if_neg a3]
            by_cases a4 : s > 1
            · rw [if_pos a4]; exact no (noseven (by omega))
            · rw [if_neg a4]
              by_cases a5 : s = 1
              · rw [if_pos a5]; exact key _ (by simp [a5]) (by omega) (by omega) (by omega)
              · rw [if_neg a5]; exact key _ (by simp [a5]) (by omega) (by omega) (by omega)
      · rw [if_neg m7]
        refine refwide_in k m x s hk (by omega) (by omega) x0 false (by simp) (fun _ => ?_)
        constructor
        · intro hq; exact ⟨hq.2.1, hq.2.2.1⟩
        · intro hq; exact ⟨⟨by omega, by omega, fun h => absurd h m7⟩, hq.1, hq.2, fun h => absurd h m7⟩
theorem wf_kids {f0 : Int} {f1 : Bool} {f2 : Int} {f3 : ByteArray} {l : List S25} (h : wfS25 ⟨f0, f1, f2, f3, l⟩) : l.length * 64 ≤ 140737488351232 ∧ ∀ y ∈ l, wfS25 y := by
  simp only [wfS25] at h
  exact ⟨h.2.2.2.2.1, (wfL25_iff _).1 h.2.2.2.2.2⟩
theorem rdT_get (xs : List S25) (j : Nat) (h : j < xs.length) : rd_T25 xs (j : Int) = xs[j] := by
  simp [rd_T25, List.getElem?_eq_getElem h]
theorem dep_kid {f0 : Int} {f1 : Bool} {f2 : Int} {f3 : ByteArray} {l : List S25} {y : S25} (h : y ∈ l) : dep25 y < dep25 ⟨f0, f1, f2, f3, l⟩ := by
  have := dep25_mem l y h; simp only [dep25]; omega
mutual
def cnt : S25 → Nat
  | ⟨_, _, _, _, l⟩ => cntL l + 1
def cntL : List S25 → Nat
  | [] => 0
  | x :: l => cnt x + cntL l
end
mutual
def subs : S25 → List S25
  | ⟨a, b, c, d, l⟩ => ⟨a, b, c, d, l⟩ :: subsL l
def subsL : List S25 → List S25
  | [] => []
  | x :: l => subs x ++ subsL l
end
mutual
theorem subs_len : ∀ x : S25, (subs x).length = cnt x
  | ⟨a, b, c, d, l⟩ => by simp only [subs, cnt, List.length_cons, subsL_len l]
theorem subsL_len : ∀ l : List S25, (subsL l).length = cntL l
  | [] => rfl
  | x :: l => by simp only [subsL, cntL, List.length_append, subs_len x, subsL_len l]
end
theorem nodesL_subs (f : List Int → S25 → List (List Int × S25)) (p : List Int) : ∀ (l : List S25) (i : Nat), (∀ y ∈ l, ∀ q, (f q y).map (·.2) = subs y) → (Each.Tree.nodesL f p l i).map (·.2) = subsL l
  | [], _, _ => rfl
  | y :: l, i, h => by simp only [Each.Tree.nodesL, List.map_append, subsL, h y (by simp), nodesL_subs f p l (i + 1) (fun z hz => h z (by simp [hz]))]
theorem nodes_subs : ∀ (m : Nat) (x : S25) (p : List Int), dep25 x < m → (T25.nodes m p x).map (·.2) = subs x := by
  intro m
  induction m with
  | zero => intro x p h; omega
  | succ m ih =>
    rintro ⟨a, b, c, d, l⟩ p h
    have e : T25.nodes (m + 1) p ⟨a, b, c, d, l⟩ = (p, ⟨a, b, c, d, l⟩) :: Each.Tree.nodesL (T25.nodes m) p l 0 := rfl
    rw [e, List.map_cons, nodesL_subs _ _ _ _ (fun y hy q => ih y q (by have := dep_kid (f0 := a) (f1 := b) (f2 := c) (f3 := d) hy; omega))]
    rfl
theorem nodes_len (x : S25) (p : List Int) : (T25.nodes (dep25 x + 1) p x).length = cnt x := by
  rw [← subs_len, ← nodes_subs _ x p (Nat.lt_succ_self _), List.length_map]
mutual
theorem dep_sz : ∀ x : S25, dep25 x ≤ szS25 x
  | ⟨a, b, c, d, l⟩ => by have := depL_sz l; simp only [dep25, szS25]; omega
theorem depL_sz : ∀ l : List S25, depL25 l ≤ szL25 l
  | [] => Nat.le_refl _
  | x :: l => by have := dep_sz x; have := depL_sz l; simp only [depL25, szL25]; omega
end
mutual
theorem cnt_sz : ∀ x : S25, cnt x ≤ szS25 x
  | ⟨a, b, c, d, l⟩ => by have := cntL_sz l; simp only [cnt, szS25]; omega
theorem cntL_sz : ∀ l : List S25, cntL l ≤ szL25 l
  | [] => Nat.le_refl _
  | x :: l => by have := cnt_sz x; have := cntL_sz l; simp only [cntL, szL25]; omega
end
theorem cnt_pos : ∀ x : S25, 1 ≤ cnt x
  | ⟨_, _, _, _, l⟩ => by simp only [cnt]; omega
def leafR (k : Int) : Bool := decide (k ≠ 11 ∧ k ≠ 12 ∧ k ≠ 13)
mutual
def depR : S25 → Int
  | ⟨k, _, _, _, l⟩ => if leafR k = true then (if k = 5 then 1 else 0) else depRL l + 1
def depRL : List S25 → Int
  | [] => 0
  | x :: l => max (depR x) (depRL l)
end
mutual
theorem depR_pos : ∀ x : S25, 0 ≤ depR x ∧ depR x ≤ dep25 x
  | ⟨k, _, _, _, l⟩ => by
    have := depRL_pos l
    simp only [depR, dep25]
    by_cases h : leafR k = true
    · rw [if_pos h]; by_cases h5 : k = 5
      · rw [if_pos h5]; omega
      · rw [if_neg h5]; omega
    · rw [if_neg h]; omega
theorem depRL_pos : ∀ l : List S25, 0 ≤ depRL l ∧ depRL l ≤ depL25 l
  | [] => by simp [depRL, depL25]
  | x :: l => by have := depR_pos x; have := depRL_pos l; simp only [depRL, depL25]; omega
end
theorem leaf_f (a0 : Int) (a1 : Bool) (a2 : Int) (a3 : ByteArray) (a4 : List S25) : value_Leaf.f a0 a1 a2 a3 a4 = some (leafR a0) := by
  unfold value_Leaf.f leafR
  by_cases h1 : a0 = 11
  · rw [if_pos h1]; simp [h1]
  · by_cases h2 : a0 = 12
    · rw [if_neg h1, if_pos h2]; simp [h2]
    · by_cases h3 : a0 = 13
      · rw [if_neg h1, if_neg h2, if_pos h3]; simp [h3]
      · rw [if_neg h1, if_neg h2, if_neg h3]; simp [h1, h2, h3]
theorem mx_max (a b : Int) : mx a b = max a b := by unfold mx; omega
theorem depth_l0 (l : List S25) (hl : l.length * 64 ≤ 140737488351232) (hd : depL25 l ≤ 9000000000000000000) (hf : ∀ x ∈ l, Ev (fun k => value_Depth.f k x.f0 x.f1 x.f2 x.f3 x.f4) (depR x)) :
    ∀ (d j : Nat) (a : Int), j + d = l.length → 0 ≤ a → a ≤ 9000000000000000000 → Ev (fun k => value_Depth.l0 k a l (l.length : Int) (j : Int)) (max a (depRL (l.drop j)) + 1) := by
  intro d
  induction d with
  | zero =>
    intro j a hj h0 h1
    refine Ev.step (fun k => by simp only [value_Depth.l0]; rfl) (Ev.neg (by omega) (Ev.const ?_))
    rw [List.drop_of_length_le (by omega), wrap_id (by omega) (by omega)]
    simp only [depRL]
    rw [show max a 0 = a by omega]
  | succ d ih =>
    intro j a hj h0 h1
    have hlt : j < l.length := by omega
    have hb := depR_pos l[j]
    have hm := dep25_mem l l[j] (List.getElem_mem hlt)
    refine Ev.step (fun k => by simp only [value_Depth.l0]; rfl) (Ev.pos (by omega) (Ev.pos (by omega) (Ev.pos (by omega) ?_)))
    rw [rdT_get l j hlt, wrap_id (by omega) (by omega)]
    refine Ev.bind (hf _ (List.getElem_mem hlt)) ?_
    rw [mx_max]
    refine Ev.res (ih (j + 1) _ (by omega) (by omega) (by omega)) ?_
    rw [List.drop_eq_getElem_cons hlt]
    simp only [depRL]
    omega
theorem depth_f : ∀ (m : Nat) (x : S25), dep25 x < m → m ≤ 9000000000000000000 → wfS25 x → Ev (fun k => value_Depth.f k x.f0 x.f1 x.f2 x.f3 x.f4) (depR x) := by
  intro m
  induction m with
  | zero => intro x h; omega
  | succ m ih =>
    rintro ⟨a0, a1, a2, a3, a4⟩ hd hm hw
    obtain ⟨hl, hk⟩ := wf_kids hw
    refine Ev.step (fun k => by simp only [value_Depth.f]; rfl) (Ev.pre (leaf_f a0 a1 a2 a3 a4) ?_)
    simp only [depR]
    by_cases h : leafR a0 = true
    · rw [if_pos h]
      refine Ev.pos h ?_
      by_cases h5 : a0 = 5
      · exact Ev.pos h5 (Ev.const (by rw [if_pos h5]))
      · exact Ev.neg h5 (Ev.const (by rw [if_neg h5]))
    · rw [if_neg h]
      have hdl : depL25 a4 < m := by simp only [dep25] at hd; omega
      refine Ev.neg h (Ev.res (depth_l0 a4 hl (by omega) (fun x hx => ih x (by have := dep25_mem a4 x hx; omega) (by omega) (hk x hx)) a4.length 0 0 (by omega) (by omega) (by omega)) ?_)
      have := depRL_pos a4
      rw [List.drop_zero]; omega
def bigR (s : ByteArray) : Bool := decide (8 < (s.size : Int) ∧ (s.size : Int) ≤ 512) && (bt s 0 != 0)
theorem big_f (s : ByteArray) : value_big.f s = some (bigR s) := by
  unfold value_big.f bigR
  by_cases h1 : (s.size : Int) > 8
  · rw [if_pos h1]
    by_cases h2 : (s.size : Int) ≤ 512
    · rw [if_pos h2, if_pos (by omega)]; simp [show 8 < (s.size : Int) by omega, h2]
    · rw [if_neg h2]; simp [h2]
  · rw [if_neg h1]; simp [show ¬ 8 < (s.size : Int) by omega]
def bitsR (k : Int) : Nat := if k = 1 then 1 else if k = 6 then 16 else if k = 7 then 32 else if k = 4 ∨ k = 8 ∨ k = 13 then 64 else if k = 3 ∨ k = 14 then 8 else 0
def oneR (y : S25) : Bool :=
  decide (0 ≤ y.f0 ∧ y.f0 ≤ 14) && !(y.f1 && decide (y.f0 ≠ 4 ∧ y.f0 ≠ 5)) && decide (y.f2 < 2 ^ bitsR y.f0) &&
  (if y.f0 = 10 then (Utf.checkF y.f3).2 == 0 else if y.f0 = 9 ∨ y.f0 = 14 then true else if y.f0 = 5 then bigR y.f3 else
    (y.f3.toList == ([] : List UInt8)) && (if y.f0 = 3 then !decide (19 < y.f2 ∧ y.f2 < 32) else if y.f0 = 12 then decide ((y.f4.length : Int) % 2 = 0) else
      if y.f0 = 13 then decide (y.f4.length = 1) && !(decide (y.f2 / 2 = 1) && decide ((rd_T25 y.f4 0).f0 = 9) && bigR (rd_T25 y.f4 0).f3) else true))
theorem shr_ne (n : Int) (b : Nat) (hb : b ≤ 64) (h0 : 0 ≤ n) : (shr .u64 n (b : Int) != 0) = !decide (n < 2 ^ b) := by
  unfold shr
  rw [Int.toNat_natCast, Nat.min_eq_left (by simpa [IntKind.bits] using hb)]
  have hp : (0 : Int) < 2 ^ b := Int.pow_pos (by decide)
  by_cases h : n < 2 ^ b
  · rw [Int.ediv_eq_zero_of_lt h0 h]; simp [h]
  · have : n / 2 ^ b ≠ 0 := fun e => h (by
      have := Int.lt_ediv_add_one_mul_self n hp
      rw [e] at this; omega)
    simp [h, this]
theorem bits_f (k : Int) (m : Nat) : value_bits.f (m + 1) k = some (bitsR k : Int) := by
  unfold value_bits.f bitsR
  by_cases h1 : k = 1
  · rw [if_pos h1, if_pos h1]; rfl
  by_cases h6 : k = 6
  · rw [if_neg h1, if_neg h1, if_pos h6, if_pos h6]; rfl
  by_cases h7 : k = 7
  · rw [if_neg h1, if_neg h1, if_neg h6, if_neg h6, if_pos h7, if_pos h7]; rfl
  rw [if_neg h1, if_neg h1, if_neg h6, if_neg h6, if_neg h7, if_neg h7]
  by_cases h4 : k = 4
  · rw [if_pos h4, if_pos (.inl h4)]; subst h4; rfl
  by_cases h8 : k = 8
  · rw [if_neg h4, if_pos h8, if_pos (.inr (.inl h8))]; subst h8; rfl
  rw [if_neg h4, if_neg h8]
  by_cases h13 : k = 13
  · rw [if_pos (.inr (.inr h13))]; subst h13; rfl
  rw [if_neg (by omega)]
  have e : (k == 13) = false := by simp [h13]
  rw [e]
  simp only [value_bits.j0]
  by_cases h3 : k = 3
  · rw [if_neg (by simp), if_pos h3, if_pos (.inl h3)]; rfl
  by_cases h14 : k = 14
  · rw [if_neg (by simp), if_neg h3, if_pos h14, if_pos (.inr h14)]; rfl
  rw [if_neg (by simp), if_neg h3, if_neg h14, if_neg (by omega)]; rfl
theorem bitsR_le (k : Int) : bitsR k ≤ 64 := by unfold bitsR; (repeat' split) <;> omega
theorem one_j2 (m : Nat) (k : Int) (neg : Bool) (n : Int) (s : ByteArray) (l : List S25) (_hk : k ≠ 9 ∧ k ≠ 10) :
    value_One.j2 (m + 1) k (k == 14) k neg n s l = some (if k = 14 then true else if k = 5 then bigR s else
    (s.toList == ([] : List UInt8)) && (if k = 3 then !decide (19 < n ∧ n < 32) else if k = 12 then decide ((l.length : Int) % 2 = 0) else
      if k = 13 then decide (l.length = 1) && !(decide (n / 2 = 1) && decide ((rd_T25 l 0).f0 = 9) && bigR (rd_T25 l 0).f3) else true)) := by
  simp only [value_One.j2]
  by_cases h14 : k = 14
  · rw [if_pos (by simp [h14]), if_pos h14]
  rw [if_neg (by simp [h14]), if_neg h14]
  by_cases h5 : k = 5
  · rw [if_pos h5, if_pos h5, big_f]; rfl
  rw [if_neg h5, if_neg h5]
  by_cases h3 : k = 3
  · rw [if_pos h3, if_pos h3]
    by_cases c1 : n > 19
    · rw [if_pos c1]
      by_cases c2 : n < 32
      · rw [if_pos c2]; simp [show 19 < n by omega, c2]
      · rw [if_neg c2]; simp [c2]
    · rw [if_neg c1]; simp [show ¬ 19 < n by omega]
  rw [if_neg h3, if_neg h3]
  by_cases h12 : k = 12
  · rw [if_pos h12, if_pos h12]
    by_cases c1 : (l.length : Int) % 2 = 0
    · rw [if_pos c1]; simp [c1]
    · rw [if_neg c1]; simp [c1]
  rw [if_neg h12, if_neg h12]
  by_cases h13 : k = 13
  · rw [if_pos h13, if_pos h13]
    by_cases c1 : (l.length : Int) = 1
    · have c1' : l.length = 1 := by omega
      rw [if_pos c1]
      by_cases c2 : n / 2 = 1
      · rw [if_pos c2, if_pos (by omega)]
        by_cases c3 : (rd_T25 l 0).f0 = 9
        · rw [if_pos c3, big_f]
          simp only [Option.bind_some]
          by_cases c4 : bigR (rd_T25 l 0).f3 = true
          · rw [if_pos c4]; simp [c1', c2, c3, c4]
          · rw [if_neg c4]; simp [c1', c2, c3, c4]
        · rw [if_neg c3]; simp [c1', c3]
      · rw [if_neg c2]; simp [c1', c2]
    · have c1' : ¬ l.length = 1 := by omega
      rw [if_neg c1]; simp [c1']
  rw [if_neg h13, if_neg h13]; simp
theorem one_j1 (m : Nat) (k : Int) (neg : Bool) (n : Int) (s : ByteArray) (l : List S25) (b : Bool) (hs : s.size ≤ 140737488351232) :
    value_One.j1 (m + 2) (!b) k neg n s l = some (b && (if k = 10 then (Utf.checkF s).2 == 0 else if k = 9 ∨ k = 14 then true else if k = 5 then bigR s else
    (s.toList == ([] : List UInt8)) && (if k = 3 then !decide (19 < n ∧ n < 32) else if k = 12 then decide ((l.length : Int) % 2 = 0) else
      if k = 13 then decide (l.length = 1) && !(decide (n / 2 = 1) && decide ((rd_T25 l 0).f0 = 9) && bigR (rd_T25 l 0).f3) else true))) := by
  rw [show m + 2 = (m + 1) + 1 from rfl]
  simp only [value_One.j1]
  cases b
  · simp
  · rw [if_neg (by simp)]
    by_cases h10 : k = 10
    · rw [if_pos h10, if_pos h10]; unfold utf_Check.f; rw [if_pos hs]; simp
    rw [if_neg h10, if_neg h10]
    by_cases h9 : k = 9
    · rw [if_pos h9, if_pos (.inl h9)]; subst h9; simp [value_One.j2]
    rw [if_neg h9, one_j2 m k neg n s l ⟨h9, h10⟩]
    by_cases h14 : k = 14
    · rw [if_pos h14, if_pos (.inr h14)]; simp
    · rw [if_neg h14, if_neg (show ¬ (k = 9 ∨ k = 14) by omega)]; simp
theorem one_j0 (m : Nat) (k : Int) (neg : Bool) (n : Int) (s : ByteArray) (l : List S25) (hs : s.size ≤ 140737488351232) (hn : 0 ≤ n ∧ n ≤ 18446744073709551615) :
    value_One.j0 (m + 3) false k neg n s l = some (decide (n < 2 ^ bitsR k) && (if k = 10 then (Utf.checkF s).2 == 0 else if k = 9 ∨ k = 14 then true else if k = 5 then bigR s else
    (s.toList == ([] : List UInt8)) && (if k = 3 then !decide (19 < n ∧ n < 32) else if k = 12 then decide ((l.length : Int) % 2 = 0) else
      if k = 13 then decide (l.length = 1) && !(decide (n / 2 = 1) && decide ((rd_T25 l 0).f0 = 9) && bigR (rd_T25 l 0).f3) else true))) := by
  rw [show m + 3 = (m + 2) + 1 from rfl]
  simp only [value_One.j0]
  have hb := bitsR_le k
  rw [if_neg (by simp), show m + 2 = (m + 1) + 1 from rfl, bits_f, Option.bind_some]
  by_cases h : (bitsR k : Int) < 64
  · rw [if_pos h, if_pos (by omega), shr_ne n (bitsR k) hb hn.1]
    exact one_j1 m k neg n s l _ hs
  · rw [if_neg h]
    have e : bitsR k = 64 := by omega
    have e2 : decide (n < 2 ^ bitsR k) = true := by rw [e]; simp; omega
    rw [e2]
    exact one_j1 m k neg n s l true hs
theorem one_f (y : S25) (hw : wfS25 y) : Ev (fun k => value_One.f k y.f0 y.f1 y.f2 y.f3 y.f4) (oneR y) := by
  obtain ⟨k, neg, n, s, l⟩ := y
  simp only [wfS25] at hw
  have hn := wf_u64 hw.2.2.1
  have hs : s.size ≤ 140737488351232 := hw.2.2.2.1
  refine ⟨3, fun q hq => ?_⟩
  obtain ⟨m, rfl⟩ : ∃ m, q = m + 3 := ⟨q - 3, by omega⟩
  have ht : value_One.j0 (m + 3) true k neg n s l = some false := by rw [show m + 3 = (m + 2) + 1 from rfl]; simp [value_One.j0]
  unfold value_One.f oneR
  simp only
  by_cases h0 : k < 0
  · rw [if_pos h0, ht]; simp [show ¬ 0 ≤ k by omega]
  by_cases h1 : k > 14
  · rw [if_neg h0, if_pos h1, ht]; simp [show ¬ k ≤ 14 by omega]
  rw [if_neg h0, if_neg h1]
  have e : decide (0 ≤ k ∧ k ≤ 14) = true := decide_eq_true ⟨by omega, by omega⟩
  rw [e, Bool.true_and]
  by_cases h2 : neg = true
  · rw [if_pos h2]
    by_cases h4 : k = 4
    · rw [if_pos h4, one_j0 m k neg n s l hs hn]; simp [h4]
    · rw [if_neg h4]
      by_cases h5 : k = 5
      · rw [show (k != 5) = false by simp [h5], one_j0 m k neg n s l hs hn]; simp [h5]
      · rw [show (k != 5) = true by simp [h5], ht]; simp [h2, h4, h5]
  · rw [if_neg h2, one_j0 m k neg n s l hs hn]; simp [h2]
def okR (y : S25) : Bool := oneR y && !(leafR y.f0 && decide (0 < y.f4.length))
def checkR (x : S25) : Int := if 64 < depR x then 2 else if 65536 < cnt x then 2 else if (subs x).all okR then 0 else 9
theorem chk_f : ∀ l : List S25, (∀ y ∈ l, wfS25 y) → Ev (fun k => Each.chk T25 (fun y => value_One.f k y.f0 y.f1 y.f2 y.f3 y.f4) (fun y => value_Leaf.f y.f0 y.f1 y.f2 y.f3 y.f4) l) (if l.all okR then 0 else 9)
  | [], _ => Ev.const rfl
  | y :: l, h => by
    refine Ev.congr (fun k => by simp only [Each.chk]; rfl) (Ev.bind (one_f y (h y (by simp))) ?_)
    simp only [List.all_cons]
    by_cases h1 : oneR y = true
    · refine Ev.pos h1 (Ev.pre (leaf_f ..) ?_)
      by_cases h2 : leafR y.f0 = true
      · refine Ev.pos h2 ?_
        by_cases h3 : 0 < y.f4.length
        · refine Ev.pos h3 (Ev.const ?_)
          simp [okR, h2, h3]
        · refine Ev.neg h3 (Ev.res (chk_f l (fun z hz => h z (by simp [hz]))) ?_)
          simp [okR, h1, h3]
      · refine Ev.neg h2 (Ev.res (chk_f l (fun z hz => h z (by simp [hz]))) ?_)
        simp [okR, h1, h2]
    · refine Ev.neg h1 (Ev.const ?_)
      simp [okR, h1]
mutual
theorem wf_subs : ∀ x : S25, wfS25 x → ∀ y ∈ subs x, wfS25 y
  | ⟨a, b, c, d, l⟩, h, y, hy => by
    simp only [subs, List.mem_cons] at hy
    rcases hy with rfl | hy
    · exact h
    · exact wf_subsL l (wf_kids h).2 y hy
theorem wf_subsL : ∀ l : List S25, (∀ x ∈ l, wfS25 x) → ∀ y ∈ subsL l, wfS25 y
  | [], _, y, hy => by simp [subsL] at hy
  | x :: l, h, y, hy => by
    simp only [subsL, List.mem_append] at hy
    rcases hy with hy | hy
    · exact wf_subs x (h x (by simp)) y hy
    · exact wf_subsL l (fun z hz => h z (by simp [hz])) y hy
end
theorem check_f (x : S25) (hw : wfS25 x) (hs : szS25 x ≤ 4194304) : Ev (fun k => value_Check.f k x.f0 x.f1 x.f2 x.f3 x.f4) (checkR x) := by
  obtain ⟨a, b, c, d, l⟩ := x
  have h1 := dep_sz ⟨a, b, c, d, l⟩
  have h2 := cnt_sz ⟨a, b, c, d, l⟩
  dsimp only
  refine Ev.congr (fun k => by unfold value_Check.f; rfl) (Ev.bind (depth_f _ ⟨a, b, c, d, l⟩ (Nat.lt_succ_self _) (by omega) hw) ?_)
  refine Ev.pos (by omega) ?_
  unfold checkR
  by_cases c1 : 64 < depR ⟨a, b, c, d, l⟩
  · exact Ev.pos c1 (Ev.const (by rw [if_pos c1]))
  rw [if_neg c1]
  refine Ev.neg c1 ?_
  rw [nodes_len, wrap_id (by omega) (by omega), nodes_subs _ _ _ (Nat.lt_succ_self _)]
  by_cases c2 : 65536 < cnt ⟨a, b, c, d, l⟩
  · exact Ev.pos (by omega) (Ev.const (by rw [if_pos c2]))
  rw [if_neg c2]
  exact Ev.neg (by omega) (chk_f _ (wf_subs _ hw))
theorem need_f (k : Nat) (c : Int) (h0 : 0 ≤ c) (h1 : c ≤ 255) : glossatorref02_need.f (k + 2) c = some (Utf.rowF c).2.2.1 := by
  have e : glossatorref02_need.f (k + 2) c = glossatorref02_need.f 2 c := by
    simp only [glossatorref02_need.f, glossatorref02_need.j0, glossatorref02_need.j1]
  rw [e]
  obtain ⟨n, rfl⟩ := Int.eq_ofNat_of_zero_le h0
  have hd : ∀ n : Fin 256, glossatorref02_need.f 2 ((n.val : Nat) : Int) = some (Utf.rowF ((n.val : Nat) : Int)).2.2.1 := by decide +kernel
  exact hd ⟨n, by omega⟩
theorem row_lohi (c : Int) (h0 : 0 ≤ c) (h1 : c ≤ 255) (h2 : 2 ≤ (Utf.rowF c).2.2.1) : (Utf.rowF c).2.2.2 = (if c = 224 then (160, 191) else if c = 237 then (128, 159) else if c = 240 then (144, 191) else if c = 244 then (128, 143) else (128, 191)) := by
  obtain ⟨n, rfl⟩ := Int.eq_ofNat_of_zero_le h0
  have hd : ∀ n : Fin 256, 2 ≤ (Utf.rowF ((n.val : Nat) : Int)).2.2.1 → (Utf.rowF ((n.val : Nat) : Int)).2.2.2 = (if ((n.val : Nat) : Int) = 224 then (160, 191) else if ((n.val : Nat) : Int) = 237 then (128, 159) else if ((n.val : Nat) : Int) = 240 then (144, 191) else if ((n.val : Nat) : Int) = 244 then (128, 143) else (128, 191)) := by decide +kernel
  exact hd ⟨n, by omega⟩ h2
theorem may_1 (c x : Int) (h0 : 0 ≤ c) (h1 : c ≤ 255) (h2 : 2 ≤ (Utf.rowF c).2.2.1) : glossatorref02_may.f c 1 x = some (!decide (x < (Utf.rowF c).2.2.2.1 ∨ (Utf.rowF c).2.2.2.2 < x)) := by
  have e := row_lohi c h0 h1 h2
  rw [show (Utf.rowF c).2.2.2.1 = ((Utf.rowF c).2.2.2).1 from rfl, show (Utf.rowF c).2.2.2.2 = ((Utf.rowF c).2.2.2).2 from rfl, e]
  unfold glossatorref02_may.f
  rw [if_pos rfl]
  have g : ∀ lo hi : Int, (if x ≥ lo then some (decide (x ≤ hi)) else some false) = some (!decide (x < lo ∨ hi < x)) := fun lo hi => by
    by_cases c1 : x ≥ lo
    · rw [if_pos c1]; congr 1
      by_cases c2 : x ≤ hi
      · rw [decide_eq_true c2, decide_eq_false (by omega)]; rfl
      · rw [decide_eq_false c2, decide_eq_true (by omega)]; rfl
    · rw [if_neg c1, decide_eq_true (by omega)]; rfl
  by_cases c1 : c = 224
  · rw [if_pos c1, if_pos c1]; exact g _ _
  by_cases c2 : c = 237
  · rw [if_neg c1, if_neg c1, if_pos c2, if_pos c2]; exact g _ _
  by_cases c3 : c = 240
  · rw [if_neg c1, if_neg c1, if_neg c2, if_neg c2, if_pos c3, if_pos c3]; exact g _ _
  by_cases c4 : c = 244
  · rw [if_neg c1, if_neg c1, if_neg c2, if_neg c2, if_neg c3, if_neg c3, if_pos c4, if_pos c4]; exact g _ _
  · rw [if_neg c1, if_neg c1, if_neg c2, if_neg c2, if_neg c3, if_neg c3, if_neg c4, if_neg c4]; exact g _ _
theorem may_n (c j x : Int) (hj : j ≠ 1) : glossatorref02_may.f c j x = some (!decide (x < 128 ∨ 191 < x)) := by
  unfold glossatorref02_may.f
  rw [if_neg hj]
  by_cases c1 : x ≥ 128
  · rw [if_pos c1]; congr 1
    by_cases c2 : x ≤ 191
    · rw [decide_eq_true c2, decide_eq_false (by omega)]; rfl
    · rw [decide_eq_false c2, decide_eq_true (by omega)]; rfl
  · rw [if_neg c1, decide_eq_true (by omega)]; rfl
def stR (c : Int) (m : Nat) : Int × Int × Int := if m = 1 then ((Utf.rowF c).2.2.1 - 1, (Utf.rowF c).2.2.2.1, (Utf.rowF c).2.2.2.2) else ((Utf.rowF c).2.2.1 - (m : Int), 128, 191)
theorem stR_1 (c : Int) (m : Nat) : (stR c m).1 = (Utf.rowF c).2.2.1 - (m : Int) := by
  unfold stR; split
  · next h => subst h; rfl
  · rfl
theorem stR_may (c : Int) (m : Nat) (x : Int) (h0 : 0 ≤ c) (h1 : c ≤ 255) (hm : 1 ≤ m) (h2 : (m : Int) < (Utf.rowF c).2.2.1) : glossatorref02_may.f c (m : Int) x = some (!decide (x < (stR c m).2.1 ∨ (stR c m).2.2 < x)) := by
  unfold stR
  by_cases h : m = 1
  · subst h; rw [if_pos rfl]; exact may_1 c x h0 h1 (by omega)
  · rw [if_neg h]; exact may_n c _ x (by omega)
theorem stepF_z (s : Int × Int × Int) (c : Int) (hs : s.1 = 0) (hz : (Utf.rowF c).2.2.1 = 0) : Utf.stepF s c (-1) = (false, s) := by
  unfold Utf.stepF
  rw [if_neg (by omega), if_pos (Or.inl hz)]
theorem stepF_n (s : Int × Int × Int) (c : Int) (hs : s.1 = 0) (hz : ¬ (Utf.rowF c).2.2.1 = 0) : Utf.stepF s c (-1) = (true, (Utf.rowF c).2.2.1 - 1, (Utf.rowF c).2.2.2.1, (Utf.rowF c).2.2.2.2) := by
  unfold Utf.stepF
  rw [if_neg (by omega), if_neg (show ¬ ((Utf.rowF c).2.2.1 = 0 ∨ (0 : Int) ≤ -1 ∧ (-1 : Int) < (Utf.rowF c).2.2.1 - 1) by omega)]
theorem stepF_bad (s : Int × Int × Int) (c : Int) (hs : 0 < s.1) (hz : c < s.2.1 ∨ s.2.2 < c) : Utf.stepF s c (-1) = (false, s) := by
  unfold Utf.stepF
  rw [if_pos hs, if_pos hz]
theorem stepF_ok (s : Int × Int × Int) (c : Int) (hs : 0 < s.1) (hz : ¬ (c < s.2.1 ∨ s.2.2 < c)) : Utf.stepF s c (-1) = (true, s.1 - 1, 128, 191) := by
  unfold Utf.stepF
  rw [if_pos hs, if_neg hz]
theorem within_f (a : ByteArray) (ha : a.size ≤ 140737488351232) : ∀ d : Nat,
    (∀ (j : Nat) (s : Int × Int × Int), j + d = a.size → s.1 = 0 → Ev (fun k => glossatorref02_within.l0 k a (-1) (j : Int)) (Utf.scanF a d j s)) ∧
    (∀ (i m : Nat), i + m + d = a.size → 1 ≤ m → (m : Int) ≤ (Utf.rowF (bt a (i : Int))).2.2.1 → Ev (fun k => glossatorref02_within.l1 k a (-1) (i : Int) (Utf.rowF (bt a (i : Int))).2.2.1 (m : Int)) (Utf.scanF a d (i + m) (stR (bt a (i : Int)) m))) := by
  intro d
  have hP0 : ∀ (j : Nat) (s : Int × Int × Int), j = a.size → s.1 = 0 → Ev (fun k => glossatorref02_within.l0 k a (-1) (j : Int)) (Utf.scanF a 0 j s) := fun j s hj hs => by
    refine Ev.step (fun k => by simp only [glossatorref02_within.l0]; rfl) (Ev.neg (by omega) (Ev.neg (by omega) (Ev.const ?_)))
    simp only [Utf.scanF]
    rw [if_neg (by omega), hj]
  have hend : ∀ (i m d : Nat), i + m + d = a.size → (m : Int) = (Utf.rowF (bt a (i : Int))).2.2.1 → (∀ s : Int × Int × Int, s.1 = 0 → Ev (fun k => glossatorref02_within.l0 k a (-1) ((i + m : Nat) : Int)) (Utf.scanF a d (i + m) s)) → Ev (fun k => glossatorref02_within.l1 k a (-1) (i : Int) (Utf.rowF (bt a (i : Int))).2.2.1 (m : Int)) (Utf.scanF a d (i + m) (stR (bt a (i : Int)) m)) := fun i m d h0 h1 h2 => by
    refine Ev.step (fun k => by simp only [glossatorref02_within.l1]; rfl) (Ev.neg (by omega) ?_)
    rw [← h1, wrap_id (by omega) (by omega)]
    exact h2 _ (by rw [stR_1]; omega)
  induction d with
  | zero =>
    refine ⟨fun j s hj hs => hP0 j s (by omega) hs, fun i m him hm1 hm2 => ?_⟩
    by_cases hlt : (m : Int) < (Utf.rowF (bt a (i : Int))).2.2.1
    · refine Ev.step (fun k => by simp only [glossatorref02_within.l1]; rfl) (Ev.pos hlt ?_)
      rw [wrap_id (by omega) (by omega)]
      refine Ev.pos (by omega) (Ev.const ?_)
      simp only [Utf.scanF]
      rw [if_pos (by rw [stR_1]; omega)]
    · exact hend i m 0 (by omega) (by omega) (fun s hs => hP0 _ s (by omega) hs)
  | succ d ih =>
    obtain ⟨ihP, ihQ⟩ := ih
    have hP : ∀ (j : Nat) (s : Int × Int × Int), j + (d + 1) = a.size → s.1 = 0 → Ev (fun k => glossatorref02_within.l0 k a (-1) (j : Int)) (Utf.scanF a (d + 1) j s) := fun j s hj hs => by
      have hb := bt_range a (j : Int)
      have hn := Utf.rowF_n (bt a (j : Int))
      refine Ev.step (fun k => by simp only [glossatorref02_within.l0]; rfl) (Ev.pos (by omega) (Ev.pos (by omega) ?_))
      refine Ev.bind ⟨2, fun k hk => by obtain ⟨m, rfl⟩ : ∃ m, k = m + 2 := ⟨k - 2, by omega⟩; exact need_f m _ hb.1 hb.2⟩ ?_
      simp only [Utf.scanF]
      by_cases hz : (Utf.rowF (bt a (j : Int))).2.2.1 = 0
      · rw [stepF_z s _ hs hz]
        refine Ev.pos hz (Ev.step (fun k => by simp only [glossatorref02_within.j1]; rfl) (Ev.pos (by first | trivial | rfl) (Ev.const ?_)))
        rw [if_neg (by simp)]
      · rw [stepF_n s _ hs hz]
        refine Ev.neg hz (Ev.neg (by omega) (Ev.step (fun k => by simp only [glossatorref02_within.j1]; rfl) (Ev.neg (by simp) ?_)))
        rw [if_pos rfl]
        exact ihQ j 1 (by omega) (by omega) (by omega)
    refine ⟨hP, fun i m him hm1 hm2 => ?_⟩
    by_cases hlt : (m : Int) < (Utf.rowF (bt a (i : Int))).2.2.1
    · have hb := bt_range a (i : Int)
      refine Ev.step (fun k => by simp only [glossatorref02_within.l1]; rfl) (Ev.pos hlt ?_)
      rw [wrap_id (x := (i : Int) + (m : Int)) (by omega) (by omega), wrap_id (x := (m : Int) + 1) (by omega) (by omega), show (i : Int) + (m : Int) = ((i + m : Nat) : Int) by omega]
      refine Ev.neg (by omega) (Ev.pos (by omega) (Ev.pos (by omega) (Ev.pos (by omega) (Ev.pos (by omega) (Ev.pre (stR_may _ m _ hb.1 hb.2 hm1 hlt) ?_)))))
      simp only [Utf.scanF]
      have hpos : 0 < (stR (bt a (i : Int)) m).1 := by rw [stR_1]; omega
      by_cases hc : bt a ((i + m : Nat) : Int) < (stR (bt a (i : Int)) m).2.1 ∨ (stR (bt a (i : Int)) m).2.2 < bt a ((i + m : Nat) : Int)
      · rw [stepF_bad _ _ hpos hc, decide_eq_true hc]
        exact Ev.neg (by simp) (Ev.const (by rw [if_neg (by simp)]))
      · rw [stepF_ok _ _ hpos hc, decide_eq_false hc]
        refine Ev.pos (by first | trivial | rfl) ?_
        rw [if_pos rfl]
        have := ihQ i (m + 1) (by omega) (by omega) (by omega)
        rw [show ((m + 1 : Nat) : Int) = (m : Int) + 1 by omega] at this
        refine Ev.res this ?_
        rw [show i + (m + 1) = i + m + 1 by omega]
        congr 1
        rw [stR_1]
        unfold stR
        rw [if_neg (by omega), show (Utf.rowF (bt a (i : Int))).2.2.1 - ((m + 1 : Nat) : Int) = (Utf.rowF (bt a (i : Int))).2.2.1 - (m : Int) - 1 by omega]
    · exact hend i m (d + 1) (by omega) (by omega) (fun s hs => hP (i + m) s (by omega) hs)
theorem ucheck_f (a : ByteArray) (ha : a.size ≤ 140737488351232) : Ev (fun k => glossatorref02_Check.f k a) (Utf.checkF a) := by
  refine Ev.congr (fun k => by unfold glossatorref02_Check.f glossatorref02_within.f; rfl) (Ev.bind ((within_f a ha a.size).1 0 (0, 0, 0) (by omega) rfl) (Ev.const rfl))
theorem rbig_f (s : ByteArray) : glossatorref08_Big.f s = some (bigR s) := by
  unfold glossatorref08_Big.f bigR
  by_cases h1 : (s.size : Int) > 8
  · rw [if_pos h1]
    by_cases h2 : (s.size : Int) ≤ 512
    · rw [if_pos h2, if_pos (by omega)]; simp [show 8 < (s.size : Int) by omega, h2]
    · rw [if_neg h2]; simp [h2]
  · rw [if_neg h1]; simp [show ¬ 8 < (s.size : Int) by omega]
theorem rleaf_f (a0 : Int) (a1 : Bool) (a2 : Int) (a3 : ByteArray) (a4 : List S25) : glossatorref08_Leaf.f a0 a1 a2 a3 a4 = some (leafR a0) := by
  unfold glossatorref08_Leaf.f leafR
  by_cases h1 : a0 = 11
  · rw [if_pos h1]; simp [h1]
  · by_cases h2 : a0 = 12
    · rw [if_neg h1, if_pos h2]; simp [h2]
    · rw [if_neg h1, if_neg h2]; by_cases h3 : a0 = 13 <;> simp [h1, h2, h3]
theorem rone_j (k : Int) (neg : Bool) (n : Int) (s : ByteArray) (l : List S25) (hn : 0 ≤ n ∧ n ≤ 18446744073709551615) (h10 : k ≠ 10) (m : Nat) :
    glossatorref08_One.f (m + 1) k neg n s l = some (oneR ⟨k, neg, n, s, l⟩) := by
  have hk : k < 0 ∨ k = 0 ∨ k = 1 ∨ k = 2 ∨ k = 3 ∨ k = 4 ∨ k = 5 ∨ k = 6 ∨ k = 7 ∨ k = 8 ∨ k = 9 ∨ k = 11 ∨ k = 12 ∨ k = 13 ∨ k = 14 ∨ 14 < k := by omega
  obtain ⟨e, he⟩ : ∃ e, (s.toList == ([] : List UInt8)) = e := ⟨_, rfl⟩
  obtain ⟨L, hL⟩ : ∃ L : Nat, l.length = L := ⟨_, rfl⟩
  rcases hk with h | rfl | rfl | rfl | rfl | rfl | rfl | rfl | rfl | rfl | rfl | rfl | rfl | rfl | rfl | h
  · simp only [glossatorref08_One.f, glossatorref08_One.j0, oneR]
    rw [if_neg (by omega), if_neg (by simp; omega), if_neg (by omega), if_neg (by omega), if_neg (by omega), if_neg (by omega), if_neg (by omega), if_neg (by omega), if_neg (by omega), if_neg (by omega), if_neg (by omega), if_neg (by omega), if_neg (by omega), if_neg (by omega), if_neg (by omega)]
    simp [show ¬ 0 ≤ k by omega]
  all_goals try (simp only [glossatorref08_One.f, glossatorref08_One.j0, oneR, bitsR, he, hL]; cases e <;> cases neg <;> simp <;> omega)
  all_goals try (simp only [glossatorref08_One.f, glossatorref08_One.j0, oneR, bitsR, he, hL, rbig_f]; have h1 : (n < 1) = (n = 0) := (by simp only [eq_iff_iff]; omega); by_cases h0 : n = 0 <;> cases e <;> cases neg <;> simp [*] <;> done)
  · simp only [glossatorref08_One.f, glossatorref08_One.j0, oneR, bitsR, he, hL]
    have g3 : (n < 256) = (n ≤ 255) := by simp only [eq_iff_iff]; omega
    by_cases c1 : n ≤ 19
    · have h1 : ¬ 19 < n := by omega
      have h2 : n ≤ 255 := by omega
      cases e <;> cases neg <;> simp [c1, h1, h2, g3]
    · have h1 : 19 < n := by omega
      by_cases c2 : 32 ≤ n
      · have h2 : ¬ n < 32 := by omega
        cases e <;> cases neg <;> simp [c1, h1, h2, c2, g3]
      · have h2 : n < 32 := by omega
        cases e <;> cases neg <;> simp [c1, h1, h2, c2]
  · simp only [glossatorref08_One.f, glossatorref08_One.j0, oneR, bitsR, he, hL]
    have h1 : (n < 1) = (n = 0) := by simp only [eq_iff_iff]; omega
    obtain ⟨q, hq⟩ : ∃ q : Int, (L : Int) % 2 = q := ⟨_, rfl⟩
    by_cases h0 : n = 0 <;> by_cases h2 : q = 0 <;> cases e <;> cases neg <;> simp [h0, h1, hq, h2]
  · simp only [glossatorref08_One.f, glossatorref08_One.j0, oneR, bitsR, he, hL, rbig_f]
    have g : decide (n < 2 ^ 64) = true := by simp; omega
    by_cases hL1 : L = 1
    · have hL1' : (L : Int) = 1 := by omega
      have hL0 : 0 < (L : Int) := by omega
      by_cases h2 : n = 2
      · subst h2; cases e <;> cases neg <;> by_cases h9 : (rd_T25 l 0).f0 = 9 <;> simp [*]
      · by_cases h3 : n = 3
        · subst h3; cases e <;> cases neg <;> by_cases h9 : (rd_T25 l 0).f0 = 9 <;> simp [*]
        · have h4 : ¬ n / 2 = 1 := by omega
          cases e <;> cases neg <;> simp [*] <;> omega
    · have hL1' : ¬ (L : Int) = 1 := by omega
      cases e <;> cases neg <;> simp [*]
  · simp only [glossatorref08_One.f, glossatorref08_One.j0, oneR]
    rw [if_neg (by omega), if_neg (by simp; omega), if_neg (by omega), if_neg (by omega), if_neg (by omega), if_neg (by omega), if_neg (by omega), if_neg (by omega), if_neg (by omega), if_neg (by omega), if_neg (by omega), if_neg (by omega), if_neg (by omega), if_neg (by omega), if_neg (by omega)]
    simp [show ¬ k ≤ 14 by omega]
theorem rone_f (y : S25) (hw : wfS25 y) : Ev (fun k => glossatorref08_One.f k y.f0 y.f1 y.f2 y.f3 y.f4) (oneR y) := by
  obtain ⟨k, neg, n, s, l⟩ := y
  simp only [wfS25] at hw
  have hn := wf_u64 hw.2.2.1
  have hs : s.size ≤ 140737488351232 := hw.2.2.2.1
  dsimp only
  by_cases h10 : k = 10
  · subst h10
    refine Ev.congr (fun q => by unfold glossatorref08_One.f; rfl) (Ev.neg (by decide) (Ev.step (fun q => by simp only [glossatorref08_One.j0]; rfl) ?_))
    refine Ev.neg (by decide) (Ev.neg (by decide) (Ev.neg (by decide) (Ev.neg (by decide) (Ev.neg (by decide) (Ev.neg (by decide) (Ev.neg (by decide) (Ev.neg (by decide) (Ev.neg (by decide) (Ev.pos (by decide) (Ev.bind (ucheck_f s hs) ?_))))))))))
    refine Ev.const ?_
    simp only [oneR, bitsR]
    cases neg <;> simp <;> by_cases h0 : n = 0 <;> simp [h0] <;> omega
  · exact ⟨1, fun q hq => by obtain ⟨m, rfl⟩ : ∃ m, q = m + 1 := ⟨q - 1, by omega⟩; exact rone_j k neg n s l hn h10 m⟩
theorem rdepth_l0 (v0 : Int) (v1 : Bool) (v2 : Int) (v3 : ByteArray) (l : List S25) (hl : l.length * 64 ≤ 140737488351232) (hd : depL25 l ≤ 9000000000000000000) (hf : ∀ x ∈ l, Ev (fun k => glossatorref08_Depth.f k x.f0 x.f1 x.f2 x.f3 x.f4) (depR x)) :
    ∀ (d j : Nat) (a : Int), j + d = l.length → 0 ≤ a → a ≤ 9000000000000000000 → Ev (fun k => glossatorref08_Depth.l0 k a (j : Int) v0 v1 v2 v3 l) (max a (depRL (l.drop j)) + 1) := by
  intro d
  induction d with
  | zero =>
    intro j a hj h0 h1
    refine Ev.step (fun k => by simp only [glossatorref08_Depth.l0]; rfl) (Ev.neg (by omega) (Ev.const ?_))
    rw [List.drop_of_length_le (by omega), wrap_id (by omega) (by omega)]
    simp only [depRL]
    rw [show max a 0 = a by omega]
  | succ d ih =>
    intro j a hj h0 h1
    have hlt : j < l.length := by omega
    have hb := depR_pos l[j]
    have hm := dep25_mem l l[j] (List.getElem_mem hlt)
    refine Ev.step (fun k => by simp only [glossatorref08_Depth.l0]; rfl) (Ev.pos (by omega) (Ev.pos (by omega) ?_))
    rw [rdT_get l j hlt, wrap_id (by omega) (by omega)]
    refine Ev.bind (hf _ (List.getElem_mem hlt)) ?_
    rw [mx_max]
    refine Ev.res (ih (j + 1) _ (by omega) (by omega) (by omega)) ?_
    rw [List.drop_eq_getElem_cons hlt]
    simp only [depRL]
    omega
theorem rdepth_f : ∀ (m : Nat) (x : S25), dep25 x < m → m ≤ 9000000000000000000 → wfS25 x → Ev (fun k => glossatorref08_Depth.f k x.f0 x.f1 x.f2 x.f3 x.f4) (depR x) := by
  intro m
  induction m with
  | zero => intro x h; omega
  | succ m ih =>
    rintro ⟨a0, a1, a2, a3, a4⟩ hd hm hw
    obtain ⟨hl, hk⟩ := wf_kids hw
    refine Ev.step (fun k => by simp only [glossatorref08_Depth.f]; rfl) ?_
    simp only [depR]
    by_cases h5 : a0 = 5
    · refine Ev.pos h5 (Ev.const ?_)
      subst h5; rfl
    refine Ev.neg h5 (Ev.pre (rleaf_f a0 a1 a2 a3 a4) ?_)
    by_cases h : leafR a0 = true
    · rw [if_pos h, if_neg h5]
      exact Ev.pos h (Ev.const rfl)
    · rw [if_neg h]
      have hdl : depL25 a4 < m := by simp only [dep25] at hd; omega
      refine Ev.neg h (Ev.res (rdepth_l0 a0 a1 a2 a3 a4 hl (by omega) (fun x hx => ih x (by have := dep25_mem a4 x hx; omega) (by omega) (hk x hx)) a4.length 0 0 (by omega) (by omega) (by omega)) ?_)
      have := depRL_pos a4
      rw [List.drop_zero]; omega
theorem cntL_mem : ∀ (l : List S25) (y : S25), y ∈ l → cnt y ≤ cntL l
  | [], _, h => by simp at h
  | x :: l, y, h => by
    simp only [cntL]
    rcases List.mem_cons.1 h with rfl | h
    · omega
    · have := cntL_mem l y h; omega
theorem len_cntL : ∀ l : List S25, l.length ≤ cntL l
  | [] => Nat.le_refl _
  | x :: l => by have := len_cntL l; have := cnt_pos x; simp only [cntL, List.length_cons]; omega
theorem rcount_l0 (v0 : Int) (v1 : Bool) (v2 : Int) (v3 : ByteArray) (l : List S25) (hc : cntL l ≤ 9000000000000000) (hf : ∀ x ∈ l, Ev (fun k => glossatorref08_Count.f k x.f0 x.f1 x.f2 x.f3 x.f4) (cnt x : Int)) :
    ∀ (d j : Nat) (a : Nat), j + d = l.length → a ≤ 9000000000000000 → a + cntL (l.drop j) ≤ 9000000000000001 → Ev (fun k => glossatorref08_Count.l0 k (a : Int) (j : Int) v0 v1 v2 v3 l) ((a + cntL (l.drop j) : Nat) : Int) := by
  have hll := len_cntL l
  intro d
  induction d with
  | zero =>
    intro j a hj h1 h2
    refine Ev.step (fun k => by simp only [glossatorref08_Count.l0]; rfl) (Ev.neg (by omega) (Ev.const ?_))
    rw [List.drop_of_length_le (by omega)]; rfl
  | succ d ih =>
    intro j a hj h1 h2
    have hlt : j < l.length := by omega
    rw [List.drop_eq_getElem_cons hlt] at h2 ⊢
    simp only [cntL] at h2 ⊢
    refine Ev.step (fun k => by simp only [glossatorref08_Count.l0]; rfl) (Ev.pos (by omega) (Ev.pos (by omega) ?_))
    rw [rdT_get l j hlt, wrap_id (x := (j : Int) + 1) (by omega) (by omega)]
    refine Ev.bind (hf _ (List.getElem_mem hlt)) ?_
    rw [wrap_id (by omega) (by omega), show (a : Int) + (cnt l[j] : Int) = ((a + cnt l[j] : Nat) : Int) by omega]
    by_cases hd0 : d = 0
    · subst hd0
      refine Ev.step (fun k => by simp only [glossatorref08_Count.l0]; rfl) (Ev.neg (by omega) (Ev.const ?_))
      rw [List.drop_of_length_le (by omega)]; rfl
    · have hrest : 1 ≤ cntL (l.drop (j + 1)) := by have := len_cntL (l.drop (j + 1)); rw [List.length_drop] at this; omega
      refine Ev.res (ih (j + 1) (a + cnt l[j]) (by omega) (by omega) (by omega)) ?_
      rw [Nat.add_assoc]
theorem rcount_f : ∀ (m : Nat) (x : S25), dep25 x < m → cnt x ≤ 9000000000000000 → Ev (fun k => glossatorref08_Count.f k x.f0 x.f1 x.f2 x.f3 x.f4) (cnt x : Int) := by
  intro m
  induction m with
  | zero => intro x h; omega
  | succ m ih =>
    rintro ⟨a0, a1, a2, a3, a4⟩ hd hc
    simp only [cnt] at hc ⊢
    have hdl : depL25 a4 < m := by simp only [dep25] at hd; omega
    refine Ev.step (fun k => by simp only [glossatorref08_Count.f]; rfl) (Ev.res (rcount_l0 a0 a1 a2 a3 a4 (by omega) (fun x hx => ih x (by have := dep25_mem a4 x hx; omega) (by have := cntL_mem a4 x hx; omega)) a4.length 0 1 (by omega) (by omega) (by rw [List.drop_zero]; omega)) ?_)
    rw [List.drop_zero, Nat.add_comm]
theorem rright_l0 (v0 : Int) (v1 : Bool) (v2 : Int) (v3 : ByteArray) (l : List S25) (hl : l.length * 64 ≤ 140737488351232) (hf : ∀ x ∈ l, Ev (fun k => glossatorref08_right.f k x.f0 x.f1 x.f2 x.f3 x.f4) ((subs x).all okR)) :
    ∀ (d j : Nat), j + d = l.length → Ev (fun k => glossatorref08_right.l0 k (j : Int) v0 v1 v2 v3 l) ((subsL (l.drop j)).all okR) := by
  intro d
  induction d with
  | zero =>
    intro j hj
    refine Ev.step (fun k => by simp only [glossatorref08_right.l0]; rfl) (Ev.neg (by omega) (Ev.const ?_))
    rw [List.drop_of_length_le (by omega)]; rfl
  | succ d ih =>
    intro j hj
    have hlt : j < l.length := by omega
    rw [List.drop_eq_getElem_cons hlt]
    simp only [subsL, List.all_append]
    refine Ev.step (fun k => by simp only [glossatorref08_right.l0]; rfl) (Ev.pos (by omega) (Ev.pos (by omega) ?_))
    rw [rdT_get l j hlt, wrap_id (x := (j : Int) + 1) (by omega) (by omega)]
    refine Ev.bind (hf _ (List.getElem_mem hlt)) ?_
    by_cases h : (subs l[j]).all okR = true
    · refine Ev.pos h (Ev.res (ih (j + 1) (by omega)) ?_)
      rw [h, Bool.true_and]
    · refine Ev.neg h (Ev.const ?_)
      rw [Bool.eq_false_iff.2 h, Bool.false_and]
theorem rright_f : ∀ (m : Nat) (x : S25), dep25 x < m → wfS25 x → Ev (fun k => glossatorref08_right.f k x.f0 x.f1 x.f2 x.f3 x.f4) ((subs x).all okR) := by
  intro m
  induction m with
  | zero => intro x h; omega
  | succ m ih =>
    rintro ⟨a0, a1, a2, a3, a4⟩ hd hw
    obtain ⟨hl, hk⟩ := wf_kids hw
    have hdl : depL25 a4 < m := by simp only [dep25] at hd; omega
    have hone := rone_f ⟨a0, a1, a2, a3, a4⟩ hw
    dsimp only at hone
    have hkids := rright_l0 a0 a1 a2 a3 a4 hl (fun x hx => ih x (by have := dep25_mem a4 x hx; omega) (hk x hx)) a4.length 0 (by omega)
    rw [List.drop_zero] at hkids
    simp only [subs, List.all_cons]
    refine Ev.step (fun k => by simp only [glossatorref08_right.f]; rfl) (Ev.bind hone ?_)
    by_cases h1 : oneR ⟨a0, a1, a2, a3, a4⟩ = true
    · refine Ev.pos h1 (Ev.pre (rleaf_f a0 a1 a2 a3 a4) ?_)
      by_cases h2 : leafR a0 = true
      · refine Ev.pos h2 (Ev.step (fun k => by simp only [glossatorref08_right.j0]; rfl) ?_)
        by_cases h3 : a4.length = 0
        · refine Ev.neg (by simp [h3]) (Ev.res hkids ?_)
          simp [okR, h1, h3]
        · refine Ev.pos (by simp only [bne_iff_ne, ne_eq]; omega) (Ev.const ?_)
          simp [okR, h2, show 0 < a4.length by omega]
      · refine Ev.neg h2 (Ev.step (fun k => by simp only [glossatorref08_right.j0]; rfl) (Ev.neg (by simp) (Ev.res hkids ?_)))
        simp [okR, h1, h2]
    · refine Ev.neg h1 (Ev.step (fun k => by simp only [glossatorref08_right.j0]; rfl) (Ev.pos (by first | trivial | rfl) (Ev.const ?_)))
      simp [okR, h1]
theorem rcheck_f (x : S25) (hw : wfS25 x) (hs : szS25 x ≤ 4194304) : Ev (fun k => glossatorref08_Check.f k x.f0 x.f1 x.f2 x.f3 x.f4) (checkR x) := by
  have h1 := dep_sz x
  have h2 := cnt_sz x
  refine Ev.congr (fun k => by unfold glossatorref08_Check.f; rfl) (Ev.bind (rdepth_f _ x (Nat.lt_succ_self _) (by omega) hw) ?_)
  unfold checkR
  by_cases c1 : 64 < depR x
  · refine Ev.pos c1 (Ev.step (fun k => by simp only [glossatorref08_Check.j0]; rfl) (Ev.pos (by first | trivial | rfl) (Ev.const (by rw [if_pos c1]))))
  rw [if_neg c1]
  refine Ev.neg c1 (Ev.bind (rcount_f _ x (Nat.lt_succ_self _) (by omega)) (Ev.step (fun k => by simp only [glossatorref08_Check.j0]; rfl) ?_))
  by_cases c2 : 65536 < cnt x
  · exact Ev.pos (decide_eq_true (by omega)) (Ev.const (by rw [if_pos c2]))
  rw [if_neg c2]
  refine Ev.neg (by simp; omega) (Ev.bind (rright_f _ x (Nat.lt_succ_self _) hw) ?_)
  by_cases c3 : (subs x).all okR = true
  · exact Ev.pos c3 (Ev.const (by rw [if_pos c3]))
  · exact Ev.neg c3 (Ev.const (by rw [if_neg c3]))
mutual
def itC (o : Bool) : S25 → List Int
  | ⟨k, b, n, s, l⟩ => Cw.hdC T25 o ⟨k, b, n, s, l⟩ ++ ((if k = 11 ∨ k = 12 then itCL o l else if k = 13 then itC1 o l else []) ++ Cw.enC T25 o ⟨k, b, n, s, l⟩)
def itCL (o : Bool) : List S25 → List Int
  | [] => []
  | x :: l => itC o x ++ itCL o l
def itC1 (o : Bool) : List S25 → List Int
  | [] => []
  | x :: _ => itC o x
end
theorem itCL_flat (o : Bool) : ∀ l : List S25, itCL o l = (l.map (itC o)).flatten
  | [] => by simp [itCL]
  | x :: l => by simp [itCL, itCL_flat o l]
theorem itmC_R (o : Bool) : ∀ (m : Nat) (x : S25), dep25 x < m → Cw.itmC T25 o m x = itC o x := by
  intro m
  induction m with
  | zero => intro x h; omega
  | succ m ih =>
    rintro ⟨k, b, n, s, l⟩ h
    simp only [dep25] at h
    show Cw.hdC T25 o ⟨k, b, n, s, l⟩ ++ (((Cw.kdC T25 ⟨k, b, n, s, l⟩).map (Cw.itmC T25 o m)).flatten ++ Cw.enC T25 o ⟨k, b, n, s, l⟩) = _
    rw [itC]
    congr 2
    show ((if k = 11 ∨ k = 12 then l else if k = 13 then l.take 1 else []).map (Cw.itmC T25 o m)).flatten = _
    have hm : ∀ y ∈ l, Cw.itmC T25 o m y = itC o y := fun y hy => ih y (by have := dep25_mem l y hy; omega)
    split
    · rw [itCL_flat]
      congr 1
      exact List.map_congr_left hm
    · split
      · cases l with
        | nil => simp [itC1]
        | cons a l => simp [itC1, hm a (List.mem_cons_self ..)]
      · simp
theorem txtP_len (o : Bool) (M : Int) (t : ByteArray) : (Cw.txtP o M t).length ≤ 19 + t.size := by
  have h1 := Cw.begP_len o M (t.size : Int)
  have h2 := Cw.headP_len M (t.size : Int)
  simp only [Cw.txtP, List.length_append, bytesOf_length]
  (repeat' split) <;> (try simp only [List.length_cons, List.length_nil]) <;> omega
theorem hdC_len (o : Bool) (x : S25) : (Cw.hdC T25 o x).length ≤ 28 + x.f3.size := by
  unfold Cw.hdC
  have h1 := Cw.headP_len
  have h2 := txtP_len o 2 (T25.s x)
  have h3 := txtP_len o 3 (T25.s x)
  have h4 := Cw.fltP_len 1 (by omega) (T25.n x)
  have h5 := Cw.fltP_len 2 (by omega) (T25.n x)
  have h6 := Cw.fltP_len 3 (by omega) (T25.n x)
  have h7 := Cw.begP_len o
  have e : (T25.s x).size = x.f3.size := rfl
  have a1 := h1 7 22; have a2 := h1 7 23; have a3 := h1 7 ((T25.n x + 20) % 18446744073709551616); have a4 := h1 7 (T25.n x)
  have a5 := h1 (if T25.neg x = true then 1 else 0) (T25.n x); have a6 := h1 6 (2 + if T25.neg x = true then 1 else 0); have a7 := h1 6 (T25.n x)
  have a8 := h7 4 ((T25.kids x).length : Int); have a9 := h7 5 (((T25.kids x).length : Int) / 2)
  clear h1 h7
  by_cases c0 : T25.k x = 0
  · rw [if_pos c0]; omega
  rw [if_neg c0]
  by_cases c : T25.k x = 2
  · rw [if_pos c]; omega
  rw [if_neg c]
  by_cases c : T25.k x = 1
  · rw [if_pos c]; omega
  rw [if_neg c]
  by_cases c : T25.k x = 3
  · rw [if_pos c]; omega
  rw [if_neg c]
  by_cases c : T25.k x = 4
  · rw [if_pos c]; omega
  rw [if_neg c]
  by_cases c : T25.k x = 6
  · rw [if_pos c]; omega
  rw [if_neg c]
  by_cases c : T25.k x = 7
  · rw [if_pos c]; omega
  rw [if_neg c]
  by_cases c : T25.k x = 8
  · rw [if_pos c]; omega
  rw [if_neg c]
  by_cases c : T25.k x = 5
  · rw [if_pos c, List.length_append]; omega
  rw [if_neg c]
  by_cases c : T25.k x = 9
  · rw [if_pos c]; omega
  rw [if_neg c]
  by_cases c : T25.k x = 10
  · rw [if_pos c]; omega
  rw [if_neg c]
  by_cases c : T25.k x = 13
  · rw [if_pos c]; omega
  rw [if_neg c]
  by_cases c : T25.k x = 11
  · rw [if_pos c]; omega
  rw [if_neg c]
  by_cases c : T25.k x = 12
  · rw [if_pos c]; omega
  rw [if_neg c]
  simp
mutual
theorem itC_len (o : Bool) : ∀ x : S25, (itC o x).length ≤ 5 * szS25 x
  | ⟨k, b, n, s, l⟩ => by
    have h1 := hdC_len o ⟨k, b, n, s, l⟩
    have h2 := itCL_len o l
    have h3 := itC1_len o l
    have h4 : (Cw.enC T25 o ⟨k, b, n, s, l⟩).length ≤ 1 := by unfold Cw.enC; split <;> simp
    simp only [itC, List.length_append, szS25] at h1 ⊢
    split
    · omega
    · split
      · omega
      · simp only [List.length_nil]; omega
theorem itCL_len (o : Bool) : ∀ l : List S25, (itCL o l).length ≤ 5 * szL25 l
  | [] => by simp [itCL]
  | x :: l => by
    have h1 := itC_len o x
    have h2 := itCL_len o l
    simp only [itCL, List.length_append, szL25] at h1 ⊢
    omega
theorem itC1_len (o : Bool) : ∀ l : List S25, (itC1 o l).length ≤ 5 * szL25 l
  | [] => by simp [itC1]
  | x :: l => by
    have h1 := itC_len o x
    simp only [itC1, szL25] at h1 ⊢
    omega
end
mutual
def saysC : S25 → Bool
  | ⟨k, _, _, _, l⟩ => saysCL l && decide (k ≠ 14)
def saysCL : List S25 → Bool
  | [] => true
  | x :: l => saysC x && saysCL l
end
theorem saysC_l0 (k0 : Int) (b0 : Bool) (n0 : Int) (s0 : ByteArray) (l0 : List S25) (l : List S25) (hl : l.length * 64 ≤ 140737488351232) (hf : ∀ x ∈ l, Ev (fun k => cbor_says.f k x.f0 x.f1 x.f2 x.f3 x.f4) (saysC x)) :
    ∀ (d j : Nat), j + d = l.length → Ev (fun k => cbor_says.l0 k l (l.length : Int) (j : Int) k0 b0 n0 s0 l0) (saysCL (l.drop j) && decide (k0 ≠ 14)) := by
  intro d
  induction d with
  | zero =>
    intro j hj
    refine Ev.step (fun k => by simp only [cbor_says.l0]; rfl) (Ev.neg (by omega) (Ev.const ?_))
    rw [List.drop_of_length_le (by omega)]
    congr 1
    rw [Bool.eq_iff_iff]
    simp [saysCL]
  | succ d ih =>
    intro j hj
    have hlt : j < l.length := by omega
    refine Ev.step (fun k => by simp only [cbor_says.l0]; rfl) (Ev.pos (by omega) (Ev.pos (by omega) (Ev.pos (by omega) ?_)))
    rw [rdT_get l j hlt, wrap_id (by omega) (by omega), List.drop_eq_getElem_cons hlt]
    refine Ev.bind (hf _ (List.getElem_mem hlt)) ?_
    simp only [saysCL]
    cases h : saysC l[j] with
    | true => rw [Bool.true_and]; exact Ev.pos rfl (ih (j + 1) (by omega))
    | false => exact Ev.neg (by simp) (Ev.const rfl)
theorem saysC_f : ∀ (m : Nat) (x : S25), dep25 x < m → wfS25 x → Ev (fun k => cbor_says.f k x.f0 x.f1 x.f2 x.f3 x.f4) (saysC x) := by
  intro m
  induction m with
  | zero => intro x h; omega
  | succ m ih =>
    rintro ⟨a0, a1, a2, a3, a4⟩ hd hw
    obtain ⟨hl, hk⟩ := wf_kids hw
    simp only [dep25] at hd
    refine Ev.step (fun k => by simp only [cbor_says.f]; rfl) (Ev.res (saysC_l0 a0 a1 a2 a3 a4 a4 hl (fun x hx => ih x (by have := dep25_mem a4 x hx; omega) (hk x hx)) a4.length 0 (by omega)) ?_)
    rw [List.drop_zero]
    simp only [saysC]
theorem ok_kids (a0 : Int) (a1 : Bool) (a2 : Int) (a3 : ByteArray) (l : List S25) (h : (subs ⟨a0, a1, a2, a3, l⟩).all okR = true) : okR ⟨a0, a1, a2, a3, l⟩ = true ∧ ∀ y ∈ l, (subs y).all okR = true := by
  simp only [subs, List.all_cons, Bool.and_eq_true] at h
  refine ⟨h.1, ?_⟩
  have h2 := h.2
  clear h
  induction l with
  | nil => intro y hy; cases hy
  | cons x l ih =>
    simp only [subsL, List.all_append, Bool.and_eq_true] at h2
    intro y hy
    rcases List.mem_cons.1 hy with rfl | hy
    · exact h2.1
    · exact ih h2.2 y hy
mutual
theorem okn_ok : ∀ x : S25, wfS25 x → (subs x).all okR = true → okn25 x = true
  | ⟨k, b, n, s, l⟩ => by
    intro hw hs
    obtain ⟨hl, hk⟩ := wf_kids hw
    have hn := wf_u64 (show (Lit.int .u64 n).wf = true from by simp only [wfS25] at hw; exact hw.2.2.1)
    obtain ⟨h1, h2⟩ := ok_kids k b n s l hs
    simp only [okn25, Bool.and_eq_true, decide_eq_true_eq]
    refine ⟨⟨hn.1, hn.2, fun h13 => ?_⟩, oknL_ok l hk h2⟩
    simp only [okR, oneR, Bool.and_eq_true] at h1
    have h3 := h1.1.2
    subst h13
    simp at h3
    omega
theorem oknL_ok : ∀ l : List S25, (∀ y ∈ l, wfS25 y) → (∀ y ∈ l, (subs y).all okR = true) → oknL25 l = true
  | [] => fun _ _ => rfl
  | x :: l => by
    intro hw hs
    simp only [oknL25, Bool.and_eq_true]
    exact ⟨okn_ok x (hw x (List.mem_cons_self ..)) (hs x (List.mem_cons_self ..)), oknL_ok l (fun y hy => hw y (List.mem_cons_of_mem _ hy)) (fun y hy => hs y (List.mem_cons_of_mem _ hy))⟩
end
theorem check_ok (x : S25) (h : checkR x = 0) : (subs x).all okR = true := by
  unfold checkR at h
  split at h
  · cases h
  · split at h
    · cases h
    · split at h
      · assumption
      · cases h
def encC (o : Bool) (x : S25) : List Int × Int := if checkR x = 0 then (if saysC x = true then (itC o x, 0) else ([], 10)) else ([], checkR x)
theorem encC_f (o : Bool) (i : Int) (s : Bool) (x : S25) (hw : wfS25 x) (hs : szS25 x ≤ 4194304) : Ev (fun k => cbor_Encode.f k x.f0 x.f1 x.f2 x.f3 x.f4 o i s) (encC o x) := by
  have hg : ∀ c b, (c = 0 → checkR x = 0) → cbor_Encode.g x o c b = some (if c = 0 then (if b = true then itC o x else []) else [], if c = 0 then (if b = true then 0 else 10) else c) := by
    intro c b hc
    unfold cbor_Encode.g
    have h1 := itC_len o x
    rw [itmC_R o _ x (Nat.lt_succ_self _), if_pos ⟨fun h => okn_ok x hw (check_ok x (hc h.1)), by omega⟩]
  obtain ⟨a0, a1, a2, a3, a4⟩ := x
  refine Ev.congr (fun k => by unfold cbor_Encode.f; rfl) (Ev.bind (check_f ⟨a0, a1, a2, a3, a4⟩ hw hs) ?_)
  unfold encC
  by_cases h : checkR ⟨a0, a1, a2, a3, a4⟩ = 0
  · rw [if_pos h, h]
    refine Ev.pos (by trivial) (Ev.bind (saysC_f _ ⟨a0, a1, a2, a3, a4⟩ (Nat.lt_succ_self _) hw) (Ev.const ?_))
    rw [hg _ _ (fun _ => h)]
    cases saysC ⟨a0, a1, a2, a3, a4⟩ <;> simp
  · rw [if_neg h]
    refine Ev.neg h (Ev.const ?_)
    rw [hg _ _ (fun h' => absurd h' h), if_neg h, if_neg h]
theorem awake_t : Ev (fun k => glossatorlaw11_awake.f k) true := by
  have h := encC_f false 0 false ⟨0, false, 0, ⟨#[]⟩, []⟩ (by simp only [wfS25]; exact ⟨by decide, trivial, by decide, by decide, by decide, (wfL25_iff _).2 (by simp)⟩) (by simp only [szS25, szL25]; decide)
  have e : encC false ⟨0, false, 0, ⟨#[]⟩, []⟩ = ([246], 0) := by
    unfold encC
    have hc : checkR ⟨0, false, 0, ⟨#[]⟩, []⟩ = 0 := by decide +kernel
    have hz : saysC ⟨0, false, 0, ⟨#[]⟩, []⟩ = true := by decide +kernel
    rw [hc, hz]; decide +kernel
  rw [e] at h
  dsimp only at h
  refine Ev.congr (fun k => by unfold glossatorlaw11_awake.f; rfl) (Ev.bind h ?_)
  dsimp only
  exact Ev.pos rfl (Ev.pos rfl (Ev.pos (by decide) (Ev.const rfl)))
theorem tl_outR (x : Int) : ∀ j : Nat, j ≤ 8 → tl x j = Cw.outR x j
  | 0, _ => rfl
  | j + 1, h => by
    have h9 := shr_small (k := .u64) (x := x) (y := 8 * (j : Int)) rfl (show 8 * (j : Int) ≤ ((64 : Nat) : Int) by omega)
    rw [tl, Cw.outR, tl_outR x j (by omega), ← h9, show (8 * (j : Int)).toNat = 8 * j by omega]
theorem wide_ev (n s : Int) (h0 : 0 ≤ n) (hs : s = 0 ∨ s = 1 ∨ s = 2 ∨ s = 4 ∨ s = 8) : Ev (fun k => glossatorref10_Wide.f k 0 n s) (if need n ≤ s then (hd 0 n s, 0) else ([], 1)) :=
  ⟨21, fun k hk => by
    show glossatorref10_Wide.f k 0 n s = _
    rw [refwide_f k 0 n s (by omega) h0]
    congr 1
    have e : mayW 0 n s ↔ need n ≤ s := by
      unfold mayW mayH
      constructor
      · intro h; exact h.2.2.1
      · intro h; exact ⟨⟨by omega, by omega, by omega⟩, hs, h, by omega⟩
    by_cases h : need n ≤ s
    · rw [if_pos h, if_pos (e.2 h)]
    · rw [if_neg h, if_neg (fun h' => h (e.1 h'))]⟩
theorem put_step (M n x5 : Int) (h0 : 0 ≤ n) (j : Nat) (hj : j < 4) (s : Int) (hs : rd [4, 2, 1, 0] (j : Int) = s) (hs2 : s = 0 ∨ s = 1 ∨ s = 2 ∨ s = 4 ∨ s = 8) (r : List Int)
    (h : Ev (fun k => glossatorref11_put.l0 k M n (if need n ≤ s then s else x5) [4, 2, 1, 0] 4 ((j + 1 : Nat) : Int)) r) : Ev (fun k => glossatorref11_put.l0 k M n x5 [4, 2, 1, 0] 4 (j : Int)) r := by
  refine Ev.step (fun k => by simp only [glossatorref11_put.l0]; rfl) (Ev.pos (by omega) (Ev.pos (by omega) (Ev.pos (by simp; omega) ?_)))
  rw [hs, wrap_id (x := (j : Int) + 1) (by omega) (by omega)]
  refine Ev.bind (wide_ev n s h0 hs2) ?_
  by_cases hn : need n ≤ s
  · rw [if_pos hn] at h ⊢
    exact Ev.pos rfl h
  · rw [if_neg hn] at h ⊢
    exact Ev.neg (by decide) h
theorem or_head (M x : Int) (h0 : 0 ≤ M) (h7 : M ≤ 7) (x0 : 0 ≤ x) (x1 : x < 32) : Go.bits .or .u8 x ((wrap64 (M * 32)) % 256) = M * 32 + x := by
  have e1 : wrap64 (M * 32) % 256 = M * 32 := by unfold wrap64; omega
  rw [e1]
  obtain ⟨a, rfl⟩ := Int.eq_ofNat_of_zero_le h0
  obtain ⟨b, rfl⟩ := Int.eq_ofNat_of_zero_le x0
  have hd : ∀ a : Fin 8, ∀ b : Fin 32, Go.bits .or .u8 ((b.val : Nat) : Int) (((a.val : Nat) : Int) * 32) = ((a.val : Nat) : Int) * 32 + ((b.val : Nat) : Int) := by decide +kernel
  exact hd ⟨a, by omega⟩ ⟨b, by omega⟩
theorem szR_lt (n : Int) (h0 : 0 ≤ n) : Cw.szR n = if n < 256 then 0 else if n < 65536 then 1 else if n < 4294967296 then 2 else 3 := by
  unfold Cw.szR
  repeat' split
  all_goals omega
theorem hd_head (n : Int) (h0 : 0 ≤ n) : hd 0 n (need n) = Cw.loP n :: Cw.tlP n := by
  unfold hd need Cw.loP Cw.tlP
  rw [szR_lt n h0]
  by_cases c1 : n < 24
  · simp only [c1, if_true]; congr 1; omega
  · simp only [c1, if_false]
    by_cases c2 : n < 256
    · simp only [c2, if_true]; rw [tl_outR _ _ (by decide)]; rfl
    · simp only [c2, if_false]
      by_cases c3 : n < 65536
      · simp only [c3, if_true]; rw [tl_outR _ _ (by decide)]; rfl
      · simp only [c3, if_false]
        by_cases c4 : n < 4294967296
        · simp only [c4, if_true]; rw [tl_outR _ _ (by decide)]; rfl
        · simp only [c4, if_false]; rw [tl_outR _ _ (by decide)]; rfl
theorem put11_end (M n : Int) (h0 : 0 ≤ n) (m0 : 0 ≤ M) (m7 : M ≤ 7) : Ev (fun k => glossatorref11_put.l0 k M n (need n) [4, 2, 1, 0] 4 4) (Cw.headP M n) := by
  refine Ev.step (fun k => by simp only [glossatorref11_put.l0]; rfl) (Ev.neg (by omega) ?_)
  have hs : need n = 0 ∨ need n = 1 ∨ need n = 2 ∨ need n = 4 ∨ need n = 8 := by unfold need; (repeat' split) <;> omega
  refine Ev.bind (wide_ev n (need n) h0 hs) ?_
  rw [if_pos (Int.le_refl _), hd_head n h0]
  have hl := Cw.loP_lt n h0
  refine Ev.pos (by simp) (Ev.const ?_)
  have e : rd (Cw.loP n :: Cw.tlP n) 0 = Cw.loP n := rfl
  rw [e, or_head M _ m0 m7 hl.1 hl.2]
  rfl
theorem put11_f (M n : Int) (h0 : 0 ≤ n) (m0 : 0 ≤ M) (m7 : M ≤ 7) : Ev (fun k => glossatorref11_put.f k M n) (Cw.headP M n) := by
  refine Ev.congr (fun k => by unfold glossatorref11_put.f; rfl) (Ev.pre rfl ?_)
  have h := put11_end M n h0 m0 m7
  refine put_step M n 8 h0 0 (by omega) 4 rfl (by omega) _ (put_step M n _ h0 1 (by omega) 2 rfl (by omega) _ (put_step M n _ h0 2 (by omega) 1 rfl (by omega) _ (put_step M n _ h0 3 (by omega) 0 rfl (by omega) _ ?_)))
  have e : (if need n ≤ 0 then 0 else if need n ≤ 1 then 1 else if need n ≤ 2 then 2 else if need n ≤ 4 then 4 else 8) = need n := by
    unfold need; (repeat' split) <;> omega
  rw [e]
  exact h
theorem text11_f (o : Bool) (M : Int) (t : ByteArray) (m0 : 0 ≤ M) (m7 : M ≤ 7) (ht : t.size ≤ 4294967296) : Ev (fun k => glossatorref11_text.f k M t o) (Cw.txtP o M t) := by
  have hu : IntKind.u64.wrap (t.size : Int) = (t.size : Int) := by simp [IntKind.wrap, IntKind.bits, IntKind.signed]; omega
  have hh := Cw.headP_len M (t.size : Int)
  have e31 : Go.bits .or .i64 (wrap64 (M * 32)) 31 % 256 = M * 32 + 31 := by
    rw [wrap_id (x := M * 32) (by omega) (by omega)]
    have h := Cw.or_31 M m0 m7
    have h2 : Go.bits .or .i64 (M * 32) 31 = M * 32 + 31 := h
    rw [h2]; omega
  refine Ev.congr (fun k => by unfold glossatorref11_text.f; rfl) ?_
  rw [hu]
  refine Ev.bind (put11_f M (t.size : Int) (by omega) m0 m7) (Ev.pos (by omega) (Ev.pre rfl ?_))
  cases o with
  | false =>
    refine Ev.neg (by simp) (Ev.const ?_)
    simp [Cw.txtP, Cw.begP]
  | true =>
    refine Ev.pos rfl (Ev.pre rfl ?_)
    rw [e31]
    by_cases hz : t.size = 0
    · have hb : bytesOf t = [] := List.eq_nil_of_length_eq_zero (by rw [bytesOf_length]; exact hz)
      refine Ev.pos ((Cw.empty_list t).2 hz) (Ev.pos (by simp) (Ev.const ?_))
      simp [Cw.txtP, Cw.begP, hz, hb]
    · refine Ev.neg (fun h => hz ((Cw.empty_list t).1 h)) (Ev.pos (by simp [bytesOf_length]; omega) (Ev.pre rfl (Ev.pos (by simp [bytesOf_length]; omega) (Ev.const ?_))))
      simp [Cw.txtP, Cw.begP, show 0 < t.size by omega]
theorem flt11_l0 (n : Int) : ∀ (d : Nat) (a : List Int), d ≤ 8 → a.length + d ≤ 1000 → Ev (fun k => glossatorref11_float.l0 k n a ((d : Int) - 1)) (a ++ Cw.outR n d) := by
  intro d
  induction d with
  | zero =>
    intro a _ _
    refine Ev.step (fun k => by simp only [glossatorref11_float.l0]; rfl) (Ev.neg (by omega) (Ev.const ?_))
    simp [Cw.outR]
  | succ d ih =>
    intro a hd ha
    have e1 : ((d + 1 : Nat) : Int) - 1 = (d : Int) := by omega
    rw [e1]
    have e2 : wrap64 (8 * (d : Int)) = 8 * (d : Int) := wrap_id (by omega) (by omega)
    refine Ev.step (fun k => by simp only [glossatorref11_float.l0]; rfl) ?_
    rw [e2, wrap_id (x := (d : Int) - 1) (by omega) (by omega)]
    refine Ev.pos (by omega) (Ev.pos (by omega) (Ev.pos (by omega) (Ev.res (ih _ (by omega) (by simp; omega)) ?_)))
    have e3 : shr .u64 n (8 * (d : Int)) = n / 2 ^ (8 * d) := by
      have h9 := shr_small (k := .u64) (x := n) (y := 8 * (d : Int)) rfl (show 8 * (d : Int) ≤ ((64 : Nat) : Int) by omega)
      rw [← h9, show (8 * (d : Int)).toNat = 8 * d by omega]
    rw [e3]
    simp [Cw.outR]
theorem flt11_f (f n : Int) (d : Nat) (hd : d ≤ 8) : Ev (fun k => glossatorref11_float.f k f n (d : Int)) (f :: Cw.outR n d) := by
  refine Ev.congr (fun k => by unfold glossatorref11_float.f; rfl) ?_
  rw [wrap_id (x := (d : Int) - 1) (by omega) (by omega)]
  exact flt11_l0 n d [f] hd (by simp; omega)
theorem rkids_ev (o : Bool) (g : Nat → S25 → Option (List Int)) : ∀ (l : List S25) (a : List Int), (∀ y ∈ l, Ev (fun k => g k y) (itC o y)) → a.length + (itCL o l).length ≤ 1099511627776 → Ev (fun k => Cw.rkids (g k) l a) (a ++ itCL o l)
  | [], a, _, _ => by simp only [Cw.rkids, itCL, List.append_nil]; exact Ev.const rfl
  | y :: l, a, h, hl => by
    simp only [itCL, List.length_append] at hl
    simp only [Cw.rkids, itCL]
    refine Ev.bind (h y (List.mem_cons_self ..)) (Ev.pos (by simp only [List.length_append]; omega) (Ev.res (rkids_ev o g l _ (fun z hz => h z (List.mem_cons_of_mem _ hz)) (by simp only [List.length_append]; omega)) (by simp)))
theorem szL_mem : ∀ (l : List S25), ∀ y ∈ l, szS25 y ≤ szL25 l
  | [] => fun y hy => by cases hy
  | x :: l => fun y hy => by
    simp only [szL25]
    rcases List.mem_cons.1 hy with rfl | hy
    · omega
    · have := szL_mem l y hy; omega
theorem len_szL : ∀ l : List S25, l.length ≤ szL25 l
  | [] => by simp
  | x :: l => by
    have := len_szL l
    have := cnt_sz x
    have := cnt_pos x
    simp only [List.length_cons, szL25]; omega
theorem saysCL_mem : ∀ (l : List S25), saysCL l = true → ∀ y ∈ l, saysC y = true
  | [] => fun _ y hy => by cases hy
  | x :: l => fun h y hy => by
    simp only [saysCL, Bool.and_eq_true] at h
    rcases List.mem_cons.1 hy with rfl | hy
    · exact h.1
    · exact saysCL_mem l h.2 y hy
theorem two_ev {g h : Nat → Option (List Int)} {a b : List Int} (hg : Ev g a) (hh : Ev h b) (hl : a.length + b.length ≤ 1099511627776) : Ev (fun k => Cw.two (g k) (h k)) (a ++ b) := by
  unfold Cw.two
  exact Ev.bind hg (Ev.bind hh (Ev.pos (by simp only [List.length_append]; omega) (Ev.const rfl)))
abbrev ritK (o : Bool) (k m : Nat) (x : S25) : Option (List Int) := Cw.ritC T25 o (fun a b => glossatorref11_put.f k a b) (fun a b c => glossatorref11_text.f k a b c) (fun a b c => glossatorref11_float.f k a b c) m x
theorem rmany_ev (o : Bool) (g : Nat → S25 → Option (List Int)) (M : Int) (m0 : 0 ≤ M) (m7 : M ≤ 7) (x : S25) (hg : ∀ y ∈ x.f4, Ev (fun k => g k y) (itC o y)) (hl : (itCL o x.f4).length ≤ 1099511000000) :
    Ev (fun k => Cw.rmany T25 o (g k) (fun a b => glossatorref11_put.f k a b) M x) (Cw.begP o M (if M = 5 then (x.f4.length : Int) / 2 else (x.f4.length : Int)) ++ (itCL o x.f4 ++ (if o = true then [255] else []))) := by
  unfold Cw.rmany
  have hn : 0 ≤ (if M = 5 then ((T25.kids x).length : Int) / 2 else ((T25.kids x).length : Int)) := by split <;> omega
  have hh := Cw.headP_len M (if M = 5 then ((T25.kids x).length : Int) / 2 else ((T25.kids x).length : Int))
  refine Ev.bind (put11_f M _ hn m0 m7) (Ev.pos (by omega) (Ev.bind (rkids_ev o g (T25.kids x) _ hg ?_) (Ev.const ?_)))
  · have e : (itCL o (T25.kids x)).length = (itCL o x.f4).length := rfl
    rw [e]
    split <;> (try simp only [List.length_singleton]) <;> omega
  · have e : T25.kids x = x.f4 := rfl
    rw [e]
    cases o <;> simp [Cw.begP]
theorem ritC_ev (o : Bool) : ∀ (m : Nat) (x : S25), dep25 x < m → wfS25 x → szS25 x ≤ 4194304 → (subs x).all okR = true → saysC x = true → Ev (fun k => ritK o k m x) (itC o x) := by
  intro m
  induction m with
  | zero => intro x h; omega
  | succ m ih =>
    rintro ⟨a0, a1, a2, a3, a4⟩ hd hw hs hok hsay
    obtain ⟨hl, hk⟩ := wf_kids hw
    have hlenL := itCL_len o a4
    have hlen1 := itC1_len o a4
    have htx2 := txtP_len o 2 a3
    have hll := len_szL a4
    have hml := szL_mem a4
    simp only [dep25] at hd
    simp only [szS25] at hs
    have hn := wf_u64 (show (Lit.int .u64 a2).wf = true from by simp only [wfS25] at hw; exact hw.2.2.1)
    obtain ⟨ho, hko⟩ := ok_kids a0 a1 a2 a3 a4 hok
    simp only [okR, oneR, Bool.and_eq_true, decide_eq_true_eq] at ho
    obtain ⟨⟨⟨⟨hk0, hneg⟩, hbits⟩, hrest⟩, hleaf⟩ := ho
    simp only [saysC, Bool.and_eq_true, decide_eq_true_eq] at hsay
    have hkid : ∀ y ∈ a4, Ev (fun k => ritK o k m y) (itC o y) := fun y hy =>
      ih y (by have := dep25_mem a4 y hy; omega) (hk y hy) (by have := hml y hy; omega) (hko y hy) (saysCL_mem a4 hsay.1 y hy)
    show Ev (fun k => if a0 = 0 then some [246] else if a0 = 1 then some [(244 + a2) % 256] else if a0 = 2 then some [247] else if a0 = 3 then glossatorref11_put.f k 7 a2
      else if a0 = 4 then glossatorref11_put.f k (if a1 = true then 1 else 0) a2 else if a0 = 5 then Cw.two (glossatorref11_put.f k 6 (2 + if a1 = true then 1 else 0)) (glossatorref11_text.f k 2 a3 o)
      else if a0 = 6 then glossatorref11_float.f k 249 a2 2 else if a0 = 7 then glossatorref11_float.f k 250 a2 4 else if a0 = 8 then glossatorref11_float.f k 251 a2 8 else if a0 = 9 then glossatorref11_text.f k 2 a3 o else if a0 = 10 then glossatorref11_text.f k 3 a3 o
      else if a0 = 11 then Cw.rmany T25 o (ritK o k m) (fun a b => glossatorref11_put.f k a b) 4 ⟨a0, a1, a2, a3, a4⟩ else if a0 = 12 then Cw.rmany T25 o (ritK o k m) (fun a b => glossatorref11_put.f k a b) 5 ⟨a0, a1, a2, a3, a4⟩
      else if 0 < a4.length then Cw.two (glossatorref11_put.f k 6 a2) (ritK o k m (a4.getD 0 z25)) else none) (itC o ⟨a0, a1, a2, a3, a4⟩)
    have hq0 : 0 ≤ (if a1 = true then (1 : Int) else 0) := by split <;> omega
    have hq1 : (if a1 = true then (1 : Int) else 0) ≤ 1 := by split <;> omega
    by_cases h0 : a0 = 0
    · subst h0; exact Ev.pos rfl (Ev.const (by simp [itC, Cw.hdC, Cw.enC, T25, Cw.headP, Cw.loP, Cw.tlP]))
    refine Ev.neg h0 ?_
    by_cases h1 : a0 = 1
    · subst h1
      have hb : a2 < 2 := by simpa [bitsR] using hbits
      refine Ev.pos rfl (Ev.const ?_)
      have e : (a2 + 20) % 18446744073709551616 = a2 + 20 := by omega
      simp [itC, Cw.hdC, Cw.enC, T25, Cw.headP, Cw.loP, Cw.tlP, e]
      omega
    refine Ev.neg h1 ?_
    by_cases h2 : a0 = 2
    · subst h2; exact Ev.pos rfl (Ev.const (by simp [itC, Cw.hdC, Cw.enC, T25, Cw.headP, Cw.loP, Cw.tlP]))
    refine Ev.neg h2 ?_
    by_cases h3 : a0 = 3
    · subst h3; exact Ev.pos rfl (Ev.res (put11_f 7 a2 hn.1 (by omega) (by omega)) (by simp [itC, Cw.hdC, Cw.enC, T25]))
    refine Ev.neg h3 ?_
    by_cases h4 : a0 = 4
    · subst h4; exact Ev.pos rfl (Ev.res (put11_f _ a2 hn.1 hq0 (by omega)) (by simp [itC, Cw.hdC, Cw.enC, T25]; rfl))
    refine Ev.neg h4 ?_
    by_cases h5 : a0 = 5
    · subst h5
      have hh := Cw.headP_len 6 (2 + if a1 = true then 1 else 0)
      exact Ev.pos rfl (Ev.res (two_ev (put11_f 6 _ (by omega) (by omega) (by omega)) (text11_f o 2 a3 (by omega) (by omega) (by omega)) (by omega)) (by simp [itC, Cw.hdC, Cw.enC, T25]; rfl))
    refine Ev.neg h5 ?_
    by_cases h6 : a0 = 6
    · subst h6; exact Ev.pos rfl (Ev.res (flt11_f 249 a2 2 (by omega)) (by simp [itC, Cw.hdC, Cw.enC, T25, Cw.fltP]))
    refine Ev.neg h6 ?_
    by_cases h7 : a0 = 7
    · subst h7; exact Ev.pos rfl (Ev.res (flt11_f 250 a2 4 (by omega)) (by simp [itC, Cw.hdC, Cw.enC, T25, Cw.fltP]))
    refine Ev.neg h7 ?_
    by_cases h8 : a0 = 8
    · subst h8; exact Ev.pos rfl (Ev.res (flt11_f 251 a2 8 (by omega)) (by simp [itC, Cw.hdC, Cw.enC, T25, Cw.fltP]))
    refine Ev.neg h8 ?_
    by_cases h9 : a0 = 9
    · subst h9; exact Ev.pos rfl (Ev.res (text11_f o 2 a3 (by omega) (by omega) (by omega)) (by simp [itC, Cw.hdC, Cw.enC, T25]))
    refine Ev.neg h9 ?_
    by_cases h10 : a0 = 10
    · subst h10; exact Ev.pos rfl (Ev.res (text11_f o 3 a3 (by omega) (by omega) (by omega)) (by simp [itC, Cw.hdC, Cw.enC, T25]))
    refine Ev.neg h10 ?_
    by_cases h11 : a0 = 11
    · subst h11
      exact Ev.pos rfl (Ev.res (rmany_ev o (fun k => ritK o k m) 4 (by omega) (by omega) ⟨11, a1, a2, a3, a4⟩ hkid (by show (itCL o a4).length ≤ _; omega)) (by simp [itC, Cw.hdC, Cw.enC, T25]))
    refine Ev.neg h11 ?_
    by_cases h12 : a0 = 12
    · subst h12
      exact Ev.pos rfl (Ev.res (rmany_ev o (fun k => ritK o k m) 5 (by omega) (by omega) ⟨12, a1, a2, a3, a4⟩ hkid (by show (itCL o a4).length ≤ _; omega)) (by simp [itC, Cw.hdC, Cw.enC, T25]))
    refine Ev.neg h12 ?_
    have h13 : a0 = 13 := by have := hsay.2; omega
    subst h13
    have h1l : a4.length = 1 := by
      simp at hrest
      omega
    obtain ⟨y, rfl⟩ := List.length_eq_one_iff.1 h1l
    have hh := Cw.headP_len 6 a2
    have hyl := itC_len o y
    have hyz : szS25 y ≤ 4194304 := by have := hml y (by simp); omega
    exact Ev.pos (by simp) (Ev.res (two_ev (put11_f 6 a2 hn.1 (by omega) (by omega)) (hkid y (by simp)) (by omega)) (by simp [itC, itC1, Cw.hdC, Cw.enC, T25]))
theorem has_l0 (v0 : Int) (v1 : Bool) (v2 : Int) (v3 : ByteArray) (l : List S25) (hl : l.length * 64 ≤ 140737488351232) (hf : ∀ x ∈ l, Ev (fun k => glossatorref11_Has.f k x.f0 x.f1 x.f2 x.f3 x.f4 14) (!saysC x)) :
    ∀ (d j : Nat), j + d = l.length → Ev (fun k => glossatorref11_Has.l0 k 14 (j : Int) v0 v1 v2 v3 l) (!saysCL (l.drop j)) := by
  intro d
  induction d with
  | zero =>
    intro j hj
    refine Ev.step (fun k => by simp only [glossatorref11_Has.l0]; rfl) (Ev.neg (by omega) (Ev.const ?_))
    rw [List.drop_of_length_le (by omega)]
    rfl
  | succ d ih =>
    intro j hj
    have hlt : j < l.length := by omega
    refine Ev.step (fun k => by simp only [glossatorref11_Has.l0]; rfl) (Ev.pos (by omega) (Ev.pos (by omega) ?_))
    rw [rdT_get l j hlt, wrap_id (by omega) (by omega), List.drop_eq_getElem_cons hlt]
    refine Ev.bind (hf _ (List.getElem_mem hlt)) ?_
    simp only [saysCL]
    cases h : saysC l[j] with
    | true => rw [Bool.true_and]; exact Ev.neg (by simp) (ih (j + 1) (by omega))
    | false => exact Ev.pos rfl (Ev.const rfl)
theorem has_f : ∀ (m : Nat) (x : S25), dep25 x < m → wfS25 x → Ev (fun k => glossatorref11_Has.f k x.f0 x.f1 x.f2 x.f3 x.f4 14) (!saysC x) := by
  intro m
  induction m with
  | zero => intro x h; omega
  | succ m ih =>
    rintro ⟨a0, a1, a2, a3, a4⟩ hd hw
    obtain ⟨hl, hk⟩ := wf_kids hw
    simp only [dep25] at hd
    refine Ev.step (fun k => by simp only [glossatorref11_Has.f]; rfl) ?_
    simp only [saysC]
    by_cases h : a0 = 14
    · exact Ev.pos h (Ev.const (by simp [h]))
    · refine Ev.neg h (Ev.res (has_l0 a0 a1 a2 a3 a4 hl (fun x hx => ih x (by have := dep25_mem a4 x hx; omega) (hk x hx)) a4.length 0 (by omega)) ?_)
      rw [List.drop_zero]; simp [h]
theorem renc11_f (o : Bool) (i : Int) (s : Bool) (x : S25) (hw : wfS25 x) (hs : szS25 x ≤ 4194304) : Ev (fun k => glossatorref11_Encode.f k x.f0 x.f1 x.f2 x.f3 x.f4 o i s) (encC o x) := by
  refine Ev.congr (fun k => by unfold glossatorref11_Encode.f; rfl) (Ev.bind (rcheck_f x hw hs) ?_)
  unfold encC
  by_cases h : checkR x = 0
  · rw [if_pos h, h]
    refine Ev.pos (by trivial) (Ev.bind (has_f _ x (Nat.lt_succ_self _) hw) ?_)
    cases hy : saysC x with
    | true =>
      refine Ev.neg (by simp) (Ev.bind (a := itC o x) ?_ (Ev.const rfl))
      obtain ⟨a0, a1, a2, a3, a4⟩ := x
      exact Ev.congr (fun k => by unfold glossatorref11_Item.f; rfl) (ritC_ev o _ ⟨a0, a1, a2, a3, a4⟩ (Nat.lt_succ_self _) hw hs (check_ok _ h) hy)
    | false => exact Ev.pos rfl (Ev.const rfl)
  · rw [if_neg h]
    exact Ev.neg h (Ev.const rfl)
theorem CborEncodes : glossatorlaw11_CborEncodes.Pure := by
  intro a0 a1 a2 a3 a4 o i s ha hb hs
  refine Ev.rounds (Ev.congr (fun k => by unfold glossatorlaw11_CborEncodes.f; rfl) ?_)
  refine Ev.bind (encC_f o i s ⟨a0, a1, a2, a3, a4⟩ ha (by omega)) (Ev.bind (renc11_f o i s ⟨a0, a1, a2, a3, a4⟩ ha (by omega)) ?_)
  exact Ev.pos rfl (Ev.pos rfl (Ev.bind awake_t (Ev.const rfl)))
end Go.Proofs.Ytlbdjjiblhdpmaa.Pure
