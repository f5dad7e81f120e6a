-- Out of texts of this seat by a program of this session: what the claim does not reach is struck
import Derived.Test.YtcgpfclmcajekaaZEach
import Derived.Test.YtcgpfclmcajekaaZWApart
namespace Go.Proofs.Ytcgpfclmcajekaa.Bld
open Go Go.RowKit Go.Shelf Go.Proofs.Ytcgpfclmcajekaa.Each Go.Proofs.YtcgpfclmcajekaaW.PrintWords Go.Proofs.YtcgpfclmcajekaaW.PrintLast
set_option linter.unusedVariables false
set_option linter.unusedSimpArgs false
structure Mk (S : Type) extends Tree S where
  push : S → S → S
  E1 : D.E = [25]
  openM : ∀ {w : World} {base : Nat} {ok : Nat → Prop} {x : S} {cs : List Value}, D.M w base ok x cs → ∃ v4, cs = [.int .i64 (k x), .bool (neg x), .int .u64 (n x), .string (s x), v4] ∧ D.R 25 w base ok v4 (kids x)
  mkM : ∀ (w : World) (base : Nat) (ok : Nat → Prop) (x : S) {v4 : Value}, D.R 25 w base ok v4 (kids x) → D.M w base ok x [.int .i64 (k x), .bool (neg x), .int .u64 (n x), .string (s x), v4]
  push_k : ∀ p v, k (push p v) = k p
  push_neg : ∀ p v, neg (push p v) = neg p
  push_n : ∀ p v, n (push p v) = n p
  push_s : ∀ p v, s (push p v) = s p
  push_kids : ∀ p v, kids (push p v) = kids p ++ [v]
  ev : Int → Bool → Int → ByteArray → S
  ev_k : ∀ a b c d, k (ev a b c d) = a
  ev_neg : ∀ a b c d, neg (ev a b c d) = b
  ev_n : ∀ a b c d, n (ev a b c d) = c
  ev_s : ∀ a b c d, s (ev a b c d) = d
  ev_kids : ∀ a b c d, kids (ev a b c d) = []
  zM : ∀ (w : World) (base : Nat), D.M w base (fun _ => False) z [.int .i64 0, .bool false, .int .u64 0, .string ⟨#[]⟩, .slice none 0 0]
structure Ke (n0 : Nat) (W W' : World) : Prop where
  below : Below n0 W W'
  cells : ∀ (b : Nat) cs t fz, t ≠ 25 → t ≠ 42 → t ≠ 72 → W.heap[b]? = some (.cells cs t fz) → W'.heap[b]? = some (.cells cs t fz)
theorem Ke.refl (n0 : Nat) (W : World) : Ke n0 W W := ⟨Below.refl _ _, fun _ _ _ _ _ _ _ h => h⟩
theorem Ke.trans {n0 : Nat} {A B C : World} (h : Ke n0 A B) (k : Ke n0 B C) : Ke n0 A C := ⟨h.below.trans k.below, fun b cs t fz h1 h2 h3 hc => k.cells b cs t fz h1 h2 h3 (h.cells b cs t fz h1 h2 h3 hc)⟩
theorem Ke.of_below {n0 : Nat} {A B : World} (hn : n0 ≤ A.heap.size) (h : Below A.heap.size A B) : Ke n0 A B :=
  ⟨h.mono hn, fun b cs t fz _ _ _ hc => (h.block b (Array.getElem?_eq_some_iff.1 hc).1).trans hc⟩
theorem Ke.grown {n0 : Nat} {A B : World} {row : Option Nat} (hg : A.grownBy B row) (hn : n0 ≤ A.heap.size) (hr : ∀ k, row = some k → n0 ≤ k ∧ ∃ cells q, (q = 25 ∨ q = 42 ∨ q = 72) ∧ A.heap[k]? = some (.cells cells q (0, 0))) : Ke n0 A B :=
  ⟨(Below.refl n0 A).grown hg hn (fun k e => (hr k e).1), fun b cs t fz h1 h2 h3 hc => (hg.block b (Array.getElem?_eq_some_iff.1 hc).1 (fun e => by
    obtain ⟨_, cells, q, hq, h⟩ := hr b e.symm
    rw [hc] at h
    injection h with h
    injection h with _ h4 _
    rcases hq with rfl | rfl | rfl
    · exact h1 h4
    · exact h2 h4
    · exact h3 h4)).trans hc⟩
theorem Ke.set {n0 g : Nat} {A : World} {cs : Array Value} (hg : A.heap[g]? = some (.cells cs 42 (0, 0))) (hn : n0 ≤ g) (j : Nat) (u : Value) : Ke n0 A (A.setCell ⟨g, j, none⟩ u) :=
  ⟨(Below.refl n0 A).setCell (p := ⟨g, j, none⟩) hn u, fun b cs' t fz h1 h2 h3 hc => (Below.heap_setCell A ⟨g, j, none⟩ u b (fun e => by
    have e' : b = g := e
    subst e'
    rw [hg] at hc
    injection hc with hc
    injection hc with _ h4 _
    exact h2 h4.symm)).trans hc⟩
section
variable {S : Type} (T : Mk S)
theorem H_take {α : Type} {d : Kd α} {e : Nat} {w : World} {base : Nat} {ok oki : Nat → Prop} {A : Option Addr} {n c0 m : Nat} {xs : List α} {i : Int} {c : List Value}
    (h : Kd.H d e w base ok (.slice A n c0) xs i oki c) (hm : m ≤ xs.length) (him : m ≤ i.toNat) : Kd.S d e w base (fun k => ok k ∧ ¬ oki k) (.slice A m c0) (xs.take m) := by
  obtain ⟨_, f, hR⟩ := h
  have h2 := Kd.R_take hR (m := m) (by rw [List.length_zipIdx]; exact hm)
  have he : xs.zipIdx.take m = (xs.take m).zipIdx := by
    apply List.ext_getElem?
    intro j
    simp only [List.getElem?_zipIdx, List.getElem?_take, Nat.zero_add]
    split <;> simp
  rw [he] at h2
  obtain ⟨h0, inner, ho, hr⟩ := h2
  refine ⟨f, h0, inner, ho, hr.1, fun j p hj => (hr.2 j p hj).2 ?_⟩
  rw [List.getElem?_zipIdx, Nat.zero_add] at hj
  obtain ⟨q, hq, rfl⟩ := Option.map_eq_some_iff.1 hj
  have hlt := (List.getElem?_eq_some_iff.1 hq).1
  rw [List.length_take] at hlt
  show j ≠ i.toNat
  omega
theorem setCell_comm (w : World) {a b : Addr} (h : a.block ≠ b.block) (u v : Value) : (w.setCell a u).setCell b v = (w.setCell b v).setCell a u := by
  unfold World.setCell
  congr 1
  apply Array.ext
  · simp
  · intro i h1 h2
    simp only [Array.getElem_modify]
    by_cases ha : a.block = i
    · have hb : ¬ b.block = i := fun e => h (ha.trans e.symm)
      simp [ha, hb]
    · simp [ha]
theorem setCells_comm (a : Addr) (u : Value) (g : Nat) (h : a.block ≠ g) : ∀ (cs : List Value) (o : Nat) (w : World), (w.setCell a u).setCells g o cs = (w.setCells g o cs).setCell a u
  | [], _, _ => rfl
  | c :: cs, o, w => by
    show ((w.setCell a u).setCell ⟨g, o, none⟩ c).setCells g (o + 1) cs = _
    rw [setCell_comm w (b := ⟨g, o, none⟩) h, setCells_comm a u g h cs (o + 1)]
    rfl
theorem setCells_one (w : World) (g o : Nat) (u : Value) : w.setCells g o [u] = w.setCell ⟨g, o, none⟩ u := rfl
theorem cell_far (w : World) (a b : Addr) (h : b.block ≠ a.block) (u : Value) : (w.setCell a u).cell? b = w.cell? b := by
  simp only [World.cell?, Below.heap_setCell w a u b.block h]
theorem frozen_far (w : World) (a b : Addr) (h : b.block ≠ a.block) (u : Value) : (w.setCell a u).frozen? b = w.frozen? b := by
  simp only [World.frozen?, Below.heap_setCell w a u b.block h]
theorem part_add {W w1 : World} {n0 go n cap i : Nat} {xs : List S} {okb okv oki : Nat → Prop} {v p : S} {cs c : List Value} {v4 v1 : Value} {L : Nat}
    (hp : xs.getD i T.z = p) (hL : (T.kids p).length = L) (hn0 : n0 ≤ W.heap.size)
    (hS : Kd.S T.D 72 W n0 (fun k => okb k ∧ ¬ okv k) (.slice (some ⟨go, 0, none⟩) n cap) xs) (hi : i < n)
    (hv : T.D.M W n0 okv v cs) (hvb : ∀ k, okv k → okb k ∧ k < W.heap.size) (hnew : ∀ k, W.heap.size ≤ k → okb k)
    (hc : c = [.int .i64 (T.k p), .bool (T.neg p), .int .u64 (T.n p), .string (T.s p), v4])
    (hR4 : T.D.R 25 W n0 oki v4 (T.kids p)) (hoki : ∀ k, oki k → (okb k ∧ ¬ okv k) ∧ k ≠ go)
    (hcc : ∀ j u, c[j]? = some u → W.cell? ⟨go, i * 5 + j, none⟩ = some u)
    (hH : Kd.H T.D 72 W n0 (fun k => okb k ∧ ¬ okv k) (.slice (some ⟨go, 0, none⟩) n cap) xs (i : Int) oki c)
    (hR1 : T.D.R 25 w1 n0 (fun k => oki k ∨ W.heap.size ≤ k) v1 (T.kids p ++ [T.z])) (hg1 : W.grownBy w1 v4.ownBlock) :
    ∃ g1 c1 W2, v1 = .slice (some ⟨g1, 0, none⟩) (L + 1) c1 ∧ w1.setCells g1 (L * 5) cs = W2 ∧ g1 ≠ go ∧
      (∃ c' : List Value, c'.length = 5 ∧ (∀ j u, c'[j]? = some u → w1.cell? ⟨g1, L * 5 + j, none⟩ = some u) ∧ ∀ j, w1.frozen? ⟨g1, L * 5 + j, none⟩ = false) ∧
      w1.cell? ⟨go, i * 5 + 4, none⟩ = some v4 ∧ w1.frozen? ⟨go, i * 5 + 4, none⟩ = false ∧
      W2.cell? ⟨go, i * 5 + 4, none⟩ = some v4 ∧ W2.frozen? ⟨go, i * 5 + 4, none⟩ = false ∧
      Kd.S T.D 72 (W2.setCell ⟨go, i * 5 + 4, none⟩ v1) n0 okb (.slice (some ⟨go, 0, none⟩) n cap) (xs.set i (T.push p v)) ∧
      Ke n0 W (W2.setCell ⟨go, i * 5 + 4, none⟩ v1) ∧ (∃ cur, (W2.setCell ⟨go, i * 5 + 4, none⟩ v1).heap[go]? = some (.cells cur 72 (0, 0))) ∧
      (∀ k, k < W.heap.size → ¬ okb k → (W2.setCell ⟨go, i * 5 + 4, none⟩ v1).heap[k]? = W.heap[k]?) ∧
      (∀ (k : Nat) (cs' : Array Value) (fz : Nat × Nat), W.heap[k]? = some (Obj.cells cs' 42 fz) → (W2.setCell ⟨go, i * 5 + 4, none⟩ v1).heap[k]? = some (Obj.cells cs' 42 fz)) := by
  obtain ⟨g1, c1, hv1, hg1b, hg1l, hg1t⟩ := Kd.R_form hR1 (by simp)
  have hlen : (T.kids p ++ [T.z]).length = L + 1 := by simp [hL]
  rw [hlen] at hv1
  subst hv1
  have hok1 : oki g1 ∨ W.heap.size ≤ g1 := hR1.1 g1 (by simp [Value.ownBlock])
  have hvg : ∀ k, okv k → k ≠ g1 := fun k hk e => by
    subst e
    rcases hok1 with h | h
    · exact (hoki _ h).1.2 hk
    · have := (hvb _ hk).2; omega
  have hgoW := Kd.S_typed hS go (by simp [Value.ownBlock])
  have hgol : go < W.heap.size := Kd.S_lt hS go (by simp [Value.ownBlock])
  have hgob : n0 ≤ go := Kd.S_base hS go (by simp [Value.ownBlock])
  have hvgo : ∀ k, okv k → k ≠ go := fun k hk e => by
    subst e
    obtain ⟨f, hR⟩ := hS
    exact (hR.1 _ (by simp [Value.ownBlock])).2 hk
  have hg1o : g1 ≠ go := fun e => by
    subst e
    rcases hok1 with h | h
    · exact (hoki _ h).2 rfl
    · omega
  have hv41 : ∀ k, v4.ownBlock = some k → oki k := hR4.1
  have hMv1 : T.D.M w1 n0 okv v cs := Kd.M_grown hv hg1 (fun k hk e => (hoki k (hv41 k e.symm)).1.2 hk)
  obtain ⟨c', hcl', _, hcc', hfr'⟩ := Kd.R_elem hR1 T.z (L : Int) (by omega) (by omega)
  rw [T.size5] at hcl' hcc' hfr'
  have hcsl : cs.length = 5 := (T.D.K_len (T.D.K_of_M hv)).trans T.size5
  have hone := T.D.K_one (T.D.K_of_M hv)
  obtain ⟨hR2, hg2⟩ := Kd.R_seg (Kd.R_mono (ok' := fun k => oki k ∨ okv k ∨ W.heap.size ≤ k) hR1 (fun k hk => hk.elim .inl (fun h => .inr (.inr h)))) (L : Int) (by omega) (by omega) (c := c') (seg := cs) (j := 0) (x' := v) (okp := okv) (by rw [hcl', T.size5]) (by rw [T.size5]; exact hcc') (by rw [hcsl, T.size5]; omega)
    (by rw [List.take_zero, List.nil_append, Nat.zero_add, hcsl, List.drop_of_length_le (by omega), List.append_nil]; exact hMv1) (fun k hk => ⟨.inr (.inl hk), hvg k hk⟩)
  rw [T.size5, Nat.add_zero] at hR2 hg2
  simp only [Int.toNat_natCast] at hR2 hg2 hcc' hfr'
  obtain ⟨W2, hW2⟩ : ∃ W2, w1.setCells g1 (L * 5) cs = W2 := ⟨_, rfl⟩
  rw [hW2] at hR2 hg2
  have hset : (T.kids p ++ [T.z]).set L v = T.kids (T.push p v) := by
    rw [T.push_kids, ← hL]; simp
  rw [hset] at hR2
  have hH1 := Kd.H_widen (Kd.H_more (ok := okb) (okg := okv) hH (fun k hk => (hvb k hk).1))
  have hH2 := Kd.H_grown hH1 hg1 (fun k hk => .inl (.inl (hv41 k hk)))
  have hH3 := Kd.H_grown hH2 hg2 (fun k hk => by
    have hk' : g1 = k := by injection hk
    subst hk'
    rcases hok1 with h | h
    · exact .inl (.inl h)
    · exact .inr ⟨hnew _ h, h⟩)
  obtain ⟨hH4, hg3⟩ := Kd.H_seg hH3 (by omega) (by omega) (seg := [.slice (some ⟨g1, 0, none⟩) (L + 1) c1]) (j := 4) (by rw [T.size5]; exact Nat.le_refl 5) (by intro q hq; rw [List.mem_singleton] at hq; subst hq; rfl)
  rw [T.size5, setCells_one] at hH4 hg3
  simp only [Int.toNat_natCast] at hH4 hg3
  have hgo1 : w1.heap[go]? = W.heap[go]? := hg1.block go hgol (fun e => (hoki go (hv41 go e.symm)).2 rfl)
  have hgo2 : W2.heap[go]? = w1.heap[go]? := hg2.block go (Nat.lt_of_lt_of_le hgol hg1.size) (fun e => hg1o (by injection e with e; exact e.symm))
  obtain ⟨cur, hcur⟩ := hgoW
  have hcur2 : W2.heap[go]? = some (.cells cur 72 (0, 0)) := hgo2.trans (hgo1.trans hcur)
  have hcur1 : w1.heap[go]? = some (.cells cur 72 (0, 0)) := hgo1.trans hcur
  have hcw1 : w1.cell? ⟨go, i * 5 + 4, none⟩ = some v4 := by
    rw [cell_of_row w1 go (i * 5 + 4) cur 72 (0, 0) hcur1, ← cell_of_row W go (i * 5 + 4) cur 72 (0, 0) hcur]
    exact hcc 4 v4 (by rw [hc]; rfl)
  refine ⟨g1, c1, W2, rfl, hW2, hg1o, ⟨c', hcl', hcc', hfr'⟩, hcw1, blk_frozen hcur1 _, ?_, blk_frozen hcur2 _, ?_, ?_, ?_, ?_, ?_⟩
  · rw [cell_of_row W2 go (i * 5 + 4) cur 72 (0, 0) hcur2, ← cell_of_row W go (i * 5 + 4) cur 72 (0, 0) hcur]
    exact hcc 4 v4 (by rw [hc]; rfl)
  · refine Kd.H_back (okp := fun k => oki k ∨ okv k ∨ W.heap.size ≤ k) (x' := T.push p v) hH4 ?_ (fun k hk => hk.elim (fun h => .inl (.inl h)) (fun h => h.elim (fun h => .inl (.inr h)) (fun h => .inr ⟨hnew _ h, h⟩)))
    have hm := T.mkM _ n0 (fun k => oki k ∨ okv k ∨ W.heap.size ≤ k) (T.push p v) (Kd.R_grown hR2 hg3 (fun k hk e => by
      have e' : k = go := by injection e
      subst e'
      rcases hk with h | h | h
      · exact (hoki _ h).2 rfl
      · exact hvgo _ h rfl
      · omega))
    rw [T.push_k, T.push_neg, T.push_n, T.push_s] at hm
    rw [hc]
    exact hm
  · have hke1 : Ke n0 W w1 := Ke.grown hg1 hn0 (fun k hk => by
      obtain ⟨cells, h⟩ := Kd.R_typed hR4 k hk
      exact ⟨Kd.R_base hR4 k hk, cells, 25, .inl rfl, h⟩)
    have hs1 := Nat.le_trans hn0 hg1.size
    have hke2 : Ke n0 w1 W2 := Ke.grown hg2 hs1 (fun k hk => by
      have hk' : g1 = k := by injection hk
      subst hk'
      obtain ⟨cells, h⟩ := hg1t
      exact ⟨hg1b, cells, 25, .inl rfl, h⟩)
    have hke3 : Ke n0 W2 (W2.setCell ⟨go, i * 5 + 4, none⟩ (.slice (some ⟨g1, 0, none⟩) (L + 1) c1)) := Ke.grown hg3 (Nat.le_trans hs1 hg2.size) (fun k hk => by
      have hk' : go = k := by injection hk
      subst hk'
      exact ⟨hgob, cur, 72, .inr (.inr rfl), hcur2⟩)
    exact (hke1.trans hke2).trans hke3
  · exact ⟨_, blk_set hcur2 (i * 5 + 4) _⟩
  · intro k hk hnk
    have hgob2 : okb go := (Kd.R_mono (Kd.S_R hS) (fun k hk => hk.1)).1 go (by simp [Value.ownBlock])
    have h1 : okb g1 := hok1.elim (fun h => (hoki _ h).1.1) (hnew _)
    have e1 : w1.heap[k]? = W.heap[k]? := hg1.block k hk (fun e => hnk (hoki k (hv41 k e.symm)).1.1)
    have e2 : W2.heap[k]? = w1.heap[k]? := hg2.block k (Nat.lt_of_lt_of_le hk hg1.size) (fun e => hnk (by injection e with e; rw [e]; exact h1))
    exact (Below.heap_setCell W2 ⟨go, i * 5 + 4, none⟩ _ k (fun e => hnk (by rw [show k = go from e]; exact hgob2))).trans (e2.trans e1)
  · intro k cs' fz hk
    have hklt := blk_lt hk
    have hno : ∀ (cells : Array Value) (q : Nat), q ≠ 42 → W.heap[k]? = some (.cells cells q (0, 0)) → False := fun cells q hq h => by
      rw [hk] at h
      injection h with h
      injection h with _ h4 _
      exact hq h4.symm
    have e1 : w1.heap[k]? = W.heap[k]? := hg1.block k hklt (fun e => by
      obtain ⟨cells, h⟩ := Kd.R_typed hR4 k e.symm
      exact hno cells 25 (by decide) h)
    have e2 : W2.heap[k]? = w1.heap[k]? := hg2.block k (Nat.lt_of_lt_of_le hklt hg1.size) (fun e => by
      obtain ⟨cells, h⟩ := hg1t
      have e' : k = g1 := by injection e
      subst e'
      exact hno cells 25 (by decide) (e1.symm.trans h))
    refine (Below.heap_setCell W2 ⟨go, i * 5 + 4, none⟩ _ k (fun e => ?_)).trans (e2.trans (e1.trans hk))
    have e' : k = go := e
    subst e'
    exact hno cur 72 (by decide) hcur
def addR : S → List S → List S × Option S
  | v, [] => ([], some v)
  | v, p :: ps => if T.k p = 13 then addR (T.push p v) ps else (T.push p v :: ps, none)
theorem rev_last (z : S) : ∀ (xs : List S) (i : Nat), xs.length = i + 1 → xs.reverse = xs.getD i z :: (xs.take i).reverse
  | xs, i, h => by
    have h2 : xs = xs.take i ++ [xs.getD i z] := by
      apply List.ext_getElem?
      intro j
      by_cases hj : j < i
      · rw [List.getElem?_append_left (by rw [List.length_take]; omega), List.getElem?_take, if_pos hj]
      · by_cases hj2 : j = i
        · subst hj2
          rw [List.getElem?_append_right (by rw [List.length_take]; omega), List.length_take, show j - min j xs.length = 0 by omega, List.getD_eq_getElem?_getD, List.getElem?_eq_getElem (by omega)]; rfl
        · rw [List.getElem?_eq_none (by omega), List.getElem?_eq_none (by rw [List.length_append, List.length_take, List.length_singleton]; omega)]
    conv => lhs; rw [h2]
    rw [List.reverse_append]; rfl
theorem set_last (q : S) (xs : List S) (i : Nat) (h : xs.length = i + 1) : (xs.set i q).reverse = q :: (xs.take i).reverse := by
  have h2 := rev_last q (xs.set i q) i (by rw [List.length_set]; exact h)
  rw [h2, List.getD_eq_getElem?_getD, List.getElem?_set_self (by omega), List.take_set_of_le (Nat.le_refl i)]; rfl
structure BS (S : Type) where
  open_ : List S
  whole : Bool
  v : S
  count : Int
  depth : Int
def cells (vo v4 : Value) (b : BS S) : Array Value := #[.bool true, vo, .bool b.whole, .int .i64 (T.k b.v), .bool (T.neg b.v), .int .u64 (T.n b.v), .string (T.s b.v), v4, .int .i64 b.count, .int .i64 b.depth]
structure St (g n0 : Nat) (W : World) (b : BS S) : Prop where
  data : ∃ vo v4, W.heap[g]? = some (.cells (cells T vo v4 b) 42 (0, 0)) ∧ Kd.S T.D 72 W n0 (fun _ => True) vo b.open_.reverse ∧ T.D.R 25 W n0 (fun _ => b.whole = true) v4 (T.kids b.v)
  base : n0 ≤ g
  size : n0 ≤ W.heap.size
theorem St.below {g n0 : Nat} {A B : World} {b : BS S} (h : St T g n0 A b) (hb : Below A.heap.size A B) : St T g n0 B b :=
  ⟨by obtain ⟨vo, v4, h1, h2, h3⟩ := h.data; exact ⟨vo, v4, (hb.block g (blk_lt h1)).trans h1, Kd.S_below h2 hb, Kd.R_below h3 hb⟩, h.base, Nat.le_trans h.size hb.size⟩
def addB (b : BS S) (v : S) : BS S :=
  match addR T v b.open_ with
  | (ys, none) => { b with open_ := ys }
  | (ys, some u) => { b with open_ := ys, whole := true, v := u }
end
end Go.Proofs.Ytcgpfclmcajekaa.Bld
