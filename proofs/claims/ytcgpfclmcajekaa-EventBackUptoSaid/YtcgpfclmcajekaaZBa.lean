-- Out of texts of this seat by a program of this session: what the claim does not reach is struck
import Derived.Test.YtcgpfclmcajekaaZBw
namespace Go.Proofs.Ytcgpfclmcajekaa.Bld
open Go Go.RowKit Go.Shelf Go.Proofs.Ytcgpfclmcajekaa.Each Go.Proofs.YtcgpfclmcajekaaW.PrintWords Go.Proofs.YtcgpfclmcajekaaW.PrintLast
set_option linter.unusedVariables false
set_option linter.unusedSimpArgs false
section
variable {S : Type} (T : Mk S)
theorem info25 : (Try.prog.info? 25).map (fun i => (i.zero, i.size, i.bytes)) = some (some (.agg #[.int .i64 0, .bool false, .int .u64 0, .string ⟨#[]⟩, .slice none 0 0]), 5, 64) := by kernel_rfl
theorem alloc_drew (w : World) (o : Obj) : (w.alloc o).drew = w.drew.alloc o := rfl
theorem cells10 {w : World} {g t : Nat} {a0 a1 a2 a3 a4 a5 a6 a7 a8 a9 : Value} (h : w.heap[g]? = some (.cells #[a0, a1, a2, a3, a4, a5, a6, a7, a8, a9] t (0, 0))) :
    w.cell? ⟨g, 0, none⟩ = some a0 ∧ w.cell? ⟨g, 1, none⟩ = some a1 ∧ w.cell? ⟨g, 2, none⟩ = some a2 ∧ w.cell? ⟨g, 3, none⟩ = some a3 ∧ w.cell? ⟨g, 4, none⟩ = some a4 ∧ w.cell? ⟨g, 5, none⟩ = some a5 ∧ w.cell? ⟨g, 6, none⟩ = some a6 ∧ w.cell? ⟨g, 7, none⟩ = some a7 ∧ w.cell? ⟨g, 8, none⟩ = some a8 ∧ w.cell? ⟨g, 9, none⟩ = some a9 :=
  ⟨(blk_cell h 0).trans rfl, (blk_cell h 1).trans rfl, (blk_cell h 2).trans rfl, (blk_cell h 3).trans rfl, (blk_cell h 4).trans rfl, (blk_cell h 5).trans rfl, (blk_cell h 6).trans rfl, (blk_cell h 7).trans rfl, (blk_cell h 8).trans rfl, (blk_cell h 9).trans rfl⟩
structure In (n0 B : Nat) (W : World) (u : S) (u4 : Value) (oku : Nat → Prop) : Prop where
  box : W.heap[B]? = some (.cells #[.int .i64 (T.k u), .bool (T.neg u), .int .u64 (T.n u), .string (T.s u), u4] 25 (0, 0))
  row : T.D.R 25 W n0 oku u4 (T.kids u)
  bd : ∀ k, oku k → k ≠ B ∧ k < W.heap.size
structure Lp (g n0 B : Nat) (W wr : World) (b : BS S) (v : S) (ys : List S) (u : S) (vo v4 u4 : Value) (oku : Nat → Prop) : Prop where
  blk : wr.heap[g]? = some (.cells (cells T vo v4 b) 42 (0, 0))
  row : Kd.S T.D 72 wr n0 (fun k => k ≠ B ∧ ¬ oku k) vo ys
  inn : In T n0 B wr u u4 oku
  bv : T.D.R 25 wr n0 (fun _ => b.whole = true) v4 (T.kids b.v)
  same : addR T u ys.reverse = addR T v b.open_
  ke : Ke n0 W wr
  lim : ∀ x, x ∈ ys → (T.kids x).length ≤ 1048576
  bw : b.whole = false
theorem no42 (T : Mk S) (e : Nat) (he : e ≠ 42) : ∀ q, q ∈ e :: T.D.E → q ≠ 42 := by
  rw [T.E1]; intro q hq
  simp only [List.mem_cons, List.not_mem_nil, or_false] at hq
  rcases hq with rfl | rfl
  · exact he
  · decide
theorem orders {w1 W2 : World} {g1 go o L : Nat} {a0 a1 a2 a3 a4 v1 v4 : Value} (hW2 : w1.setCells g1 (L * 5) [a0, a1, a2, a3, a4] = W2) (hne : g1 ≠ go)
    (h1 : ∃ c' : List Value, c'.length = 5 ∧ (∀ j u, c'[j]? = some u → w1.cell? ⟨g1, L * 5 + j, none⟩ = some u) ∧ ∀ j, w1.frozen? ⟨g1, L * 5 + j, none⟩ = false) (hz : W2.cell? ⟨go, o, none⟩ = some v4) (hf : W2.frozen? ⟨go, o, none⟩ = false) :
    ∃ x0 x1 x2 x3 x4 : Value,
      (w1.cell? ⟨g1, L * 5, none⟩ = some x0 ∧ w1.cell? ⟨g1, L * 5 + 1, none⟩ = some x1 ∧ w1.cell? ⟨g1, L * 5 + 2, none⟩ = some x2 ∧ w1.cell? ⟨g1, L * 5 + 3, none⟩ = some x3 ∧ w1.cell? ⟨g1, L * 5 + 4, none⟩ = some x4) ∧
      (w1.frozen? ⟨g1, L * 5, none⟩ = false ∧ w1.frozen? ⟨g1, L * 5 + 1, none⟩ = false ∧ w1.frozen? ⟨g1, L * 5 + 2, none⟩ = false ∧ w1.frozen? ⟨g1, L * 5 + 3, none⟩ = false ∧ w1.frozen? ⟨g1, L * 5 + 4, none⟩ = false) ∧
      ((w1.setCell ⟨go, o, none⟩ v1).cell? ⟨g1, L * 5, none⟩ = some x0 ∧ (w1.setCell ⟨go, o, none⟩ v1).cell? ⟨g1, L * 5 + 1, none⟩ = some x1 ∧ (w1.setCell ⟨go, o, none⟩ v1).cell? ⟨g1, L * 5 + 2, none⟩ = some x2 ∧ (w1.setCell ⟨go, o, none⟩ v1).cell? ⟨g1, L * 5 + 3, none⟩ = some x3 ∧ (w1.setCell ⟨go, o, none⟩ v1).cell? ⟨g1, L * 5 + 4, none⟩ = some x4) ∧
      ((w1.setCell ⟨go, o, none⟩ v1).frozen? ⟨g1, L * 5, none⟩ = false ∧ (w1.setCell ⟨go, o, none⟩ v1).frozen? ⟨g1, L * 5 + 1, none⟩ = false ∧ (w1.setCell ⟨go, o, none⟩ v1).frozen? ⟨g1, L * 5 + 2, none⟩ = false ∧ (w1.setCell ⟨go, o, none⟩ v1).frozen? ⟨g1, L * 5 + 3, none⟩ = false ∧ (w1.setCell ⟨go, o, none⟩ v1).frozen? ⟨g1, L * 5 + 4, none⟩ = false) ∧
      (((((w1.setCell ⟨g1, L * 5, none⟩ a0).setCell ⟨g1, L * 5 + 1, none⟩ a1).setCell ⟨g1, L * 5 + 2, none⟩ a2).setCell ⟨g1, L * 5 + 3, none⟩ a3).setCell ⟨g1, L * 5 + 4, none⟩ a4).cell? ⟨go, o, none⟩ = some v4 ∧
      (((((w1.setCell ⟨g1, L * 5, none⟩ a0).setCell ⟨g1, L * 5 + 1, none⟩ a1).setCell ⟨g1, L * 5 + 2, none⟩ a2).setCell ⟨g1, L * 5 + 3, none⟩ a3).setCell ⟨g1, L * 5 + 4, none⟩ a4).frozen? ⟨go, o, none⟩ = false ∧
      (((((w1.setCell ⟨g1, L * 5, none⟩ a0).setCell ⟨g1, L * 5 + 1, none⟩ a1).setCell ⟨g1, L * 5 + 2, none⟩ a2).setCell ⟨g1, L * 5 + 3, none⟩ a3).setCell ⟨g1, L * 5 + 4, none⟩ a4).setCell ⟨go, o, none⟩ v1 = W2.setCell ⟨go, o, none⟩ v1 ∧
      ((((((w1.setCell ⟨go, o, none⟩ v1).setCell ⟨g1, L * 5, none⟩ a0).setCell ⟨g1, L * 5 + 1, none⟩ a1).setCell ⟨g1, L * 5 + 2, none⟩ a2).setCell ⟨g1, L * 5 + 3, none⟩ a3).setCell ⟨g1, L * 5 + 4, none⟩ a4) = W2.setCell ⟨go, o, none⟩ v1 := by
  obtain ⟨c', hl, hc, hfr⟩ := h1
  obtain ⟨x0, x1, x2, x3, x4, rfl⟩ : ∃ x0 x1 x2 x3 x4, c' = [x0, x1, x2, x3, x4] := by
    match c', hl with
    | [x0, x1, x2, x3, x4], _ => exact ⟨x0, x1, x2, x3, x4, rfl⟩
  have e0 := hc 0 x0 rfl
  have e1 := hc 1 x1 rfl
  have e2 := hc 2 x2 rfl
  have e3 := hc 3 x3 rfl
  have e4 := hc 4 x4 rfl
  have hch : (((((w1.setCell ⟨g1, L * 5, none⟩ a0).setCell ⟨g1, L * 5 + 1, none⟩ a1).setCell ⟨g1, L * 5 + 2, none⟩ a2).setCell ⟨g1, L * 5 + 3, none⟩ a3).setCell ⟨g1, L * 5 + 4, none⟩ a4) = W2 := hW2
  have hch2 := setCells_comm ⟨go, o, none⟩ v1 g1 (fun e => hne e.symm) [a0, a1, a2, a3, a4] (L * 5) w1
  rw [hW2] at hch2
  rw [hch]
  exact ⟨x0, x1, x2, x3, x4, ⟨e0, e1, e2, e3, e4⟩, ⟨hfr 0, hfr 1, hfr 2, hfr 3, hfr 4⟩,
    ⟨(cell_far w1 ⟨go, o, none⟩ ⟨g1, L * 5, none⟩ hne v1).trans e0, (cell_far w1 ⟨go, o, none⟩ ⟨g1, L * 5 + 1, none⟩ hne v1).trans e1, (cell_far w1 ⟨go, o, none⟩ ⟨g1, L * 5 + 2, none⟩ hne v1).trans e2, (cell_far w1 ⟨go, o, none⟩ ⟨g1, L * 5 + 3, none⟩ hne v1).trans e3, (cell_far w1 ⟨go, o, none⟩ ⟨g1, L * 5 + 4, none⟩ hne v1).trans e4⟩,
    ⟨(frozen_far w1 ⟨go, o, none⟩ ⟨g1, L * 5, none⟩ hne v1).trans (hfr 0), (frozen_far w1 ⟨go, o, none⟩ ⟨g1, L * 5 + 1, none⟩ hne v1).trans (hfr 1), (frozen_far w1 ⟨go, o, none⟩ ⟨g1, L * 5 + 2, none⟩ hne v1).trans (hfr 2), (frozen_far w1 ⟨go, o, none⟩ ⟨g1, L * 5 + 3, none⟩ hne v1).trans (hfr 3), (frozen_far w1 ⟨go, o, none⟩ ⟨g1, L * 5 + 4, none⟩ hne v1).trans (hfr 4)⟩,
    hz, hf, rfl, hch2⟩
theorem getD_set (xs : List S) (i : Nat) (h : i < xs.length) (q z : S) : (xs.set i q).getD i z = q := by rw [List.getD_eq_getElem?_getD, List.getElem?_set_self h]; rfl
theorem St_open {g n0 go n cap i : Nat} {W wx : World} {b : BS S} {v u p : S} {ys : List S} {v4 : Value} {okb : Nat → Prop} (hlen : ys.length = i + 1) (hp : ys.getD i T.z = p) (ht : T.k p ≠ 13)
    (hsame : addR T u ys.reverse = addR T v b.open_) (hS : Kd.S T.D 72 wx n0 okb (.slice (some ⟨go, 0, none⟩) n cap) (ys.set i (T.push p u)))
    (hk : Ke n0 W wx) (hg : n0 ≤ g) (hs : n0 ≤ W.heap.size) (hbv : T.D.R 25 wx n0 (fun _ => b.whole = true) v4 (T.kids b.v))
    (hb : wx.heap[g]? = some (.cells (cells T (.slice (some ⟨go, 0, none⟩) n cap) v4 b) 42 (0, 0))) : St T g n0 wx (addB T b v) := by
  have h2 : addB T b v = { b with open_ := T.push p u :: (ys.take i).reverse } := by
    rw [rev_last T.z ys i hlen, hp, addR, if_neg ht] at hsame
    rw [addB, ← hsame]
  refine ⟨⟨.slice (some ⟨go, 0, none⟩) n cap, v4, ?_, ?_, ?_⟩, hg, Nat.le_trans hs hk.below.size⟩
  · rw [h2]; exact hb
  · rw [h2]
    show Kd.S T.D 72 wx n0 _ _ (T.push p u :: (ys.take i).reverse).reverse
    rw [← set_last (T.push p u) ys i hlen, List.reverse_reverse]
    exact Kd.S_mono hS (fun _ _ => trivial)
  · rw [h2]; exact hbv
theorem Lp_tag {g n0 B go n cap i : Nat} {W wr wx : World} {b : BS S} {v u p : S} {ys : List S} {vo v4 u4 : Value} {oku : Nat → Prop} (h : Lp T g n0 B W wr b v ys u vo v4 u4 oku) (hlen : ys.length = i + 1) (hp : ys.getD i T.z = p) (ht : T.k p = 13)
    (hS : Kd.S T.D 72 wx n0 (fun k => k ≠ B) (.slice (some ⟨go, 0, none⟩) n cap) (ys.set i (T.push p u))) (hin : i < n)
    (hk : Ke n0 W wx) (hg : n0 ≤ g) (hs : n0 ≤ W.heap.size) (hBn : n0 ≤ B) {x0 x1 x2 x3 x4 : Value} (hbx : wx.heap[B]? = some (.cells #[x0, x1, x2, x3, x4] 25 (0, 0)))
    (hbv : T.D.R 25 wx n0 (fun _ => b.whole = true) v4 (T.kids b.v))
    (hb : wx.heap[g]? = some (.cells (cells T (.slice (some ⟨go, 0, none⟩) n cap) v4 b) 42 (0, 0))) :
    ∃ p5, (wx.cell? ⟨go, i * 5, none⟩ = some (.int .i64 (T.k p)) ∧ wx.cell? ⟨go, i * 5 + 1, none⟩ = some (.bool (T.neg p)) ∧ wx.cell? ⟨go, i * 5 + 2, none⟩ = some (.int .u64 (T.n p)) ∧ wx.cell? ⟨go, i * 5 + 3, none⟩ = some (.string (T.s p)) ∧ wx.cell? ⟨go, i * 5 + 4, none⟩ = some p5) ∧ (∃ A c, p5 = .slice A (T.kids (T.push p u)).length c) ∧
      (∀ wb, (((((wx.setCell ⟨B, 0, none⟩ (.int .i64 (T.k p))).setCell ⟨B, 1, none⟩ (.bool (T.neg p))).setCell ⟨B, 2, none⟩ (.int .u64 (T.n p))).setCell ⟨B, 3, none⟩ (.string (T.s p))).setCell ⟨B, 4, none⟩ p5) = wb →
        wb.heap[g]? = some (.cells (cells T (.slice (some ⟨go, 0, none⟩) n cap) v4 b) 42 (0, 0)) ∧
        ∃ okq, Lp T g n0 B W (wb.setCell ⟨g, 1, none⟩ (.slice (some ⟨go, 0, none⟩) i cap)) b v (ys.take i) (T.push p u) (.slice (some ⟨go, 0, none⟩) i cap) v4 p5 okq) := by
  obtain ⟨oki3, cc3, hcl3, hM3, hcc3, hfr3, hoki3, hH3⟩ := Kd.S_elem hS T.z (i : Int) (by omega) (by omega)
  simp only [Int.toNat_natCast] at hM3 hcc3 hfr3
  rw [T.size5] at hcc3 hfr3
  rw [getD_set ys i (by omega)] at hM3
  obtain ⟨p5, hc3, hR5⟩ := T.openM hM3
  rw [T.push_k, T.push_neg, T.push_n, T.push_s] at hc3
  obtain ⟨A9, c9, hp9⟩ := Kd.R_slice hR5
  have e0 := hcc3 0 _ (by rw [hc3]; rfl)
  rw [Nat.add_zero] at e0
  refine ⟨p5, ⟨e0, hcc3 1 _ (by rw [hc3]; rfl), hcc3 2 _ (by rw [hc3]; rfl), hcc3 3 _ (by rw [hc3]; rfl), hcc3 4 _ (by rw [hc3]; rfl)⟩, ⟨A9, c9, hp9⟩, fun wb hwb => ?_⟩
  have hfar : ∀ k, k ≠ B → wb.heap[k]? = wx.heap[k]? := fun k hk => by
    rw [← hwb]
    exact (Below.heap_setCell _ ⟨B, 4, none⟩ _ k hk).trans ((Below.heap_setCell _ ⟨B, 3, none⟩ _ k hk).trans ((Below.heap_setCell _ ⟨B, 2, none⟩ _ k hk).trans ((Below.heap_setCell _ ⟨B, 1, none⟩ _ k hk).trans (Below.heap_setCell _ ⟨B, 0, none⟩ _ k hk))))
  have hgB : g ≠ B := fun e => by
    subst e
    rw [hbx] at hb
    injection hb with hb
    injection hb with _ h4 _
    exact absurd h4 (by decide)
  have hgb : wb.heap[g]? = some (.cells (cells T (.slice (some ⟨go, 0, none⟩) n cap) v4 b) 42 (0, 0)) := (hfar g hgB).trans hb
  refine ⟨hgb, fun k => oki3 k ∧ k < wx.heap.size ∧ k ≠ g, ?_⟩
  have hbb : wb.heap[B]? = some (.cells #[.int .i64 (T.k p), .bool (T.neg p), .int .u64 (T.n p), .string (T.s p), p5] 25 (0, 0)) := by
    have h5 := blk_set (blk_set (blk_set (blk_set (blk_set hbx 0 (.int .i64 (T.k p))) 1 (.bool (T.neg p))) 2 (.int .u64 (T.n p))) 3 (.string (T.s p))) 4 p5
    rw [hwb] at h5
    rw [h5]
    simp
  have hkb : Ke n0 wx wb := by
    have hset : ∀ (A : World) (cc : Array Value) (j : Nat) (x : Value), A.heap[B]? = some (.cells cc 25 (0, 0)) → Ke n0 A (A.setCell ⟨B, j, none⟩ x) := fun A cc j x hA =>
      ⟨(Below.refl n0 A).setCell (p := ⟨B, j, none⟩) hBn x, fun b' cs' t fz h1 h2 h3 hc => (Below.heap_setCell A ⟨B, j, none⟩ x b' (fun e => by
        have e' : b' = B := e
        subst e'
        rw [hA] at hc
        injection hc with hc
        injection hc with _ h4 _
        exact h1 h4.symm)).trans hc⟩
    rw [← hwb]
    exact ((((hset _ _ 0 _ hbx).trans (hset _ _ 1 _ (blk_set hbx 0 _))).trans (hset _ _ 2 _ (blk_set (blk_set hbx 0 _) 1 _))).trans (hset _ _ 3 _ (blk_set (blk_set (blk_set hbx 0 _) 1 _) 2 _))).trans (hset _ _ 4 _ (blk_set (blk_set (blk_set (blk_set hbx 0 _) 1 _) 2 _) 3 _))
  have hkg : Ke n0 wb (wb.setCell ⟨g, 1, none⟩ (.slice (some ⟨go, 0, none⟩) i cap)) := Ke.set hgb hg 1 _
  have hfar2 : ∀ k, k ≠ g → (wb.setCell ⟨g, 1, none⟩ (.slice (some ⟨go, 0, none⟩) i cap)).heap[k]? = wb.heap[k]? := fun k hk => Below.heap_setCell wb ⟨g, 1, none⟩ _ k hk
  have hS3 := H_take hH3 (m := i) (by rw [List.length_set]; omega) (by simp)
  rw [List.take_set_of_le (Nat.le_refl i)] at hS3
  have hbsz : B < wx.heap.size := blk_lt hbx
  refine ⟨?_, ?_, ⟨?_, ?_, ?_⟩, ?_, ?_, (hk.trans hkb).trans hkg, fun x hx => h.lim x (List.mem_of_mem_take hx), h.bw⟩
  · rw [blk_set hgb 1 (.slice (some ⟨go, 0, none⟩) i cap)]
    simp [cells]
  · have hS4 : Kd.S T.D 72 wx n0 (fun k => (k ≠ B ∧ ¬ (oki3 k ∧ k < wx.heap.size ∧ k ≠ g)) ∧ k ≠ g) (.slice (some ⟨go, 0, none⟩) i cap) (ys.take i) :=
      Kd.S_mono (Kd.S_types hS3 hb (no42 T 72 (by decide))) (fun k hk => ⟨⟨hk.1.1, fun h => hk.1.2 h.1⟩, hk.2⟩)
    exact Kd.S_mono (Kd.S_step (Kd.S_step hS4 (fun k hk _ => hfar k hk.1.1)) (fun k hk _ => hfar2 k hk.2)) (fun k hk => hk.1)
  · rw [T.push_k, T.push_neg, T.push_n, T.push_s]
    exact (hfar2 B (fun e => hgB e.symm)).trans hbb
  · have hR6 := Kd.R_mono (ok' := fun k => oki3 k ∧ k < wx.heap.size ∧ k ≠ g) (Kd.R_types (Kd.R_bound hR5) hb (no42 T 25 (by decide))) (fun k hk => ⟨hk.1.1, hk.1.2.2.1, hk.2⟩)
    exact Kd.R_step (w := wb) (Kd.R_step (w := wx) hR6 (fun k hk _ => hfar k (hoki3 k hk.1).1)) (fun k hk _ => hfar2 k hk.2.2)
  · intro k hk
    exact ⟨(hoki3 k hk.1).1, Nat.lt_of_lt_of_le hk.2.1 (hkb.trans hkg).below.size⟩
  · refine Kd.R_step (w := wb) (Kd.R_step (w := wx) hbv (fun k hk _ => ?_)) (fun k hk _ => ?_)
    · rw [h.bw] at hk; exact absurd hk (by decide)
    · rw [h.bw] at hk; exact absurd hk (by decide)
  · have h9 := h.same
    rw [rev_last T.z ys i hlen, hp, addR, if_pos ht] at h9
    exact h9
theorem St_whole {g n0 B : Nat} {W wr : World} {b : BS S} {v u : S} {vo v4 u4 : Value} {oku : Nat → Prop} (h : Lp T g n0 B W wr b v [] u vo v4 u4 oku) (hg : n0 ≤ g) (hs : n0 ≤ W.heap.size) :
    St T g n0 ((((((wr.setCell ⟨g, 3, none⟩ (.int .i64 (T.k u))).setCell ⟨g, 4, none⟩ (.bool (T.neg u))).setCell ⟨g, 5, none⟩ (.int .u64 (T.n u))).setCell ⟨g, 6, none⟩ (.string (T.s u))).setCell ⟨g, 7, none⟩ u4).setCell ⟨g, 2, none⟩ (.bool true)) (addB T b v) ∧
    Ke n0 W ((((((wr.setCell ⟨g, 3, none⟩ (.int .i64 (T.k u))).setCell ⟨g, 4, none⟩ (.bool (T.neg u))).setCell ⟨g, 5, none⟩ (.int .u64 (T.n u))).setCell ⟨g, 6, none⟩ (.string (T.s u))).setCell ⟨g, 7, none⟩ u4).setCell ⟨g, 2, none⟩ (.bool true)) := by
  have e0 := h.blk
  have e1 := blk_set e0 3 (.int .i64 (T.k u))
  have e2 := blk_set e1 4 (.bool (T.neg u))
  have e3 := blk_set e2 5 (.int .u64 (T.n u))
  have e4 := blk_set e3 6 (.string (T.s u))
  have e5 := blk_set e4 7 u4
  have e6 := blk_set e5 2 (.bool true)
  have hb : addB T b v = { b with open_ := [], whole := true, v := u } := by
    have h2 : addR T u [] = addR T v b.open_ := h.same
    rw [addR] at h2
    rw [addB, ← h2]
  obtain ⟨wf, hwf⟩ : ∃ wf, (((((wr.setCell ⟨g, 3, none⟩ (.int .i64 (T.k u))).setCell ⟨g, 4, none⟩ (.bool (T.neg u))).setCell ⟨g, 5, none⟩ (.int .u64 (T.n u))).setCell ⟨g, 6, none⟩ (.string (T.s u))).setCell ⟨g, 7, none⟩ u4).setCell ⟨g, 2, none⟩ (.bool true) = wf := ⟨_, rfl⟩
  have hfar : ∀ k, k ≠ g → wf.heap[k]? = wr.heap[k]? := fun k hk => by
    rw [← hwf]
    exact (Below.heap_setCell _ ⟨g, 2, none⟩ _ k hk).trans ((Below.heap_setCell _ ⟨g, 7, none⟩ _ k hk).trans ((Below.heap_setCell _ ⟨g, 6, none⟩ _ k hk).trans ((Below.heap_setCell _ ⟨g, 5, none⟩ _ k hk).trans ((Below.heap_setCell _ ⟨g, 4, none⟩ _ k hk).trans (Below.heap_setCell _ ⟨g, 3, none⟩ _ k hk)))))
  have hke : Ke n0 wr wf := by
    rw [← hwf]
    exact (((((Ke.set e0 hg 3 _).trans (Ke.set e1 hg 4 _)).trans (Ke.set e2 hg 5 _)).trans (Ke.set e3 hg 6 _)).trans (Ke.set e4 hg 7 _)).trans (Ke.set e5 hg 2 _)
  rw [hwf] at e6 ⊢
  have hsz : n0 ≤ wf.heap.size := Nat.le_trans hs (h.ke.trans hke).below.size
  refine ⟨⟨⟨vo, u4, ?_, ?_, ?_⟩, hg, hsz⟩, h.ke.trans hke⟩
  · rw [hb, e6]
    simp [cells]
  · rw [hb]
    exact Kd.S_mono (Kd.S_step (Kd.S_types h.row e0 (no42 T 72 (by decide))) (fun k hk _ => hfar k hk.2)) (fun _ _ => trivial)
  · rw [hb]
    exact Kd.R_mono (Kd.R_step (Kd.R_types h.inn.row e0 (no42 T 25 (by decide))) (fun k hk _ => hfar k hk.2)) (fun _ _ => rfl)
set_option maxRecDepth 100000 in
set_option maxHeartbeats 8000000 in
theorem add_calls (g n0 : Nat) (W : World) (b : BS S) (v : S) (cs : List Value) (okv : Nat → Prop) (vo v4 : Value) (hw : b.whole = false)
    (hblk : W.heap[g]? = some (.cells (cells T vo v4 b) 42 (0, 0))) (hbv : T.D.R 25 W n0 (fun _ => b.whole = true) v4 (T.kids b.v))
    (hS : Kd.S T.D 72 W n0 (fun k => True ∧ ¬ okv k) vo b.open_.reverse) (hM : T.D.M W n0 okv v cs) (hg : n0 ≤ g) (hsz : n0 ≤ W.heap.size) (hlim : ∀ x, x ∈ b.open_ → (T.kids x).length ≤ 1048576) (hlen : b.open_.length ≤ 1048576) :
    Calls Try.prog 38 #[.pointer (some ⟨g, 0, none⟩), .agg cs.toArray] W fun e W' => e = .returned (.tuple #[]) ∧ St T g n0 W' (addB T b v) ∧ Ke n0 W W' := by
  obtain ⟨u4, rfl, hu⟩ := T.openM hM
  obtain ⟨W1, hW1⟩ : ∃ W1, W.alloc (.cells #[.int .i64 (T.k v), .bool (T.neg v), .int .u64 (T.n v), .string (T.s v), u4] 25 (0, 0)) = W1 := ⟨_, rfl⟩
  have hb1 : Below W.heap.size W W1 := by rw [← hW1]; exact below_alloc (Below.refl _ _) _
  have hx1 : W1.heap[W.heap.size]? = some (.cells #[.int .i64 (T.k v), .bool (T.neg v), .int .u64 (T.n v), .string (T.s v), u4] 25 (0, 0)) := by rw [← hW1]; exact World.alloc_heap_new W _
  have hxs : W.heap.size < W1.heap.size := by rw [← hW1, World.size_alloc]; omega
  have hlp : Lp T g n0 W.heap.size W W1 b v b.open_.reverse v vo v4 u4 (fun k => okv k ∧ k < W.heap.size) :=
    ⟨(hb1.block g (blk_lt hblk)).trans hblk, Kd.S_mono (Kd.S_below (Kd.S_bound hS) hb1) (fun k hk => ⟨by have := hk.2.2.1; omega, fun h => hk.1.2 h.1⟩),
     ⟨hx1, Kd.R_below (Kd.R_mono (Kd.R_bound hu) (fun k hk => ⟨hk.1, hk.2.2.1⟩)) hb1, fun k hk => ⟨by omega, by omega⟩⟩, Kd.R_below hbv hb1, by rw [List.reverse_reverse], Ke.of_below hsz hb1, fun x hx => hlim x (by simpa using hx), hw⟩
  obtain ⟨A0, c0, hvo⟩ := Kd.S_slice hS
  subst hvo
  have hl0 : b.open_.reverse.length ≤ 1048576 := by simpa using hlen
  obtain ⟨b0, b1, b2, b3, b4, b5, b6, b7, b8, b9⟩ := cells10 hlp.blk
  have HLP := Aside0.mk hlp
  have HL0 := Aside0.mk hl0
  obtain ⟨N0, hN0⟩ : ∃ N0, b.open_.reverse.length = N0 := ⟨_, rfl⟩
  rw [hN0] at hl0 b1
  have hsub : IntKind.i64.wrap ((N0 : Int) - 1) = (N0 : Int) - 1 := by rw [i64_w]; unfold wrap64; omega
  have HN0 := Aside0.mk hN0
  clear hlp hb1 hx1 hS hM hu hblk hbv hlim hlen
  go_enter Try.func38, Try.ntmps38
  go_wp2
  go_loopw [4] (fun j wr => ∃ (ys : List S) (u : S) (u4 : Value) (oku : Nat → Prop) (vo : Value) (N : Nat), j = .int .i64 ((N : Int) - 1) ∧ ys.length = N ∧ N ≤ 1048576 ∧ Aside0 (Lp T g n0 W.heap.size W wr b v ys u vo v4 u4 oku)) (fun j _ => (intOf j + 1).toNat)
  case atStart => exact ⟨b.open_.reverse, v, u4, _, _, N0, by first | rfl | go_num, HN0.out, hl0, HLP⟩
  case round =>
    obtain ⟨ys, u, u5, oku, vo5, N, rfl, hN, hle, HL⟩ := hrel
    clear HLP HL0 HN0 hl0 hsub b0 b1 b2 b3 b4 b5 b6 b7 b8 b9
    obtain ⟨A5, c5, hvo5⟩ := Kd.S_slice HL.out.row
    subst hvo5
    obtain ⟨A6, c6, hu5⟩ := Kd.R_slice HL.out.inn.row
    obtain ⟨L6, hL6⟩ : ∃ L6, (T.kids u).length = L6 := ⟨_, rfl⟩
    rw [hL6] at hu5
    subst hu5
    have hblk := HL.out.blk
    rw [cells, hN] at hblk
    obtain ⟨b0, b1, b2, b3, b4, b5, b6, b7, b8, b9⟩ := cells10 hblk
    obtain ⟨d0, d1, d2, d3, d4⟩ := cells5 HL.out.inn.box
    have f1 := blk_frozen hblk 1
    have f2 := blk_frozen hblk 2
    have f3 := blk_frozen hblk 3
    have f4 := blk_frozen hblk 4
    have f5 := blk_frozen hblk 5
    have f6 := blk_frozen hblk 6
    have f7 := blk_frozen hblk 7
    have HBK := Aside0.mk hblk
    clear hblk
    cases N with
    | zero =>
      obtain rfl : ys = [] := List.eq_nil_of_length_eq_zero hN
      have e5 := b5; clear e5
      go_wp2
      go_end0
      exact ⟨rfl, St_whole T HL.out hg hsz⟩
    | succ i =>
      rw [show (((i + 1 : Nat) : Int) - 1) = (i : Int) by omega]
      have hrow := HL.out.row
      obtain ⟨go, cap, hA5, hgb, hgl, hgt⟩ := Kd.S_form hrow (by omega)
      rw [hN] at hA5
      injection hA5 with hA5 _ hc5
      subst hA5
      obtain rfl : cap = c5 := hc5.symm
      rw [hN] at hrow
      obtain ⟨oki, c, hcl, hMp, hcc, hfr, hoki, hH⟩ := Kd.S_elem (Kd.S_drew hrow) T.z (i : Int) (by omega) (by omega)
      simp only [Int.toNat_natCast] at hMp hcc hfr
      rw [T.size5] at hcc hfr
      obtain ⟨p, hp⟩ : ∃ p, ys.getD i T.z = p := ⟨_, rfl⟩
      rw [hp] at hMp
      obtain ⟨p4, hc, hR4⟩ := T.openM hMp
      obtain ⟨A4, c4, hp4⟩ := Kd.R_slice hR4
      obtain ⟨L4, hL4⟩ : ∃ L4, (T.kids p).length = L4 := ⟨_, rfl⟩
      rw [hL4] at hp4
      subst hp4
      have hc4 := hcc 4 _ (by rw [hc]; rfl)
      obtain ⟨ag, had⟩ := hgt
      have hd4 : (wr.alloc (.cells #[.int .i64 0, .bool false, .int .u64 0, .string ⟨#[]⟩, .slice none 0 0] 25)).cell? ⟨go, i * 5 + 4, none⟩ = some (.slice A4 L4 c4) := (blk_cell (blk_alloc had _) _).trans ((blk_cell (blk_drew had) _).symm.trans hc4)
      have hL5 : (L4 : Int) < (L4 : Int) + 1 := by omega
      have hlb : W.heap.size < wr.heap.size := blk_lt HL.out.inn.box
      have hbx : (wr.alloc (.cells #[.int .i64 0, .bool false, .int .u64 0, .string ⟨#[]⟩, .slice none 0 0] 25)).heap[W.heap.size]? = _ := blk_alloc HL.out.inn.box _
      obtain ⟨k0, k1, k2, k3, k4⟩ := cells5 hbx
      have hsw : n0 ≤ wr.drew.heap.size := Nat.le_trans hsz HL.out.ke.below.size
      have hdr : wr.drew.heap.size = wr.heap.size := rfl
      have hMu := T.mkM wr.drew n0 oku u (Kd.R_drew HL.out.inn.row)
      have HPA := Aside0.mk (fun (w1 : World) (v1 : Value) => part_add T (w1 := w1) (v1 := v1) hp hL4 hsw (Kd.S_drew hrow) (by omega : i < i + 1) hMu (fun k hk => HL.out.inn.bd k hk) (fun k (hk : wr.drew.heap.size ≤ k) => (by omega : k ≠ W.heap.size)) hc hR4 hoki hcc hH)
      have HR4 := Aside0.mk hR4
      have HLM := Aside0.mk (show (T.kids p).length ≤ 1048576 from HL.out.lim p (by rw [← hp, List.getD_eq_getElem?_getD, List.getElem?_eq_getElem (by omega)]; exact List.getElem_mem _))
      clear hR4 hMp hH hcc hfr hoki hrow hMu hbx
      go_wp2
      go_cut [] (fun wx => Aside0 (Kd.S T.D 72 wx n0 (fun k => k ≠ W.heap.size) (.slice (some ⟨go, 0, none⟩) (i + 1) cap) (ys.set i (T.push p u))) ∧ Aside0 (Ke n0 wr.drew wx) ∧ Aside0 (wx.heap[W.heap.size]? = some (.cells #[.int .i64 (T.k u), .bool (T.neg u), .int .u64 (T.n u), .string (T.s u), .slice A6 L6 c6] 25 (0, 0))) ∧
        Aside0 (wx.heap[g]? = some (.cells #[.bool true, .slice (some ⟨go, 0, none⟩) (i + 1) cap, .bool b.whole, .int .i64 (T.k b.v), .bool (T.neg b.v), .int .u64 (T.n b.v), .string (T.s b.v), v4, .int .i64 b.count, .int .i64 b.depth] 42 (0, 0))))
      case first =>
        go_region_law (first
          | (rw [alloc_drew]
             refine Kd.R_append_step T.D (w0 := wr.drew) (W := wr.drew) n0 rfl (.tmp 26) (.tmp 29) 23 25 (.agg #[.int .i64 0, .bool false, .int .u64 0, .string ⟨#[]⟩, .slice none 0 0]) 64 rfl Try.underlying23 (by rw [T.size5]; exact info25) (by rw [T.size5]; rfl) (by rw [T.size5]; decide) (by decide) (.slice A4 L4 c4) (T.kids p) T.z [.int .i64 0, .bool false, .int .u64 0, .string ⟨#[]⟩, .slice none 0 0] (fun k => oki k ∨ wr.drew.heap.size ≤ k) (fun _ => False) (by simp [Act.eval, Act.put]) (by simp [Act.eval, Act.put]) (T.zM _ _) (fun _ h => h.elim) (fun k h => .inr h) (Kd.R_mono HR4.out (fun _ h => .inl h)) (Below.refl _ _) hsw (by have h := HLM.out; omega) ?_
             intro v1 w1 hR1 hB1 hg1 hat1
             obtain ⟨g1, c1, W2, rfl, hW2, hne, hcs1, hz1, hz2, hz3, hz4, hS3, hke3, hgo3, hbx3, h423⟩ := HPA.out w1 v1 hR1 hg1
             obtain ⟨x0, x1, x2, x3, x4, ⟨e0, e1, e2, e3, e4⟩, ⟨g0, g1_, g2, g3, g4⟩, ⟨y0, y1, y2, y3, y4⟩, ⟨q0, q1, q2, q3, q4⟩, hwz, hwf, hwA, hwB⟩ := orders (v1 := .slice (some ⟨g1, 0, none⟩) (L4 + 1) c1) hW2 hne hcs1 hz3 hz4
             have HWA := Aside0.mk hwA
             have HWB := Aside0.mk hwB
             have HS3 := Aside0.mk hS3
             have HK3 := Aside0.mk hke3
             have HG3 := Aside0.mk hgo3
             have HX3 := Aside0.mk hbx3
             have HT3 := Aside0.mk h423
             clear hR1 hB1 hg1 hat1 hW2 hcs1 hz3 hz4 hS3 hke3 hgo3 hbx3 h423 hwA hwB))
        all_goals first | rw [HWA.out] | rw [HWB.out]
        all_goals
          go_wp2
          go_meet
          exact ⟨HS3, HK3, ⟨(HX3.out W.heap.size hlb (fun h => h rfl)).trans HL.out.inn.box⟩, ⟨HT3.out g _ _ HBK.out⟩⟩
      case rest =>
        obtain ⟨HS3, HK3, HB3, HG3⟩ := hcut
        have hcp : i ≤ cap := by have h := (Kd.S_reads' HS3.out).2.1; omega
        have hk3 : Ke n0 W wc := HL.out.ke.trans ((Ke.of_below (A := wr) (show n0 ≤ wr.heap.size from hsw) (below_drew (Below.refl _ _))).trans HK3.out)
        have hbv3 : T.D.R 25 wc n0 (fun _ => b.whole = true) v4 (T.kids b.v) := Kd.R_step HL.out.bv (fun k hk _ => by rw [HL.out.bw] at hk; exact absurd hk (by decide))
        have HK4 := Aside0.mk hk3
        have HV4 := Aside0.mk hbv3
        clear hk3 hbv3 HPA HR4 HLM hc4 had k0 k1 k2 k3 k4 b0 b1 b2 b3 b4 b5 b6 b7 b8 b9 d0 d1 d2 d3 d4 f1 f2 f3 f4 f5 f6 f7
        obtain ⟨b0, b1, b2, b3, b4, b5, b6, b7, b8, b9⟩ := cells10 HG3.out
        obtain ⟨d0, d1, d2, d3, d4⟩ := cells5 HB3.out
        have r0 := blk_frozen HB3.out 0
        have r1 := blk_frozen HB3.out 1
        have r2 := blk_frozen HB3.out 2
        have r3 := blk_frozen HB3.out 3
        have r4 := blk_frozen HB3.out 4
        by_cases ht : T.k p = 13
        · have hq : (T.k p != 13) = false := by simp [ht]
          obtain ⟨p5, ⟨e0, e1, e2, e3, e4⟩, ⟨A9, c9, hp9⟩, hnx⟩ := Lp_tag T HL.out hN hp ht HS3.out (by omega) HK4.out hg hsz hsz HB3.out HV4.out HG3.out
          obtain ⟨L9, hL9⟩ : ∃ L9, (T.kids (T.push p u)).length = L9 := ⟨_, rfl⟩
          rw [hL9] at hp9
          subst hp9
          obtain ⟨hgb, okq, hlq⟩ := hnx _ rfl
          have hgw := (blk_cell hgb 1).trans (rfl : _ = some (Value.slice (some ⟨go, 0, none⟩) (i + 1) cap))
          have hgf := blk_frozen hgb 1
          have HLQ := Aside0.mk hlq
          have hle1 : i ≤ i + 1 := Nat.le_succ i
          clear hgb hlq hnx
          simp only [ht] at e0 hgw hgf HLQ
          go_wp2
          go_roundw
          case rel => exact ⟨ys.take i, T.push p u, _, okq, _, i, by go_num, by rw [List.length_take]; omega, by omega, HLQ⟩
          case measure => simp [intOf]
        · have hq : (T.k p != 13) = true := by simp [ht]
          obtain ⟨oki3, cc3, hcl3, hM3, hcc3, hfr3, hoki3, hH3⟩ := Kd.S_elem HS3.out T.z (i : Int) (by omega) (by omega)
          simp only [Int.toNat_natCast] at hM3 hcc3
          rw [T.size5] at hcc3
          rw [getD_set ys i (by omega)] at hM3
          obtain ⟨p5, hc3, hR5⟩ := T.openM hM3
          rw [T.push_k] at hc3
          have e0 := hcc3 0 _ (by rw [hc3]; rfl)
          rw [Nat.add_zero] at e0
          clear hM3 hcc3 hfr3 hoki3 hH3 hR5 hc3 hcl3
          go_wp2
          refine bodyPost_ret (results_none rfl _ _ _) rfl ?_
          exact ⟨rfl, St_open T hN hp ht HL.out.same HS3.out HK4.out hg hsz HV4.out HG3.out, HK4.out⟩
end
end Go.Proofs.Ytcgpfclmcajekaa.Bld
