-- Out of texts of this seat by a program of this session: what the claim does not reach is struck
import Derived.Test.YtcgpfclmcajekaaZBo
import Derived.Test.YtcgpfclmcajekaaZBa
namespace Go.Proofs.Ytcgpfclmcajekaa.Bld
open Go Go.RowKit Go.Shelf Go.Proofs.Ytcgpfclmcajekaa.Each Go.Proofs.YtcgpfclmcajekaaW.PrintWords Go.Proofs.YtcgpfclmcajekaaW.PrintLast
set_option linter.unusedVariables false
set_option linter.unusedSimpArgs false
section
variable {S : Type} (T : Mk S)
set_option maxRecDepth 100000 in
set_option maxHeartbeats 4000000 in
theorem close_none (g n0 : Nat) (W : World) (b : BS S) (a : Int) (ng : Bool) (c : Int) (d : ByteArray) (hst : St T g n0 W b) (ho : b.open_ = []) :
    Calls Try.prog 35 #[.pointer (some ⟨g, 0, none⟩), .agg #[.int .i64 a, .bool ng, .int .u64 c, .string d]] W fun e W' => e = .returned (.int .i64 4) ∧ Below W.heap.size W W' := by
  obtain ⟨vo, v4, hblk, hS, hbv⟩ := hst.data
  obtain ⟨A0, c0, hvo⟩ := Kd.S_slice hS
  rw [ho] at hvo
  subst hvo
  rw [cells] at hblk
  have hb1 := blk_alloc hblk (.cells #[.int .i64 a, .bool ng, .int .u64 c, .string d] 37)
  have hq1 := (blk_cell hb1 1).trans (rfl : _ = some (Value.slice A0 ([] : List S).reverse.length c0))
  simp only [List.reverse_nil, List.length_nil] at hq1
  have hm : IntKind.i64.wrap ((0 : Int) - 1) = -1 := by decide
  clear hblk hS hbv hb1 hst
  go_enter Try.func35, Try.ntmps35
  go_wp2
  go_ret
  exact ⟨rfl, below_alloc (Below.refl _ _) _⟩
theorem top_cells {g n0 : Nat} {W : World} {b : BS S} {p : S} {ps : List S} (hst : St T g n0 W b) (ho : b.open_ = p :: ps) :
    ∃ go cap v4 p4 oki, W.heap[g]? = some (.cells (cells T (.slice (some ⟨go, 0, none⟩) (ps.length + 1) cap) v4 b) 42 (0, 0)) ∧ ps.length + 1 ≤ cap ∧
      (∃ cur, W.heap[go]? = some (.cells cur 72 (0, 0))) ∧
      (W.cell? ⟨go, ps.length * 5, none⟩ = some (.int .i64 (T.k p)) ∧ W.cell? ⟨go, ps.length * 5 + 1, none⟩ = some (.bool (T.neg p)) ∧ W.cell? ⟨go, ps.length * 5 + 2, none⟩ = some (.int .u64 (T.n p)) ∧ W.cell? ⟨go, ps.length * 5 + 3, none⟩ = some (.string (T.s p)) ∧ W.cell? ⟨go, ps.length * 5 + 4, none⟩ = some p4) ∧
      (∃ A c, p4 = .slice A (T.kids p).length c) ∧ T.D.R 25 W n0 oki p4 (T.kids p) ∧ (∀ k, oki k → k < W.heap.size ∧ k ≠ g) ∧
      Kd.S T.D 72 W n0 (fun k => True ∧ ¬ oki k) (.slice (some ⟨go, 0, none⟩) ps.length cap) ps.reverse ∧ T.D.R 25 W n0 (fun _ => b.whole = true) v4 (T.kids b.v) := by
  obtain ⟨vo, v4, hblk, hS, hbv⟩ := hst.data
  rw [ho, List.reverse_cons] at hS
  have hlen : (ps.reverse ++ [p]).length = ps.length + 1 := by simp
  obtain ⟨go, cap, hvo, hgb, hgl, hgt⟩ := Kd.S_form hS (by omega)
  rw [hlen] at hvo
  subst hvo
  obtain ⟨oki, cc, hcl, hM, hcc, hfr, hoki, hH⟩ := Kd.S_elem hS T.z (ps.length : Int) (by omega) (by omega)
  simp only [Int.toNat_natCast] at hM hcc
  rw [T.size5] at hcc
  have hgd : (ps.reverse ++ [p]).getD ps.length T.z = p := by
    rw [List.getD_eq_getElem?_getD, List.getElem?_append_right (by simp)]; simp
  rw [hgd] at hM
  obtain ⟨p4, hc, hR⟩ := T.openM hM
  obtain ⟨A, c, hp4⟩ := Kd.R_slice hR
  have e0 := hcc 0 _ (by rw [hc]; rfl)
  rw [Nat.add_zero] at e0
  have hcap := (Kd.S_reads' hS).2.1
  have hS2 := H_take hH (m := ps.length) (by rw [hlen]; omega) (by simp)
  rw [show (ps.reverse ++ [p]).take ps.length = ps.reverse by rw [List.take_append_of_le_length (by simp), List.take_of_length_le (by simp)]] at hS2
  refine ⟨go, cap, v4, p4, fun k => oki k ∧ k < W.heap.size ∧ k ≠ g, hblk, hcap, hgt, ⟨e0, hcc 1 _ (by rw [hc]; rfl), hcc 2 _ (by rw [hc]; rfl), hcc 3 _ (by rw [hc]; rfl), hcc 4 _ (by rw [hc]; rfl)⟩, ⟨A, c, hp4⟩, ?_, fun k hk => hk.2, ?_, hbv⟩
  · exact Kd.R_mono (Kd.R_types (Kd.R_bound hR) hblk (o_no42 T 25 (by decide))) (fun k hk => ⟨hk.1.1, hk.1.2.2.1, hk.2⟩)
  · exact Kd.S_mono hS2 (fun k hk => ⟨trivial, fun h => hk.2 h.1⟩)
set_option maxRecDepth 100000 in
set_option maxHeartbeats 8000000 in
theorem close_end (g n0 : Nat) (W : World) (b : BS S) (p : S) (ps : List S) (hst : St T g n0 W b) (hw : b.whole = false) (ho : b.open_ = p :: ps) (h13 : T.k p ≠ 13) (hkey : ¬ (T.k p = 12 ∧ (T.kids p).length % 2 = 1))
    (hlim : ∀ x, x ∈ b.open_ → (T.kids x).length ≤ 1048576) (hlen : b.open_.length ≤ 1048576) :
    Calls Try.prog 35 #[.pointer (some ⟨g, 0, none⟩), .agg #[.int .i64 15, .bool false, .int .u64 0, .string ⟨#[]⟩]] W fun e W' => e = .returned (.int .i64 0) ∧ St T g n0 W' (addB T { b with open_ := ps } p) ∧ Ke n0 W W' := by
  obtain ⟨W1, hW1⟩ : ∃ W1, W.alloc (.cells #[.int .i64 15, .bool false, .int .u64 0, .string ⟨#[]⟩] 37) = W1 := ⟨_, rfl⟩
  have hb1 : Below W.heap.size W W1 := by rw [← hW1]; exact below_alloc (Below.refl _ _) _
  have hx1 : W1.heap[W.heap.size]? = some (.cells #[.int .i64 15, .bool false, .int .u64 0, .string ⟨#[]⟩] 37 (0, 0)) := by rw [← hW1]; exact blk_new W _
  have hst1 := hst.below T hb1
  obtain ⟨go, cap, v4, p4, oki, hblk, hcap, ⟨cur, hcur⟩, ⟨e0, e1, e2, e3, e4⟩, ⟨A4, c4, hp4⟩, hR, hoki, hS, hbv⟩ := top_cells T hst1 ho
  obtain ⟨i, hi⟩ : ∃ i, ps.length = i := ⟨_, rfl⟩
  obtain ⟨L4, hL4⟩ : ∃ L4, (T.kids p).length = L4 := ⟨_, rfl⟩
  rw [hi] at hblk hcap e0 e1 e2 e3 e4 hS
  rw [hL4] at hp4 hkey
  subst hp4
  have hle : i + 1 ≤ 1048576 := by rw [ho, List.length_cons, hi] at hlen; exact hlen
  have hLl : L4 ≤ 1048576 := by rw [← hL4]; exact hlim p (by rw [ho]; simp)
  have hblk0 := hblk
  rw [cells] at hblk
  obtain ⟨b0, b1, b2, b3, b4, b5, b6, b7, b8, b9⟩ := gcells10 hblk
  have d0 := (blk_cell hx1 0).trans (rfl : _ = some (Value.int .i64 15))
  have d1 := (blk_cell hx1 1).trans (rfl : _ = some (Value.bool false))
  have d2 := (blk_cell hx1 2).trans (rfl : _ = some (Value.int .u64 0))
  have d3 := (blk_cell hx1 3).trans (rfl : _ = some (Value.string ⟨#[]⟩))
  have hq13 : (T.k p == 13) = false := by simp [h13]
  have hsub : IntKind.i64.wrap (((i + 1 : Nat) : Int) - 1) = (i : Int) := by rw [i64_w]; unfold wrap64; omega
  have hsub2 : IntKind.i64.wrap ((i : Int) + 1 - 1) = (i : Int) := by rw [i64_w]; unfold wrap64; omega
  have HKC := Aside0.mk (fun W => keyed_calls (T.k p) (T.neg p) (T.n p) (T.s p) A4 L4 c4 W (by omega))
  have hkd : decide (T.k p = 12 ∧ L4 % 2 = 1) = false := decide_eq_false hkey
  have HB0 := Aside0.mk hblk0
  have HR := Aside0.mk hR
  have HS := Aside0.mk hS
  have HV := Aside0.mk hbv
  have HCU := Aside0.mk hcur
  have HK1 := Aside0.mk (Ke.of_below hst.size hb1)
  have hs1 := hst1.size
  have hnn : ¬ ((i : Int) < 0) := by omega
  clear hblk hblk0 hR hS hbv hcur hb1 hx1 hst1 hkey
  go_enter Try.func35, Try.ntmps35
  go_wp2_with (first
    | (go_at_call 52; refine (HKC.out _).mono ?_; rintro e W2 ⟨rfl, hb⟩
       have hg2 := (hb.block g (blk_lt HB0.out)).trans HB0.out
       have hg3 := blk_alloc hg2 (.cells #[.int .i64 (T.k p), .bool (T.neg p), .int .u64 (T.n p), .string (T.s p), .slice A4 L4 c4] 25)
       have e0' := (hb.cell (World.block_lt_of_cell? _ _ e0)).trans e0
       have e1' := (hb.cell (World.block_lt_of_cell? _ _ e1)).trans e1
       have e2' := (hb.cell (World.block_lt_of_cell? _ _ e2)).trans e2
       have e3' := (hb.cell (World.block_lt_of_cell? _ _ e3)).trans e3
       have e4' := (hb.cell (World.block_lt_of_cell? _ _ e4)).trans e4
       have hgx : ((W2.alloc (.cells #[.int .i64 (T.k p), .bool (T.neg p), .int .u64 (T.n p), .string (T.s p), .slice A4 L4 c4] 25)).setCell ⟨g, 1, none⟩ (.slice (some ⟨go, 0, none⟩) i cap)).heap[g]? = some (.cells (cells T (.slice (some ⟨go, 0, none⟩) i cap) v4 { b with open_ := ps }) 42 (0, 0)) := by
         rw [blk_set hg3 1 _]; simp [cells]
       have hba := hb.trans ((below_alloc (Below.refl W2.heap.size W2) (.cells #[.int .i64 (T.k p), .bool (T.neg p), .int .u64 (T.n p), .string (T.s p), .slice A4 L4 c4] 25)).mono hb.size)
       have hSx := Kd.S_set (Kd.S_below HS.out hba) hg3 (o_no42 T 72 (by decide)) 1 (.slice (some ⟨go, 0, none⟩) i cap)
       have hRx := Kd.R_set (Kd.R_below HR.out hba) hg3 (o_no42 T 25 (by decide)) 1 (.slice (some ⟨go, 0, none⟩) i cap)
       have hVx := Kd.R_set (Kd.R_below HV.out hba) hg3 (o_no42 T 25 (by decide)) 1 (.slice (some ⟨go, 0, none⟩) i cap)
       have hkx : Ke n0 W ((W2.alloc (.cells #[.int .i64 (T.k p), .bool (T.neg p), .int .u64 (T.n p), .string (T.s p), .slice A4 L4 c4] 25)).setCell ⟨g, 1, none⟩ (.slice (some ⟨go, 0, none⟩) i cap)) := (HK1.out.trans (Ke.of_below hs1 hba)).trans (Ke.set hg3 hst.base 1 _)
       have HADD := Aside0.mk (add_calls T g n0 _ { b with open_ := ps } p [.int .i64 (T.k p), .bool (T.neg p), .int .u64 (T.n p), .string (T.s p), .slice A4 L4 c4] oki (.slice (some ⟨go, 0, none⟩) i cap) v4 hw hgx hVx hSx (T.mkM _ _ _ _ hRx) hst.base (Nat.le_trans hst.size hkx.below.size) (fun x hx => hlim x (by rw [ho]; exact List.mem_cons_of_mem _ hx)) (by show ps.length ≤ 1048576; omega))
       have HKX := Aside0.mk hkx
       rw [cells] at hg2 hg3
       have q1 := (blk_cell hg2 1).trans (rfl : _ = some (Value.slice (some ⟨go, 0, none⟩) (i + 1) cap))
       have q3 := (blk_cell hg3 1).trans (rfl : _ = some (Value.slice (some ⟨go, 0, none⟩) (i + 1) cap))
       have q3f := blk_frozen hg3 1
       have hic : i ≤ cap := by omega
       have hbx := (Below.heap_setCell (W2.alloc (.cells #[.int .i64 (T.k p), .bool (T.neg p), .int .u64 (T.n p), .string (T.s p), .slice A4 L4 c4] 25)) ⟨g, 1, none⟩ (.slice (some ⟨go, 0, none⟩) i cap) W2.heap.size (by have := blk_lt hg2; show W2.heap.size ≠ g; omega)).trans (blk_new W2 (.cells #[.int .i64 (T.k p), .bool (T.neg p), .int .u64 (T.n p), .string (T.s p), .slice A4 L4 c4] 25))
       obtain ⟨z0, z1, z2, z3, z4⟩ := gcells5 hbx
       clear hb hg2 hg3 hgx hba hSx hRx hVx hkx hbx)
    | (go_at_call 38; with_reducible refine HADD.out.mono ?_; rintro e W5 ⟨rfl, hs5, hk5⟩; have HS5 := Aside0.mk hs5; have HK5 := Aside0.mk (HKX.out.trans hk5); clear hs5 hk5))
  go_ret
  exact ⟨rfl, HS5.out, HK5.out⟩
set_option maxRecDepth 100000 in
set_option maxHeartbeats 8000000 in
theorem close_bad (g n0 : Nat) (W : World) (b : BS S) (p : S) (ps : List S) (hst : St T g n0 W b) (ho : b.open_ = p :: ps) (hbad : T.k p = 13 ∨ (T.k p = 12 ∧ (T.kids p).length % 2 = 1))
    (hlim : ∀ x, x ∈ b.open_ → (T.kids x).length ≤ 1048576) (hlen : b.open_.length ≤ 1048576) :
    Calls Try.prog 35 #[.pointer (some ⟨g, 0, none⟩), .agg #[.int .i64 15, .bool false, .int .u64 0, .string ⟨#[]⟩]] W fun e W' => e = .returned (.int .i64 4) ∧ Below W.heap.size W W' := by
  obtain ⟨W1, hW1⟩ : ∃ W1, W.alloc (.cells #[.int .i64 15, .bool false, .int .u64 0, .string ⟨#[]⟩] 37) = W1 := ⟨_, rfl⟩
  have hb1 : Below W.heap.size W W1 := by rw [← hW1]; exact below_alloc (Below.refl _ _) _
  have hx1 : W1.heap[W.heap.size]? = some (.cells #[.int .i64 15, .bool false, .int .u64 0, .string ⟨#[]⟩] 37 (0, 0)) := by rw [← hW1]; exact blk_new W _
  have hst1 := hst.below T hb1
  obtain ⟨go, cap, v4, p4, oki, hblk, hcap, ⟨cur, hcur⟩, ⟨e0, e1, e2, e3, e4⟩, ⟨A4, c4, hp4⟩, hR, hoki, hS, hbv⟩ := top_cells T hst1 ho
  obtain ⟨i, hi⟩ : ∃ i, ps.length = i := ⟨_, rfl⟩
  obtain ⟨L4, hL4⟩ : ∃ L4, (T.kids p).length = L4 := ⟨_, rfl⟩
  rw [hi] at hblk hcap e0 e1 e2 e3 e4 hS
  rw [hL4] at hp4 hbad
  subst hp4
  have hle : i + 1 ≤ 1048576 := by rw [ho, List.length_cons, hi] at hlen; exact hlen
  have hLl : L4 ≤ 1048576 := by rw [← hL4]; exact hlim p (by rw [ho]; simp)
  have hblk0 := hblk
  rw [cells] at hblk
  obtain ⟨b0, b1, b2, b3, b4, b5, b6, b7, b8, b9⟩ := gcells10 hblk
  have d0 := (blk_cell hx1 0).trans (rfl : _ = some (Value.int .i64 15))
  have d1 := (blk_cell hx1 1).trans (rfl : _ = some (Value.bool false))
  have d2 := (blk_cell hx1 2).trans (rfl : _ = some (Value.int .u64 0))
  have d3 := (blk_cell hx1 3).trans (rfl : _ = some (Value.string ⟨#[]⟩))
  have hsub : IntKind.i64.wrap (((i + 1 : Nat) : Int) - 1) = (i : Int) := by rw [i64_w]; unfold wrap64; omega
  have hsub2 : IntKind.i64.wrap ((i : Int) + 1 - 1) = (i : Int) := by rw [i64_w]; unfold wrap64; omega
  have HKC := Aside0.mk (fun W => keyed_calls (T.k p) (T.neg p) (T.n p) (T.s p) A4 L4 c4 W (by omega))
  have HB1 := Aside0.mk hb1
  have HB0 := Aside0.mk hblk0
  have HR := Aside0.mk hR
  have HS := Aside0.mk hS
  have HV := Aside0.mk hbv
  have HCU := Aside0.mk hcur
  have HK1 := Aside0.mk (Ke.of_below hst.size hb1)
  have hs1 := hst1.size
  have hnn : ¬ ((i : Int) < 0) := by omega
  clear hblk hblk0 hR hS hbv hcur hb1 hx1 hst1
  by_cases h13 : T.k p = 13
  · have hq13 : (T.k p == 13) = true := by simp [h13]
    clear HKC
    go_enter Try.func35, Try.ntmps35
    go_wp2
    go_ret
    exact ⟨rfl, HB1.out⟩
  · have hq13 : (T.k p == 13) = false := by simp [h13]
    have hkd : decide (T.k p = 12 ∧ L4 % 2 = 1) = true := decide_eq_true (hbad.resolve_left h13)
    rw [hkd] at HKC
    go_enter Try.func35, Try.ntmps35
    go_wp2_with (go_at_call 52; refine (HKC.out _).mono ?_; rintro e W2 ⟨rfl, hb⟩; have HB2 := Aside0.mk (HB1.out.trans (hb.mono HB1.out.size)); clear hb)
    go_ret
    exact ⟨rfl, HB2.out⟩
theorem empty_list (t : ByteArray) : t.toList = [] ↔ t.size = 0 := by
  rw [show t.toList = t.data.toList from ByteArray.toList_eq t, ← List.length_eq_zero_iff, data_length]
set_option maxRecDepth 100000 in
set_option maxHeartbeats 8000000 in
theorem close_not (g n0 : Nat) (W : World) (b : BS S) (a : Int) (ng : Bool) (c : Int) (d : ByteArray) (hne : ¬ (a = 15 ∧ ng = false ∧ c = 0 ∧ d = ⟨#[]⟩)) (p : S) (ps : List S) (hst : St T g n0 W b) (ho : b.open_ = p :: ps)
    (hlim : ∀ x, x ∈ b.open_ → (T.kids x).length ≤ 1048576) (hlen : b.open_.length ≤ 1048576) :
    Calls Try.prog 35 #[.pointer (some ⟨g, 0, none⟩), .agg #[.int .i64 a, .bool ng, .int .u64 c, .string d]] W fun e W' => e = .returned (.int .i64 4) ∧ Below W.heap.size W W' := by
  obtain ⟨W1, hW1⟩ : ∃ W1, W.alloc (.cells #[.int .i64 a, .bool ng, .int .u64 c, .string d] 37) = W1 := ⟨_, rfl⟩
  have hb1 : Below W.heap.size W W1 := by rw [← hW1]; exact below_alloc (Below.refl _ _) _
  have hx1 : W1.heap[W.heap.size]? = some (.cells #[.int .i64 a, .bool ng, .int .u64 c, .string d] 37 (0, 0)) := by rw [← hW1]; exact blk_new W _
  have hst1 := hst.below T hb1
  obtain ⟨go, cap, v4, p4, oki, hblk, hcap, ⟨cur, hcur⟩, ⟨e0, e1, e2, e3, e4⟩, ⟨A4, c4, hp4⟩, hR, hoki, hS, hbv⟩ := top_cells T hst1 ho
  obtain ⟨i, hi⟩ : ∃ i, ps.length = i := ⟨_, rfl⟩
  obtain ⟨L4, hL4⟩ : ∃ L4, (T.kids p).length = L4 := ⟨_, rfl⟩
  rw [hi] at hblk hcap e0 e1 e2 e3 e4 hS
  rw [hL4] at hp4
  subst hp4
  have hle : i + 1 ≤ 1048576 := by rw [ho, List.length_cons, hi] at hlen; exact hlen
  have hLl : L4 ≤ 1048576 := by rw [← hL4]; exact hlim p (by rw [ho]; simp)
  have hblk0 := hblk
  rw [cells] at hblk
  obtain ⟨b0, b1, b2, b3, b4, b5, b6, b7, b8, b9⟩ := gcells10 hblk
  have d0 := (blk_cell hx1 0).trans (rfl : _ = some (Value.int .i64 a))
  have d1 := (blk_cell hx1 1).trans (rfl : _ = some (Value.bool ng))
  have d2 := (blk_cell hx1 2).trans (rfl : _ = some (Value.int .u64 c))
  have d3 := (blk_cell hx1 3).trans (rfl : _ = some (Value.string d))
  have hsub : IntKind.i64.wrap (((i + 1 : Nat) : Int) - 1) = (i : Int) := by rw [i64_w]; unfold wrap64; omega
  have hsub2 : IntKind.i64.wrap ((i : Int) + 1 - 1) = (i : Int) := by rw [i64_w]; unfold wrap64; omega
  have HKC := Aside0.mk (fun W => keyed_calls (T.k p) (T.neg p) (T.n p) (T.s p) A4 L4 c4 W (by omega))
  have HB1 := Aside0.mk hb1
  have HB0 := Aside0.mk hblk0
  have HR := Aside0.mk hR
  have HS := Aside0.mk hS
  have HV := Aside0.mk hbv
  have HCU := Aside0.mk hcur
  have HK1 := Aside0.mk (Ke.of_below hst.size hb1)
  have hs1 := hst1.size
  have hnn : ¬ ((i : Int) < 0) := by omega
  clear hblk hblk0 hR hS hbv hcur hb1 hx1 hst1
  clear HKC
  by_cases ha : a = 15
  · subst ha
    cases ng with
    | true =>
      go_enter Try.func35, Try.ntmps35
      go_wp2
      all_goals (go_ret; exact ⟨rfl, HB1.out⟩)
    | false =>
      by_cases hc : c = 0
      · subst hc
        have hd : ¬ d = ⟨#[]⟩ := fun h => hne ⟨rfl, rfl, rfl, h⟩
        have hdl : ¬ d.toList = [] := fun h => hd (by
          have h2 := (empty_list d).1 h
          obtain ⟨x⟩ := d
          congr 1
          exact Array.eq_empty_of_size_eq_zero h2)
        have hdl2 : (d.toList == []) = false := by simp [hdl]
        go_enter Try.func35, Try.ntmps35
        go_wp2
        all_goals (go_ret; exact ⟨rfl, HB1.out⟩)
      · have hq : (c == 0) = false := by simp [hc]
        go_enter Try.func35, Try.ntmps35
        go_wp2
        all_goals (go_ret; exact ⟨rfl, HB1.out⟩)
  · have hq : (a == 15) = false := by simp [ha]
    go_enter Try.func35, Try.ntmps35
    go_wp2
    all_goals (go_ret; exact ⟨rfl, HB1.out⟩)
end
end Go.Proofs.Ytcgpfclmcajekaa.Bld
