-- Out of texts of this seat by a program of this session: what the claim does not reach is struck
import Derived.Test.YtcgpfclmcajekaaZBr
namespace Go.Proofs.Ytcgpfclmcajekaa.Bld
open Go Go.RowKit Go.Shelf Go.Proofs.Ytcgpfclmcajekaa.Each Go.Proofs.YtcgpfclmcajekaaW.PrintWords Go.Proofs.YtcgpfclmcajekaaW.PrintLast
set_option linter.unusedVariables false
set_option linter.unusedSimpArgs false
section
variable {S : Type} (T : Mk S)
theorem info72 : (Try.prog.info? 72).map (fun i => (i.zero, i.size, i.bytes)) = some (some (.agg #[.int .i64 0, .bool false, .int .u64 0, .string ⟨#[]⟩, .slice none 0 0]), 5, 64) := by kernel_rfl
theorem o_alloc_drew (w : World) (o : Obj) : (w.alloc o).drew = w.drew.alloc o := rfl
theorem o_no42 (e : Nat) (he : e ≠ 42) : ∀ q, q ∈ e :: T.D.E → q ≠ 42 := by
  rw [T.E1]; intro q hq
  simp only [List.mem_cons, List.not_mem_nil, or_false] at hq
  rcases hq with rfl | rfl
  · exact he
  · decide
theorem St_push {g n0 : Nat} {A B : World} {b : BS S} {x : S} {vo v4 v1 : Value} (hg : n0 ≤ g) (hs : n0 ≤ A.heap.size) (hw : b.whole = false) (hblk : A.heap[g]? = some (.cells (cells T vo v4 b) 42 (0, 0)))
    (hvo : Kd.S T.D 72 A n0 (fun _ => True) vo b.open_.reverse) (hbv : T.D.R 25 A n0 (fun _ => b.whole = true) v4 (T.kids b.v)) (h1 : Kd.S T.D 72 B n0 (fun _ => True) v1 (b.open_.reverse ++ [x])) (hgr : A.grownBy B vo.ownBlock) :
    St T g n0 (B.setCell ⟨g, 1, none⟩ v1) { b with open_ := x :: b.open_ } ∧ Ke n0 A (B.setCell ⟨g, 1, none⟩ v1) := by
  have hbB := blk_grown hblk hgr (Kd.S_ne hvo hblk (by decide))
  have hk : Ke n0 A (B.setCell ⟨g, 1, none⟩ v1) := (Ke.grown hgr hs (fun k hk => by
    obtain ⟨cc, h⟩ := Kd.S_typed hvo k hk
    exact ⟨Kd.S_base hvo k hk, cc, 72, .inr (.inr rfl), h⟩)).trans (Ke.set hbB hg 1 v1)
  refine ⟨⟨⟨v1, v4, ?_, ?_, ?_⟩, hg, Nat.le_trans hs hk.below.size⟩, hk⟩
  · rw [blk_set hbB 1 v1]; simp [cells]
  · rw [List.reverse_cons]
    exact Kd.S_set h1 hbB (o_no42 T 72 (by decide)) 1 v1
  · show T.D.R 25 _ n0 (fun _ => b.whole = true) v4 (T.kids b.v)
    exact Kd.R_step (w := B) (Kd.R_step hbv (fun k hk _ => by rw [hw] at hk; exact absurd hk (by decide))) (fun k hk _ => by rw [hw] at hk; exact absurd hk (by decide))
set_option maxRecDepth 100000 in
set_option maxHeartbeats 4000000 in
theorem open_calls (g n0 bb : Nat) (W : World) (b : BS S) (a : Int) (ng : Bool) (c : Int) (d : ByteArray) (hst : St T g n0 W b) (hw : b.whole = false) (hlen : b.open_.length ≤ 1048576) (hbb : W.heap[bb]? = some (.cells #[.pointer (some ⟨g, 0, none⟩)] 39 (0, 0))) :
    Calls Try.prog 39 #[.agg #[.int .i64 a, .bool ng, .int .u64 c, .string d, .slice none 0 0], .pointer (some ⟨bb, 0, none⟩)] W fun e W' => e = .returned (.tuple #[]) ∧ St T g n0 W' { b with open_ := T.ev a ng c d :: b.open_ } ∧ Ke n0 W W' := by
  obtain ⟨vo, v4, hblk, hS, hbv⟩ := hst.data
  obtain ⟨A0, c0, hvo⟩ := Kd.S_slice hS
  obtain ⟨N0, hN0⟩ : ∃ N0, b.open_.reverse.length = N0 := ⟨_, rfl⟩
  rw [hN0] at hvo
  subst hvo
  have hl : N0 ≤ 1048576 := by rw [← hN0]; simpa using hlen
  obtain ⟨W1, hW1⟩ : ∃ W1, W.alloc (.cells #[.int .i64 a, .bool ng, .int .u64 c, .string d, .slice none 0 0] 25) = W1 := ⟨_, rfl⟩
  have hb1 : Below W.heap.size W W1 := by rw [← hW1]; exact below_alloc (Below.refl _ _) _
  have hx1 : W1.heap[W.heap.size]? = some (.cells #[.int .i64 a, .bool ng, .int .u64 c, .string d, .slice none 0 0] 25 (0, 0)) := by rw [← hW1]; exact blk_new W _
  have hg1 := (hb1.block g (blk_lt hblk)).trans hblk
  have hS1 := Kd.S_below hS hb1
  have hv1 := Kd.R_below hbv hb1
  have hbb1 := (hb1.block bb (blk_lt hbb)).trans hbb
  have hp1 := (blk_cell hbb1 0).trans (rfl : _ = some (Value.pointer (some ⟨g, 0, none⟩)))
  have HBB := Aside0.mk (blk_drew hbb1)
  have hs1 : n0 ≤ W1.drew.heap.size := Nat.le_trans hst.size hb1.size
  have hg1' := hg1
  rw [cells] at hg1'
  have hq1 := (blk_cell hg1' 1).trans (rfl : _ = some (Value.slice A0 N0 c0))
  obtain ⟨d0, d1, d2, d3, d4⟩ := gcells5 hx1
  have hal := blk_alloc hg1' (.cells #[.int .i64 a, .bool ng, .int .u64 c, .string d, .slice none 0 0] 72)
  have hq2 := (blk_cell hal 1).trans (rfl : _ = some (Value.slice A0 N0 c0))
  have hp2 : (W1.alloc (.cells #[.int .i64 a, .bool ng, .int .u64 c, .string d, .slice none 0 0] 72)).cell? ⟨bb, 0, none⟩ = some (.pointer (some ⟨g, 0, none⟩)) := ((below_alloc (Below.refl _ _) _).cell (World.block_lt_of_cell? _ _ hp1)).trans hp1
  have HG := Aside0.mk (blk_drew hg1)
  have HS := Aside0.mk (Kd.S_drew hS1)
  have HV := Aside0.mk (Kd.R_drew hv1)
  have HP := Aside0.mk hp1
  have HE := Aside0.mk (ev_M T W1.drew n0 a ng c d)
  have HK := Aside0.mk (show Ke n0 W W1.drew from Ke.of_below hst.size (hb1.trans ((below_drew (Below.refl _ _)).mono hb1.size)))
  have hgn := hst.base
  clear hblk hS hbv hb1 hx1 hg1 hS1 hv1 hal hg1' hst hbb hbb1
  go_enter Try.func39, Try.ntmps39
  go_wp2
  try rw [hW1]
  go_region_law (first
    | (rw [o_alloc_drew]
       refine Kd.S_append_step T.D (w0 := W1.drew) (W := W1.drew) n0 rfl (.tmp 7) (.tmp 10) 40 72 (.agg #[.int .i64 0, .bool false, .int .u64 0, .string ⟨#[]⟩, .slice none 0 0]) 64 rfl Try.underlying40 (by rw [T.size5]; exact info72) (by rw [T.size5]; rfl) (by rw [T.size5]; decide) (by decide) (.slice A0 N0 c0) b.open_.reverse (T.ev a ng c d) [.int .i64 a, .bool ng, .int .u64 c, .string d, .slice none 0 0] (fun _ => True) (fun _ => False) (by simp [Act.eval, Act.put]) (by simp [Act.eval, Act.put]) HE.out (fun _ h => h.elim) (fun _ _ => trivial) (Kd.S_mono HS.out (fun _ _ => ⟨trivial, fun h => h⟩)) (Below.refl _ _) hs1 (by rw [hN0]; omega) ?_
       intro v1 w5 hR1 hB1 hgr hat1
       obtain ⟨A5, c5, hv5⟩ := Kd.S_slice hR1
       obtain ⟨n5, hn5⟩ : ∃ n5, (b.open_.reverse ++ [T.ev a ng c d]).length = n5 := ⟨_, rfl⟩
       rw [hn5] at hv5
       subst hv5
       have hbB := blk_grown HG.out hgr (Kd.S_ne HS.out HG.out (by decide))
       rw [cells] at hbB
       have hzb := (blk_cell (blk_grown HBB.out hgr (Kd.S_ne HS.out HBB.out (by decide))) 0).trans (rfl : _ = some (Value.pointer (some ⟨g, 0, none⟩)))
       have hz1 := (blk_cell hbB 1).trans (rfl : _ = some (Value.slice A0 N0 c0))
       have hz2 := blk_frozen hbB 1
       obtain ⟨hst1, hke1⟩ := St_push T hgn hs1 hw HG.out HS.out HV.out hR1 hgr
       have HST := Aside0.mk hst1
       have HKE := Aside0.mk hke1
       clear hR1 hB1 hgr hat1 hbB hst1 hke1))
  all_goals
    go_wp2
    refine bodyPost_end (results_none rfl _ _ _) rfl ?_
    exact ⟨rfl, HST.out, HK.out.trans HKE.out⟩
end
end Go.Proofs.Ytcgpfclmcajekaa.Bld
