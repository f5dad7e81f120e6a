-- Out of texts of this seat by a program of this session: what the claim does not reach is struck
import Derived.Test.YtcgpfclmcajekaaZCount
namespace Go.Proofs.Ytcgpfclmcajekaa.Each
open Go Go.RowKit Go.Shelf Go.Proofs.YtcgpfclmcajekaaW.PrintWords Go.Proofs.YtcgpfclmcajekaaW.PrintLast
attribute [local go_sem] Oper.semAt_some
set_option linter.unusedVariables false
set_option linter.unusedSimpArgs false
theorem results_cell1 {fn : Func} {p : Tmp} {ty : TypeId} (h : fn.results = #[.cell p ty]) (tmps : Array Value) (w : World) (g : Nat) (k : IntKind) (v : Int)
    (hp : tmps.getD p undef = .pointer (some ⟨g, 0, none⟩)) (hc : w.cell? ⟨g, 0, none⟩ = some (.int k v)) (hu : Try.prog.underlying ty = some (.int k)) :
    (results fn tmps).run Try.prog w = .ok (.int k v) w := by
  have hp' : tmps[p]?.getD undef = .pointer (some ⟨g, 0, none⟩) := by simpa using hp
  simp [results, h, hp', asAddr, go_sem, hc, isAgg, run_underlying hu]
section
variable {S : Type} (T : Tree S)
def chk (one leaf : S → Option Bool) : List S → Option Int
  | [] => some 0
  | y :: l => (one y).bind fun o => if o = true then (leaf y).bind fun f => if f = true then (if 0 < (T.kids y).length then some 9 else chk one leaf l) else chk one leaf l else some 9
theorem chk_mono (one one' leaf : S → Option Bool) (h : ∀ y, LeO (one y) (one' y)) : ∀ l, LeO (chk T one leaf l) (chk T one' leaf l)
  | [] => LeO.refl _
  | y :: l => by
    simp only [chk]
    refine LeO.bind (h y) fun o => LeO.ite (LeO.bind (LeO.refl _) fun f => LeO.ite (LeO.ite (LeO.refl _) (chk_mono one one' leaf h l)) (chk_mono one one' leaf h l)) (LeO.refl _)
set_option maxRecDepth 100000 in
set_option maxHeartbeats 8000000 in
theorem check_deep (x : S) (cs : List Value) (w : World) (hK : T.D.K w x cs) (d : Int) (hd : 64 < d)
    (hdep : ∀ W, T.D.K W x cs → Calls Try.prog 16 #[.agg cs.toArray] W fun e W' => e = .returned (.int .i64 d) ∧ Below W.heap.size W W') :
    Calls Try.prog 14 #[.agg cs.toArray] w fun e w' => e = .returned (.int .i64 2) ∧ Below w.heap.size w w' := by
  have hK' := hK
  obtain ⟨A4, c4, rfl, hc4, g4⟩ := T.openK hK
  clear hK
  obtain ⟨W1, hW1⟩ : ∃ W1, w.alloc (.cells #[.int .i64 (T.k x), .bool (T.neg x), .int .u64 (T.n x), .string (T.s x), .slice A4 (T.kids x).length c4] 25 (0, 0)) = W1 := ⟨_, rfl⟩
  have hz1 : W1.heap.size = w.heap.size + 1 := by rw [← hW1]; exact World.size_alloc _ _
  have hb1 : Below w.heap.size w W1 := by rw [← hW1]; exact below_alloc (Below.refl _ _) _
  obtain ⟨W2, hW2⟩ : ∃ W2, W1.alloc (.cells #[.int .i64 0] 27 (0, 0)) = W2 := ⟨_, rfl⟩
  have hz2 : W2.heap.size = w.heap.size + 2 := by rw [← hW2, World.size_alloc, hz1]
  have hb2 : Below w.heap.size w W2 := by rw [← hW2]; exact below_alloc hb1 _
  have hr2 : W2.heap[W1.heap.size]? = some (.cells #[.int .i64 0] 27 (0, 0)) := by rw [← hW2]; exact World.alloc_heap_new W1 _
  have hv2 : W2.heap[w.heap.size]? = some (.cells #[.int .i64 (T.k x), .bool (T.neg x), .int .u64 (T.n x), .string (T.s x), .slice A4 (T.kids x).length c4] 25 (0, 0)) := by rw [← hW2, ← hW1]; exact blk_alloc (World.alloc_heap_new w _) _
  obtain ⟨b0, b1, b2, b3, b4⟩ := cells5 hv2
  have HK := Aside0.mk hK'
  have HB2 := Aside0.mk hb2
  have HR2 := Aside0.mk hr2
  have HV2 := Aside0.mk hv2
  have HZ1 := Aside0.mk hz1
  have HZ2 := Aside0.mk hz2
  have HDEP := Aside0.mk hdep
  have hz1' : w.heap.size < W1.heap.size := by omega
  clear hK' hb1 g4 hz1 hb2 hr2 hv2 hz2 hdep
  refine (callsIn_wide (n := 0)).1 ?_
  refine callsIn_of_wp_marks Try.func14 rfl trivial ?_
  simp only [Try.ntmps14, List.size_toArray, List.length_cons, List.length_nil, Nat.reduceAdd, Nat.reduceSub, Array.replicate_succ, Array.replicate_zero, List.push_toArray, List.append_toArray, List.nil_append, List.cons_append]
  have hdb : decide (64 < d) = true := decide_eq_true hd
  gi_wp2_with (refine ⟨trivial, rfl, ?_⟩; gi_at_call 16; refine (callsIn_wide.2 (HDEP.out _ (T.D.K_below HB2.out HK.out))).mono ?_; rintro e W3 ⟨rfl, hb3⟩; have HR3 := Aside0.mk ((hb3.block _ (blk_lt HR2.out)).trans HR2.out); have HB3 := Aside0.mk (HB2.out.trans (hb3.mono HB2.out.size)); have hrc := (blk_cell HR3.out 0).trans (rfl : _ = some (Value.int .i64 0)); have hrf := blk_frozen HR3.out 0; clear hb3)
  refine ⟨trivial, ?_⟩
  gi_wp2
  refine ⟨_, results_cell1 rfl _ _ _ _ _ rfl ((World.cell?_setCell_same' _ _ _ (by rw [hrc]; rfl))) Try.underlying27, rfl, ?_⟩
  exact HB3.out.setCell (p := ⟨W1.heap.size, 0, none⟩) (by show w.heap.size ≤ W1.heap.size; omega) _
set_option maxRecDepth 100000 in
set_option maxHeartbeats 8000000 in
theorem check_calls (x : S) (cs : List Value) (w : World) (hK : T.D.K w x cs) (hlen : T.sz x + 1 ≤ 17592186044416) (d r : Int) (one leaf : S → Option Bool)
    (hdep : ∀ W, T.D.K W x cs → Calls Try.prog 16 #[.agg cs.toArray] W fun e W' => e = .returned (.int .i64 d) ∧ Below W.heap.size W W')
    (hone : ∀ y cs b W, T.D.K W y cs → one y = some b → Calls Try.prog 32 #[.agg cs.toArray] W fun e W' => e = .returned (.bool b) ∧ Below W.heap.size W W')
    (hleaf : ∀ y cs b W, T.D.K W y cs → leaf y = some b → Calls Try.prog 33 #[.agg cs.toArray] W fun e W' => e = .returned (.bool b) ∧ Below W.heap.size W W')
    (h : (if 64 < d then some 2 else if 65536 < wrap64 (T.nodes (T.sz x + 1) [] x).length then some 2 else chk T one leaf ((T.nodes (T.sz x + 1) [] x).map (·.2))) = some r) :
    Calls Try.prog 14 #[.agg cs.toArray] w fun e w' => e = .returned (.int .i64 r) ∧ Below w.heap.size w w' := by
  have hcnt := fun W (hW : T.D.K W x cs) => count_calls T x cs W hW hlen
  obtain ⟨N, hN⟩ : ∃ N, wrap64 (T.nodes (T.sz x + 1) [] x).length = N := ⟨_, rfl⟩
  rw [hN] at h hcnt
  have hK' := hK
  obtain ⟨A4, c4, rfl, hc4, g4⟩ := T.openK hK
  clear hK
  obtain ⟨W1, hW1⟩ : ∃ W1, w.alloc (.cells #[.int .i64 (T.k x), .bool (T.neg x), .int .u64 (T.n x), .string (T.s x), .slice A4 (T.kids x).length c4] 25 (0, 0)) = W1 := ⟨_, rfl⟩
  have hz1 : W1.heap.size = w.heap.size + 1 := by rw [← hW1]; exact World.size_alloc _ _
  have hb1 : Below w.heap.size w W1 := by rw [← hW1]; exact below_alloc (Below.refl _ _) _
  obtain ⟨W2, hW2⟩ : ∃ W2, W1.alloc (.cells #[.int .i64 0] 27 (0, 0)) = W2 := ⟨_, rfl⟩
  have hz2 : W2.heap.size = w.heap.size + 2 := by rw [← hW2, World.size_alloc, hz1]
  have hb2 : Below w.heap.size w W2 := by rw [← hW2]; exact below_alloc hb1 _
  have hr2 : W2.heap[W1.heap.size]? = some (.cells #[.int .i64 0] 27 (0, 0)) := by rw [← hW2]; exact World.alloc_heap_new W1 _
  have hv2 : W2.heap[w.heap.size]? = some (.cells #[.int .i64 (T.k x), .bool (T.neg x), .int .u64 (T.n x), .string (T.s x), .slice A4 (T.kids x).length c4] 25 (0, 0)) := by rw [← hW2, ← hW1]; exact blk_alloc (World.alloc_heap_new w _) _
  obtain ⟨b0, b1, b2, b3, b4⟩ := cells5 hv2
  have HK := Aside0.mk hK'
  have HB2 := Aside0.mk hb2
  have HR2 := Aside0.mk hr2
  have HV2 := Aside0.mk hv2
  have HZ1 := Aside0.mk hz1
  have HZ2 := Aside0.mk hz2
  have HDEP := Aside0.mk hdep
  have HONE := Aside0.mk hone
  have HLEAF := Aside0.mk hleaf
  have HCNT := Aside0.mk hcnt
  have hz1' : w.heap.size < W1.heap.size := by omega
  clear hK' hb1 g4 hz1 hb2 hr2 hv2 hz2 hdep hone hleaf hcnt hN
  by_cases hd : 64 < d
  · rw [if_pos hd] at h
    obtain rfl := Option.some.inj h
    clear h
    refine (callsIn_wide (n := 0)).1 ?_
    refine callsIn_of_wp_marks Try.func14 rfl trivial ?_
    simp only [Try.ntmps14, List.size_toArray, List.length_cons, List.length_nil, Nat.reduceAdd, Nat.reduceSub, Array.replicate_succ, Array.replicate_zero, List.push_toArray, List.append_toArray, List.nil_append, List.cons_append]
    have hdb : decide (64 < d) = true := decide_eq_true hd
    gi_wp2_with (refine ⟨trivial, rfl, ?_⟩; gi_at_call 16; refine (callsIn_wide.2 (HDEP.out _ (T.D.K_below HB2.out HK.out))).mono ?_; rintro e W3 ⟨rfl, hb3⟩; have HR3 := Aside0.mk ((hb3.block _ (blk_lt HR2.out)).trans HR2.out); have HB3 := Aside0.mk (HB2.out.trans (hb3.mono HB2.out.size)); have hrc := (blk_cell HR3.out 0).trans (rfl : _ = some (Value.int .i64 0)); have hrf := blk_frozen HR3.out 0; clear hb3)
    refine ⟨trivial, ?_⟩
    gi_wp2
    refine ⟨_, results_cell1 rfl _ _ _ _ _ rfl ((World.cell?_setCell_same' _ _ _ (by rw [hrc]; rfl))) Try.underlying27, rfl, ?_⟩
    exact HB3.out.setCell (p := ⟨W1.heap.size, 0, none⟩) (by show w.heap.size ≤ W1.heap.size; omega) _
  · rw [if_neg hd] at h
    have hdb : decide (64 < d) = false := decide_eq_false hd
    by_cases hn : 65536 < N
    · rw [if_pos hn] at h
      obtain rfl := Option.some.inj h
      clear h
      have hnb : decide (65536 < N) = true := decide_eq_true hn
      refine (callsIn_wide (n := 0)).1 ?_
      refine callsIn_of_wp_marks Try.func14 rfl trivial ?_
      simp only [Try.ntmps14, List.size_toArray, List.length_cons, List.length_nil, Nat.reduceAdd, Nat.reduceSub, Array.replicate_succ, Array.replicate_zero, List.push_toArray, List.append_toArray, List.nil_append, List.cons_append]
      gi_wp2_with (first
        | (refine ⟨trivial, rfl, ?_⟩; gi_at_call 16; refine (callsIn_wide.2 (HDEP.out _ (T.D.K_below HB2.out HK.out))).mono ?_; rintro e W3 ⟨rfl, hb3⟩; have HR3 := Aside0.mk ((hb3.block _ (blk_lt HR2.out)).trans HR2.out); have HB3 := Aside0.mk (HB2.out.trans (hb3.mono HB2.out.size)); obtain ⟨d0, d1, d2, d3, d4⟩ := cells5 ((hb3.block _ (blk_lt HV2.out)).trans HV2.out); clear hb3)
        | (refine ⟨trivial, rfl, ?_⟩; gi_at_call 15; refine (callsIn_wide.2 (HCNT.out _ (T.D.K_below HB3.out HK.out))).mono ?_; rintro e W4 ⟨rfl, hb4⟩; have HR4 := Aside0.mk ((hb4.block _ (blk_lt HR3.out)).trans HR3.out); have HB4 := Aside0.mk (HB3.out.trans (hb4.mono HB3.out.size)); have hrc := (blk_cell HR4.out 0).trans (rfl : _ = some (Value.int .i64 0)); have hrf := blk_frozen HR4.out 0; clear hb4))
      refine ⟨_, results_cell1 rfl _ _ _ _ _ rfl ((World.cell?_setCell_same' _ _ _ (by rw [hrc]; rfl))) Try.underlying27, rfl, ?_⟩
      exact HB4.out.setCell (p := ⟨W1.heap.size, 0, none⟩) (by show w.heap.size ≤ W1.heap.size; omega) _
    · rw [if_neg hn] at h
      have hnb : decide (65536 < N) = false := decide_eq_false hn
      have HCK := Aside0.mk h
      clear h
      refine (callsIn_wide (n := 0)).1 ?_
      refine callsIn_of_wp_marks Try.func14 rfl trivial ?_
      simp only [Try.ntmps14, List.size_toArray, List.length_cons, List.length_nil, Nat.reduceAdd, Nat.reduceSub, Array.replicate_succ, Array.replicate_zero, List.push_toArray, List.append_toArray, List.nil_append, List.cons_append]
      gi_wp2_with (first
        | (refine ⟨trivial, rfl, ?_⟩; gi_at_call 16; refine (callsIn_wide.2 (HDEP.out _ (T.D.K_below HB2.out HK.out))).mono ?_; rintro e W3 ⟨rfl, hb3⟩; have HR3 := Aside0.mk ((hb3.block _ (blk_lt HR2.out)).trans HR2.out); have HB3 := Aside0.mk (HB2.out.trans (hb3.mono HB2.out.size)); have HV3 := Aside0.mk ((hb3.block _ (blk_lt HV2.out)).trans HV2.out); have HS3 := Aside0.mk hb3.size; obtain ⟨d0, d1, d2, d3, d4⟩ := cells5 HV3.out; clear hb3)
        | (refine ⟨trivial, rfl, ?_⟩; gi_at_call 15; refine (callsIn_wide.2 (HCNT.out _ (T.D.K_below HB3.out HK.out))).mono ?_; rintro e W4 ⟨rfl, hb4⟩; have HR4 := Aside0.mk ((hb4.block _ (blk_lt HR3.out)).trans HR3.out); have HB4 := Aside0.mk (HB3.out.trans (hb4.mono HB3.out.size)); obtain ⟨f0, f1, f2, f3, f4⟩ := cells5 ((hb4.block _ (blk_lt HV3.out)).trans HV3.out); have HS4 := Aside0.mk (Nat.le_trans HS3.out hb4.size); clear hb4)
        | (refine ⟨trivial, rfl, ?_⟩; gi_at_call 31; refine (callsIn_wide.2 (each_calls _)).mono ?_; rintro e w' ⟨rfl, rfl⟩))
      clear b0 b1 b2 b3 b4 d0 d1 d2 d3 d4 f0 f1 f2 f3 f4
      obtain ⟨W5, hW5⟩ : ∃ W5, W4.alloc (.cells #[.int .i64 (T.k x), .bool (T.neg x), .int .u64 (T.n x), .string (T.s x), .slice A4 (T.kids x).length c4] 25 (0, 0)) = W5 := ⟨_, rfl⟩
      try rw [hW5]
      have hz5 : W5.heap.size = W4.heap.size + 1 := by rw [← hW5, World.size_alloc]
      have hz4 : w.heap.size + 2 ≤ W4.heap.size := by have := HS4.out; have := HZ2.out; omega
      have HB5 := Aside0.mk (show Below w.heap.size w W5 by rw [← hW5]; exact below_alloc HB4.out _)
      have HV5 := Aside0.mk (show W5.heap[W4.heap.size]? = some (.cells #[.int .i64 (T.k x), .bool (T.neg x), .int .u64 (T.n x), .string (T.s x), .slice A4 (T.kids x).length c4] 25 (0, 0)) by rw [← hW5]; exact World.alloc_heap_new _ _)
      have HR5 := Aside0.mk (show W5.heap[W1.heap.size]? = some (.cells #[.int .i64 0] 27 (0, 0)) by rw [← hW5]; exact blk_alloc HR4.out _)
      clear hW5 HS3 HS4
      refine range_each T 0 w x _ W4.heap.size ?hg HK.out HB5.out HV5.out (by decide) (by decide) (by decide) hlen ?hps
        (fun pre W => (∃ rest, pre ++ rest = T.nodes (T.sz x + 1) [] x ∧ chk T one leaf (rest.map (·.2)) = some r) ∧ W.heap[W1.heap.size]? = some (.cells #[.int .i64 0] 27 (0, 0)) ∧ Below w.heap.size w W)
        (fun c W => c = .ret ∧ W.heap[W1.heap.size]? = some (.cells #[.int .i64 r] 27 (0, 0)) ∧ Below w.heap.size w W) ?hI ?hIx ⟨⟨_, rfl, HCK.out⟩, HR5.out, HB5.out⟩
        (fun _ _ v cs' a' W => ∃ Bx, W1.heap.size < Bx ∧ a' = { tmps := #[.agg #[.int .i64 (T.k x), .bool (T.neg x), .int .u64 (T.n x), .string (T.s x), .slice A4 (T.kids x).length c4], .pointer (some ⟨w.heap.size, 0, none⟩), .pointer (some ⟨W1.heap.size, 0, none⟩), undef, .pointer (some ⟨Bx, 0, none⟩), .agg #[.int .i64 (T.k x), .bool (T.neg x), .int .u64 (T.n x), .string (T.s x), .slice A4 (T.kids x).length c4], .int .i64 d, .bool false, .bool false, .agg #[.int .i64 (T.k x), .bool (T.neg x), .int .u64 (T.n x), .string (T.s x), .slice A4 (T.kids x).length c4], .int .i64 N, .bool false, .bool false, .agg #[.int .i64 (T.k x), .bool (T.neg x), .int .u64 (T.n x), .string (T.s x), .slice A4 (T.kids x).length c4], .func (.func 47) #[] #[.pointer (some ⟨W4.heap.size, 0, none⟩)], v, .agg cs'.toArray, undef, undef, undef, undef, undef, undef, undef, undef, undef, undef, undef, undef, undef], defers := [] } ∧ W.heap[Bx]? = some (.cells cs'.toArray 25 (0, 0)))
        ?hAx ?hassign ?hbody ?hdone ?hstop
      case hg => rfl
      case hps => rfl
      case hI => exact fun pre A B hA hc hi => ⟨hi.1, hc.cells _ _ _ _ hi.2.1, hi.2.2.trans (hc.below.mono HB5.out.size)⟩
      case hIx => exact fun c A B hA hc hi => ⟨hi.1, hc.cells _ _ _ _ hi.2.1, hi.2.2.trans (hc.below.mono HB5.out.size)⟩
      case hAx => rintro p y v cs' a' A B hA hc ⟨Bx, hlt, e, hx⟩; exact ⟨Bx, hlt, e, hc.cells _ _ _ _ hx⟩
      case hassign =>
        intro l pre p y rest v cs' W K hall hl hz hi hKy hbW hown hK2
        have hKy' := hKy
        obtain ⟨A5, c5, rfl, hc5, g5⟩ := T.openK hKy
        have hz2 := HZ2.out
        have HK2 := Aside0.mk (hK2 _ (W.alloc (.cells #[.int .i64 (T.k y), .bool (T.neg y), .int .u64 (T.n y), .string (T.s y), .slice A5 (T.kids y).length c5] 25 (0, 0))) (CK.alloc (by omega) _) (KeepsOthers.alloc _ _) ⟨W.heap.size, by have := HZ1.out; omega, rfl, World.alloc_heap_new W _⟩)
        clear hK2 hall hi hKy hbW hown g5 hKy' hz2
        gi_wp2
        exact HK2.out
      case hbody =>
        rintro l pre p y rest v cs' a' W hall hl hz ⟨⟨rest0, hrest, hck⟩, hrW, hbW⟩ hKy hbW2 hown ⟨Bx, hlt, rfl, hx⟩
        have hKy' := hKy
        obtain ⟨A5, c5, rfl, hc5, g5⟩ := T.openK hKy
        obtain rfl : rest0 = (p, y) :: rest := List.append_cancel_left (hrest.trans hall.symm)
        simp only [List.map_cons, chk] at hck
        replace hck := Option.bind_eq_some_iff.mp hck
        obtain ⟨b, hob, hck⟩ := hck
        have hz2 := HZ2.out
        obtain ⟨d0, d1, d2, d3, d4⟩ := cells5 hx
        have HX := Aside0.mk hx
        have HRW := Aside0.mk hrW
        have HBW := Aside0.mk hbW
        have HKY := Aside0.mk (T.D.K_below hbW2 hKy')
        have HOB := Aside0.mk hob
        have HALL := Aside0.mk (show (pre ++ [(p, y)]) ++ rest = T.nodes (T.sz x + 1) [] x by rw [← hall]; simp)
        clear hx hrW hbW hKy hKy' hob hall hrest hbW2 hown g5
        cases b with
        | false =>
          obtain rfl : 9 = r := Option.some.inj hck
          clear hck
          gi_wp2_with (refine ⟨trivial, rfl, ?_⟩; gi_at_call 32; refine (CallsIn.inRound l (callsIn_wide.2 (HONE.out _ _ _ _ HKY.out HOB.out))).mono ?_; rintro e W6 ⟨rfl, hb6⟩; have HR6 := Aside0.mk ((hb6.block _ (blk_lt HRW.out)).trans HRW.out); have hrc := (blk_cell HR6.out 0).trans (rfl : _ = some (Value.int .i64 0)); have hrf := blk_frozen HR6.out 0; have HB6 := Aside0.mk hb6; obtain ⟨e0, e1, e2, e3, e4⟩ := cells5 ((hb6.block _ (blk_lt HX.out)).trans HX.out); clear hb6)
          refine ⟨trivial, ?_⟩
          gi_wp2
          any_goals (exfalso; rename_i h1_ h2_; cases h1_; done)
          exact ⟨(KeepsOthers.of_below HB6.out).trans (KeepsOthers.setCell _ _ _), rfl, by
            have h2 := blk_set HR6.out 0 (.int .i64 9)
            simpa using h2, (HBW.out.trans (HB6.out.mono HBW.out.size)).setCell (p := ⟨W1.heap.size, 0, none⟩) (by show w.heap.size ≤ W1.heap.size; omega) _⟩
        | true =>
          replace hck := Option.bind_eq_some_iff.mp (show ((leaf y).bind fun f => if f = true then (if 0 < (T.kids y).length then some 9 else chk T one leaf (rest.map (·.2))) else chk T one leaf (rest.map (·.2))) = some r from hck)
          obtain ⟨f, hof, hck⟩ := hck
          have HOF := Aside0.mk hof
          clear hof
          cases f with
          | false =>
            have HCK2 := Aside0.mk (show chk T one leaf (rest.map (·.2)) = some r from hck)
            clear hck
            gi_wp2_with (first | (refine ⟨trivial, rfl, ?_⟩; gi_at_call 32; refine (CallsIn.inRound l (callsIn_wide.2 (HONE.out _ _ _ _ HKY.out HOB.out))).mono ?_; rintro e W6 ⟨rfl, hb6⟩; have HR6 := Aside0.mk ((hb6.block _ (blk_lt HRW.out)).trans HRW.out); have hrc := (blk_cell HR6.out 0).trans (rfl : _ = some (Value.int .i64 0)); have hrf := blk_frozen HR6.out 0; have HB6 := Aside0.mk hb6; obtain ⟨e0, e1, e2, e3, e4⟩ := cells5 ((hb6.block _ (blk_lt HX.out)).trans HX.out); clear hb6) | (refine ⟨trivial, rfl, ?_⟩; gi_at_call 33; refine (CallsIn.inRound l (callsIn_wide.2 (HLEAF.out _ _ _ _ (T.D.K_below HB6.out HKY.out) HOF.out))).mono ?_; rintro e W7 ⟨rfl, hb7⟩; have HR7 := Aside0.mk ((hb7.block _ (blk_lt HR6.out)).trans HR6.out); have hrc7 := (blk_cell HR7.out 0).trans (rfl : _ = some (Value.int .i64 0)); have hrf7 := blk_frozen HR7.out 0; have HB7 := Aside0.mk (HB6.out.trans (hb7.mono HB6.out.size)); obtain ⟨f0, f1, f2, f3, f4⟩ := cells5 ((hb7.block _ (blk_lt ((HB6.out.block _ (blk_lt HX.out)).trans HX.out))).trans ((HB6.out.block _ (blk_lt HX.out)).trans HX.out)); clear hb7))
            exact ⟨KeepsOthers.of_below HB7.out, Kp.of_below (by have := HBW.out.size; omega) HB7.out, ⟨rest, HALL.out, HCK2.out⟩, HR7.out, HBW.out.trans (HB7.out.mono HBW.out.size)⟩
          | true =>
            by_cases hk : 0 < (T.kids y).length
            · obtain rfl : 9 = r := Option.some.inj (by rw [if_pos rfl, if_pos hk] at hck; exact hck)
              clear hck
              have hkb : decide (0 < ((T.kids y).length : Int)) = true := decide_eq_true (by omega)
              gi_wp2_with (first | (refine ⟨trivial, rfl, ?_⟩; gi_at_call 32; refine (CallsIn.inRound l (callsIn_wide.2 (HONE.out _ _ _ _ HKY.out HOB.out))).mono ?_; rintro e W6 ⟨rfl, hb6⟩; have HR6 := Aside0.mk ((hb6.block _ (blk_lt HRW.out)).trans HRW.out); have hrc := (blk_cell HR6.out 0).trans (rfl : _ = some (Value.int .i64 0)); have hrf := blk_frozen HR6.out 0; have HB6 := Aside0.mk hb6; obtain ⟨e0, e1, e2, e3, e4⟩ := cells5 ((hb6.block _ (blk_lt HX.out)).trans HX.out); clear hb6) | (refine ⟨trivial, rfl, ?_⟩; gi_at_call 33; refine (CallsIn.inRound l (callsIn_wide.2 (HLEAF.out _ _ _ _ (T.D.K_below HB6.out HKY.out) HOF.out))).mono ?_; rintro e W7 ⟨rfl, hb7⟩; have HR7 := Aside0.mk ((hb7.block _ (blk_lt HR6.out)).trans HR6.out); have hrc7 := (blk_cell HR7.out 0).trans (rfl : _ = some (Value.int .i64 0)); have hrf7 := blk_frozen HR7.out 0; have HB7 := Aside0.mk (HB6.out.trans (hb7.mono HB6.out.size)); obtain ⟨f0, f1, f2, f3, f4⟩ := cells5 ((hb7.block _ (blk_lt ((HB6.out.block _ (blk_lt HX.out)).trans HX.out))).trans ((HB6.out.block _ (blk_lt HX.out)).trans HX.out)); clear hb7))
              exact ⟨(KeepsOthers.of_below HB7.out).trans (KeepsOthers.setCell _ _ _), rfl, by
              have h2 := blk_set HR7.out 0 (.int .i64 9)
              simpa using h2, (HBW.out.trans (HB7.out.mono HBW.out.size)).setCell (p := ⟨W1.heap.size, 0, none⟩) (by show w.heap.size ≤ W1.heap.size; omega) _⟩
            · have HCK2 := Aside0.mk (show chk T one leaf (rest.map (·.2)) = some r by rw [if_pos rfl, if_neg hk] at hck; exact hck)
              clear hck
              have hkb : decide (0 < ((T.kids y).length : Int)) = false := decide_eq_false (by omega)
              gi_wp2_with (first | (refine ⟨trivial, rfl, ?_⟩; gi_at_call 32; refine (CallsIn.inRound l (callsIn_wide.2 (HONE.out _ _ _ _ HKY.out HOB.out))).mono ?_; rintro e W6 ⟨rfl, hb6⟩; have HR6 := Aside0.mk ((hb6.block _ (blk_lt HRW.out)).trans HRW.out); have hrc := (blk_cell HR6.out 0).trans (rfl : _ = some (Value.int .i64 0)); have hrf := blk_frozen HR6.out 0; have HB6 := Aside0.mk hb6; obtain ⟨e0, e1, e2, e3, e4⟩ := cells5 ((hb6.block _ (blk_lt HX.out)).trans HX.out); clear hb6) | (refine ⟨trivial, rfl, ?_⟩; gi_at_call 33; refine (CallsIn.inRound l (callsIn_wide.2 (HLEAF.out _ _ _ _ (T.D.K_below HB6.out HKY.out) HOF.out))).mono ?_; rintro e W7 ⟨rfl, hb7⟩; have HR7 := Aside0.mk ((hb7.block _ (blk_lt HR6.out)).trans HR6.out); have hrc7 := (blk_cell HR7.out 0).trans (rfl : _ = some (Value.int .i64 0)); have hrf7 := blk_frozen HR7.out 0; have HB7 := Aside0.mk (HB6.out.trans (hb7.mono HB6.out.size)); obtain ⟨f0, f1, f2, f3, f4⟩ := cells5 ((hb7.block _ (blk_lt ((HB6.out.block _ (blk_lt HX.out)).trans HX.out))).trans ((HB6.out.block _ (blk_lt HX.out)).trans HX.out)); clear hb7))
              exact ⟨KeepsOthers.of_below HB7.out, Kp.of_below (by have := HBW.out.size; omega) HB7.out, ⟨rest, HALL.out, HCK2.out⟩, HR7.out, HBW.out.trans (HB7.out.mono HBW.out.size)⟩
      case hdone =>
        rintro D W hD ⟨⟨rest0, hrest, hck⟩, hi, hbW⟩ hdd
        obtain rfl : rest0 = [] := List.append_right_eq_self.1 hrest
        obtain rfl : 0 = r := Option.some.inj hck
        have hrc := (blk_cell hi 0).trans (rfl : _ = some (Value.int .i64 0))
        have hrf := blk_frozen hi 0
        have HI := Aside0.mk hi
        have HBW := Aside0.mk hbW
        have HD := Aside0.mk hdd
        clear hi hbW hdd hck hrest
        gi_wp2
        refine ⟨by simp, .inl ⟨_, _, rfl, run_takeDeferred ((KeepsOthers.setCell _ _ _).same D _ HD.out rfl), ?_⟩⟩
        refine ⟨_, results_cell1 rfl _ _ _ _ _ rfl (cell_kept (World.cell?_setCell_same' _ _ _ (by rw [hrc]; rfl)) (grownBy_putObj' _ _ _) (fun q e => by cases e; exact ⟨_, (KeepsOthers.setCell _ _ _).same D _ HD.out rfl, rfl⟩)) Try.underlying27, rfl, ?_⟩
        have hb3 := HBW.out.setCell (p := ⟨W1.heap.size, 0, none⟩) (by show w.heap.size ≤ W1.heap.size; omega) (.int .i64 0)
        exact hb3.grown (grownBy_putObj' _ _ _) hb3.size (fun k e => by cases e; have := HB5.out.size; omega)
      case hstop =>
        rintro D c W hD ⟨rfl, hi, hbW⟩ hdd
        have HI := Aside0.mk hi
        have HBW := Aside0.mk hbW
        have HD := Aside0.mk hdd
        clear hi hbW hdd
        gi_wp2
        refine ⟨by simp, .inl ⟨_, _, rfl, run_takeDeferred HD.out, ?_⟩⟩
        refine ⟨_, results_cell1 rfl _ _ _ _ _ rfl (cell_kept ((blk_cell HI.out 0).trans rfl) (grownBy_putObj' _ _ _) (fun q e => by cases e; exact ⟨_, HD.out, rfl⟩)) Try.underlying27, rfl, ?_⟩
        exact HBW.out.grown (grownBy_putObj' _ _ _) HBW.out.size (fun k e => by cases e; have := HB5.out.size; omega)
end
end Go.Proofs.Ytcgpfclmcajekaa.Each
