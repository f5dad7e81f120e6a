-- Out of texts of this seat by a program of this session: what the claim does not reach is struck
import Derived.Test.YtlbdjjiblhdpmaaZCe
namespace Go.Proofs.Ytlbdjjiblhdpmaa.Cw
open Go Go.RowKit Go.Shelf Go.Proofs.Ytlbdjjiblhdpmaa.Each Go.Proofs.YtlbdjjiblhdpmaaW.PrintWords Go.Proofs.YtlbdjjiblhdpmaaW.PrintLast
set_option linter.unusedVariables false
set_option linter.unusedSimpArgs false
def rkids {S : Type} (item : S → Option (List Int)) : List S → List Int → Option (List Int)
  | [], a => some a
  | y :: l, a => (item y).bind fun b => if (a ++ b).length ≤ 1099511627776 then rkids item l (a ++ b) else none
theorem rkids_mono {S : Type} (item item' : S → Option (List Int)) (h : ∀ y, LeO (item y) (item' y)) : ∀ l a, LeO (rkids item l a) (rkids item' l a)
  | [], a => LeO.refl _
  | y :: l, a => by
    simp only [rkids]
    exact LeO.bind (h y) fun b => LeO.ite (rkids_mono item item' h l _) (LeO.refl _)
theorem rkids_step {S : Type} (item : S → Option (List Int)) (z : S) (l : List S) (j : Nat) (hj : j < l.length) (a r : List Int) (h : rkids item (l.drop j) a = some r) : ∃ b, item (l.getD j z) = some b ∧ (a ++ b).length ≤ 1099511627776 ∧ rkids item (l.drop (j + 1)) (a ++ b) = some r := by
  rw [List.drop_eq_getElem_cons hj, rkids] at h
  obtain ⟨b, hb, h⟩ := Option.bind_eq_some_iff.mp h
  by_cases hl : (a ++ b).length ≤ 1099511627776
  · rw [if_pos hl] at h
    exact ⟨b, by rw [List.getD_eq_getElem?_getD, List.getElem?_eq_getElem hj]; exact hb, hl, h⟩
  · rw [if_neg hl] at h; cases h
section
variable {S : Type} (T : Tree S) (o : Bool) (i : Int) (s : Bool)
def rmany (item : S → Option (List Int)) (put : Int → Int → Option (List Int)) (M : Int) (x : S) : Option (List Int) :=
  (put M (if M = 5 then ((T.kids x).length : Int) / 2 else ((T.kids x).length : Int))).bind fun h => if h.length ≤ 1000 then (rkids item (T.kids x) (if o = true then [M * 32 + 31] else h)).bind fun b => some (b ++ if o = true then [255] else []) else none
set_option maxRecDepth 100000 in
set_option maxHeartbeats 16000000 in
theorem many_calls (item : S → Option (List Int)) (put : Int → Int → Option (List Int)) (M : Int) (hM : M = 4 ∨ M = 5) (x : S) (cs : List Value) (w : World) (hK : T.D.K w x cs) (r : List Int)
    (hput : ∀ n r W, put M n = some r → Calls Try.prog 29 #[.int .i64 M, .int .u64 n] W fun e W' => ∃ v, e = .returned v ∧ BR W' W.heap.size v r ∧ Below W.heap.size W W')
    (hitem : ∀ y cs b W, y ∈ T.kids x → T.D.K W y cs → item y = some b → Calls Try.prog 14 #[.agg cs.toArray, .agg #[.bool o, .int .i64 i, .bool s]] W fun e W' => ∃ v, e = .returned v ∧ BR W' W.heap.size v b ∧ Below W.heap.size W W')
    (h : rmany T o item put M x = some r) :
    Calls Try.prog 33 #[.int .i64 M, .agg cs.toArray, .agg #[.bool o, .int .i64 i, .bool s]] w fun e w' => ∃ v, e = .returned v ∧ BR w' w.heap.size v r ∧ Below w.heap.size w w' := by
  have hK' := hK
  obtain ⟨A4, c4, rfl, hc4, g4⟩ := T.openK hK
  obtain ⟨hd, hp, h⟩ := Option.bind_eq_some_iff.mp h
  by_cases hl : hd.length ≤ 1000
  case neg => rw [if_neg hl] at h; cases h
  rw [if_pos hl] at h
  obtain ⟨b, hrk, h⟩ := Option.bind_eq_some_iff.mp h
  obtain rfl := Option.some.inj h
  obtain ⟨W0, hW0⟩ : ∃ W0, w.alloc (.cells #[.int .i64 (T.k x), .bool (T.neg x), .int .u64 (T.n x), .string (T.s x), .slice A4 (T.kids x).length c4] 25 (0, 0)) = W0 := ⟨_, rfl⟩
  have hb0 : Below w.heap.size w W0 := by rw [← hW0]; exact below_alloc (Below.refl _ _) _
  have hx0 : W0.heap[w.heap.size]? = some (.cells #[.int .i64 (T.k x), .bool (T.neg x), .int .u64 (T.n x), .string (T.s x), .slice A4 (T.kids x).length c4] 25 (0, 0)) := by rw [← hW0]; exact World.alloc_heap_new w _
  obtain ⟨W1, hW1⟩ : ∃ W1, W0.alloc (.cells #[.bool o, .int .i64 i, .bool s] 27 (0, 0)) = W1 := ⟨_, rfl⟩
  have hb1 : Below w.heap.size w W1 := by rw [← hW1]; exact below_alloc hb0 _
  have hx1 : W1.heap[w.heap.size]? = some (.cells #[.int .i64 (T.k x), .bool (T.neg x), .int .u64 (T.n x), .string (T.s x), .slice A4 (T.kids x).length c4] 25 (0, 0)) := by rw [← hW1]; exact blk_alloc hx0 _
  have ho1 : W1.heap[W0.heap.size]? = some (.cells #[.bool o, .int .i64 i, .bool s] 27 (0, 0)) := by rw [← hW1]; exact World.alloc_heap_new W0 _
  have hz0 : W0.heap.size = w.heap.size + 1 := by rw [← hW0, World.size_alloc]
  obtain ⟨b0, b1, b2, b3, b4⟩ := cells5 hx1
  have p0 := (blk_cell ho1 0).trans (rfl : _ = some (Value.bool o))
  have p1 := (blk_cell ho1 1).trans (rfl : _ = some (Value.int .i64 i))
  have p2 := (blk_cell ho1 2).trans (rfl : _ = some (Value.bool s))
  obtain ⟨N, hN⟩ : ∃ N : Int, (if M = 5 then ((T.kids x).length : Int) / 2 else ((T.kids x).length : Int)) = N := ⟨_, rfl⟩
  rw [hN] at hp
  have hgl : (T.kids x).length ≤ 9223372036854775807 := g4.2.1
  have hN0 : 0 ≤ N := by rw [← hN]; split <;> omega
  have hN1 : N ≤ 9223372036854775807 := by rw [← hN]; split <;> omega
  have hu : IntKind.u64.wrap N = N := by simp [IntKind.wrap, IntKind.bits, IntKind.signed]; omega
  have hM7 : 0 ≤ M ∧ M ≤ 7 := by omega
  have hor := or_31 M hM7.1 hM7.2
  have hw8 : IntKind.u8.wrap (M * 32 + 31) = M * 32 + 31 := by rw [u8_wrap]; omega
  have HP := Aside0.mk (fun W => hput N hd W hp)
  have HRK := Aside0.mk hrk
  have HIT := Aside0.mk hitem
  have HX := Aside0.mk hx1
  have HO := Aside0.mk ho1
  have HB := Aside0.mk hb1
  have HK := Aside0.mk hK'
  have HG4 := Aside0.mk g4
  have HNN := Aside0.mk hN
  obtain ⟨hm0, hm7⟩ := hM7
  clear hput hp hrk hitem hx1 ho1 hb1 hK hK' g4 hx0 hb0 hN h hz0 hM
  have main : ∀ (c : Bool), (M == 5) = c → Calls Try.prog 33 #[.int .i64 M, .agg #[.int .i64 (T.k x), .bool (T.neg x), .int .u64 (T.n x), .string (T.s x), .slice A4 (T.kids x).length c4], .agg #[.bool o, .int .i64 i, .bool s]] w fun e w' => ∃ v, e = .returned v ∧ BR w' w.heap.size v (b ++ if o = true then [255] else []) ∧ Below w.heap.size w w' := by
    intro c hc
    have hNc : (if c = true then ((T.kids x).length : Int) / 2 else ((T.kids x).length : Int)) = N := by
      rw [← HNN.out, ← hc]; simp
    clear HNN
    cases c with
    | false =>
      obtain rfl : ((T.kids x).length : Int) = N := by simpa using hNc
      clear hNc
      go_enter Try.func33, Try.ntmps33
      go_upto_if 22 with (go_at_call 29; (try rw [hu]); go_loud (with_reducible refine (HP.out W1).mono ?_); rintro e W2 ⟨v2, rfl, hr2, hb2⟩; have HR2 := Aside0.mk (BR.weaken hr2 HB.out.size); have HB2 := Aside0.mk (HB.out.trans (hb2.mono HB.out.size)); have HX2 := Aside0.mk ((hb2.block _ (blk_lt HX.out)).trans HX.out); have HO2 := Aside0.mk ((hb2.block _ (blk_lt HO.out)).trans HO.out); have q0 := (blk_cell HO2.out 0).trans (rfl : _ = some (Value.bool o)); clear hr2 hb2)
      go_cut [8] (fun v8 wx => Aside0 (BR wx w.heap.size v8 (if o = true then [M * 32 + 31] else hd)) ∧ Aside0 (Below w.heap.size w wx) ∧ Aside0 (wx.heap[w.heap.size]? = some (.cells #[.int .i64 (T.k x), .bool (T.neg x), .int .u64 (T.n x), .string (T.s x), .slice A4 (T.kids x).length c4] 25 (0, 0))) ∧ Aside0 (wx.heap[W0.heap.size]? = some (.cells #[.bool o, .int .i64 i, .bool s] 27 (0, 0))))
      case first =>
        cases o with
        | false =>
          go_wp2
          go_meet
          exact ⟨⟨by simpa using HR2.out⟩, HB2, HX2, HO2⟩
        | true =>
          go_wp2
          go_meet
          exact ⟨⟨by simpa using BR.lit HB2.out.size _⟩, ⟨below_alloc HB2.out _⟩, ⟨blk_alloc HX2.out _⟩, ⟨blk_alloc HO2.out _⟩⟩
      case rest =>
        obtain ⟨HR3, HB3, HX3, HO3⟩ := hcut
        have HL3 := Aside0.mk (show (if o = true then [M * 32 + 31] else hd).length ≤ 1099511627776 by split <;> (try simp only [List.length_cons, List.length_nil]) <;> omega)
        clear q0 b0 b1 b2 b3 b4 p0 p1 p2 HR2 HB2 HX2 HO2
        go_wp2
        go_loopw [8, 9] (fun v8 v9 wr => ∃ (j : Nat) (acc : List Int), v9 = .int .i64 (j : Int) ∧ j ≤ (T.kids x).length ∧ Aside0 (acc.length ≤ 1099511627776) ∧ Aside0 (BR wr w.heap.size v8 acc) ∧ Aside0 (rkids item ((T.kids x).drop j) acc = some b) ∧ Aside0 (Below w.heap.size w wr) ∧ Aside0 (wr.heap[w.heap.size]? = some (.cells #[.int .i64 (T.k x), .bool (T.neg x), .int .u64 (T.n x), .string (T.s x), .slice A4 (T.kids x).length c4] 25 (0, 0))) ∧ Aside0 (wr.heap[W0.heap.size]? = some (.cells #[.bool o, .int .i64 i, .bool s] 27 (0, 0)))) (fun _ v _ => (T.kids x).length - (intOf v).toNat)
        case atStart => exact ⟨0, _, rfl, Nat.zero_le _, HL3, HR3, HRK, HB3, HX3, HO3⟩
        case round =>
          obtain ⟨j, acc, rfl, hj, HLA, HRA, HRKJ, HBA, HXA, HOA⟩ := hrel
          clear HR3 HB3 HX3 HO3 HL3
          obtain ⟨A3, n3, c3, rfl⟩ := slice_of HRA.out
          obtain ⟨f0, f1, f2, f3, f4⟩ := cells5 HXA.out
          have q0 := (blk_cell HOA.out 0).trans (rfl : _ = some (Value.bool o))
          have q1 := (blk_cell HOA.out 1).trans (rfl : _ = some (Value.int .i64 i))
          have q2 := (blk_cell HOA.out 2).trans (rfl : _ = some (Value.bool s))
          by_cases hlt : j < (T.kids x).length
          · obtain ⟨bb, hbb, hlb, hrk2⟩ := rkids_step item T.z (T.kids x) j hlt acc b HRKJ.out
            have hmem : (T.kids x).getD j T.z ∈ T.kids x := by rw [List.getD_eq_getElem?_getD, List.getElem?_eq_getElem hlt]; exact List.getElem_mem hlt
            obtain ⟨ad, A5, c5, e5, hx0, hx1, hx2, hx3, hx4, hKy⟩ := T.at_ HG4.out (j : Int) (by omega) (by omega)
            cases e5
            replace hx0 := (HBA.out.cell (World.block_lt_of_cell? w _ hx0)).trans hx0
            replace hx1 := (HBA.out.cell (World.block_lt_of_cell? w _ hx1)).trans hx1
            replace hx2 := (HBA.out.cell (World.block_lt_of_cell? w _ hx2)).trans hx2
            replace hx3 := (HBA.out.cell (World.block_lt_of_cell? w _ hx3)).trans hx3
            replace hx4 := (HBA.out.cell (World.block_lt_of_cell? w _ hx4)).trans hx4
            simp only [Int.toNat_natCast] at hx0 hx1 hx2 hx3 hx4 hKy
            obtain ⟨y, hy⟩ : ∃ y, (T.kids x).getD j T.z = y := ⟨_, rfl⟩
            rw [hy] at hx0 hx1 hx2 hx3 hx4 hKy hmem hbb
            have HLB := Aside0.mk hlb
            have HRK2 := Aside0.mk hrk2
            have HBD := Aside0.mk (show Below w.heap.size w wr.drew from HBA.out.trans ((below_drew (Below.refl _ _)).mono HBA.out.size))
            have HITY := Aside0.mk (HIT.out y _ bb wr.drew hmem (T.D.K_below HBD.out hKy) hbb)
            have HLT := Aside0.mk hlt
            have hmax : (T.kids x).length ≤ 9223372036854775807 := HG4.out.2.1
            clear hlb hrk2 hbb hmem hKy hy
            go_wp2
            go_region_law (first
              | (refine goes_ Try.func14 (by kernel_rfl) rfl #[.agg #[.int .i64 (T.k y), .bool (T.neg y), .int .u64 (T.n y), .string (T.s y), .slice A5 (T.kids y).length c5], .agg #[.bool o, .int .i64 i, .bool s]] (by rfl) rfl rfl ?ha ?_
                 (case ha => simp [Act.eval, Act.put])
                 refine HITY.out.mono ?_
                 rintro e W5 ⟨v5, rfl, hr5, hb5⟩
                 refine ⟨_, rfl, ?_⟩
                 have HR5 := Aside0.mk hr5
                 have HB5 := Aside0.mk hb5
                 obtain ⟨A6, n6, c6, rfl⟩ := slice_of hr5
                 obtain rfl : n6 = bb.length := (Kd.R_reads' hr5).1
                 clear hr5 hb5)
              | (refine Kd.R_append_rows_step (Kd.int .u8) (w0 := w) (W := W5) w.heap.size (by rfl) (.tmp 35) (.tmp 42) 28 5 (.int .u8 0) 1 rfl Try.underlying28 info5 rfl (by decide) (by omega) (.slice A3 n3 c3) acc bb A6 bb.length c6 (fun _ => True) (fun _ => False) (by simp [Act.eval, Act.put]) (by simp [Act.eval, Act.put]) (Kd.R_below (Kd.R_drew HRA.out) HB5.out) ?aR (fun _ _ h => h) (fun _ h => h.elim) (fun _ _ => trivial) (HBD.out.trans (HB5.out.mono HBD.out.size)) (Nat.le_trans HBD.out.size HB5.out.size) ?aL ?_
                 (case aR => exact (Kd.R_reads' HR5.out).2.2)
                 (case aL => have h := HLB.out; simp only [List.length_append] at h; omega)
                 intro v7 W7 hR7 hB7 hg7 hat7
                 have HR7 := Aside0.mk hR7
                 have HB7 := Aside0.mk hB7
                 have HX7 := Aside0.mk (blk_grown ((HB5.out.block _ (blk_lt (blk_drew HXA.out))).trans (blk_drew HXA.out)) hg7 (Kd.R_ne (Kd.R_below (Kd.R_drew HRA.out) HB5.out) ((HB5.out.block _ (blk_lt (blk_drew HXA.out))).trans (blk_drew HXA.out)) (by decide)))
                 have HO7 := Aside0.mk (blk_grown ((HB5.out.block _ (blk_lt (blk_drew HOA.out))).trans (blk_drew HOA.out)) hg7 (Kd.R_ne (Kd.R_below (Kd.R_drew HRA.out) HB5.out) ((HB5.out.block _ (blk_lt (blk_drew HOA.out))).trans (blk_drew HOA.out)) (by decide)))
                 clear hR7 hB7 hg7 hat7))
            all_goals
              go_wp2
              go_roundw
              case rel => exact ⟨j + 1, _, by go_num, HLT.out, HLB, HR7, HRK2, HB7, HX7, HO7⟩
              case measure => have hlt_ := HLT.out; simp [intOf]; omega
          · obtain rfl : j = (T.kids x).length := by omega
            have hd2 := HRKJ.out
            rw [List.drop_length, rkids] at hd2
            obtain rfl := Option.some.inj hd2
            clear hd2 HRKJ
            cases o with
            | false =>
              go_wp2
              go_ret
              exact ⟨_, rfl, by simpa using HRA.out, HBA.out⟩
            | true =>
              go_wp2_with ((with_reducible refine gate_builtin (b := .append) (xs := #[.tmp 46, .tmp 47]) rfl ?_); at_builtin; go_loud (refine Kd.R_append (Kd.int .u8) (w0 := w) (W := wr) w.heap.size rfl (.tmp 46) (.tmp 47) 28 5 (.int .u8 0) 1 rfl Try.underlying28 info5 rfl (by decide) (by omega) (.slice A3 n3 c3) acc 255 [.int .u8 255] (fun _ => True) (fun _ => False) rfl rfl rfl (fun _ h => h.elim) (fun _ _ => trivial) HRA.out HBA.out HBA.out.size ?aL ?_); (case aL => have h := HLA.out; omega); intro v1 w1 hR1 hB1 hg1 hat1; have HR1 := Aside0.mk hR1; have HB1 := Aside0.mk hB1; clear hR1 hB1 hg1 hat1)
              go_ret
              exact ⟨_, rfl, by simpa using HR1.out, HB1.out⟩
    | true =>
      obtain rfl : ((T.kids x).length : Int) / 2 = N := by simpa using hNc
      clear hNc
      go_enter Try.func33, Try.ntmps33
      go_upto_if 22 with (go_at_call 29; (try rw [hu]); go_loud (with_reducible refine (HP.out W1).mono ?_); rintro e W2 ⟨v2, rfl, hr2, hb2⟩; have HR2 := Aside0.mk (BR.weaken hr2 HB.out.size); have HB2 := Aside0.mk (HB.out.trans (hb2.mono HB.out.size)); have HX2 := Aside0.mk ((hb2.block _ (blk_lt HX.out)).trans HX.out); have HO2 := Aside0.mk ((hb2.block _ (blk_lt HO.out)).trans HO.out); have q0 := (blk_cell HO2.out 0).trans (rfl : _ = some (Value.bool o)); clear hr2 hb2)
      go_cut [8] (fun v8 wx => Aside0 (BR wx w.heap.size v8 (if o = true then [M * 32 + 31] else hd)) ∧ Aside0 (Below w.heap.size w wx) ∧ Aside0 (wx.heap[w.heap.size]? = some (.cells #[.int .i64 (T.k x), .bool (T.neg x), .int .u64 (T.n x), .string (T.s x), .slice A4 (T.kids x).length c4] 25 (0, 0))) ∧ Aside0 (wx.heap[W0.heap.size]? = some (.cells #[.bool o, .int .i64 i, .bool s] 27 (0, 0))))
      case first =>
        cases o with
        | false =>
          go_wp2
          go_meet
          exact ⟨⟨by simpa using HR2.out⟩, HB2, HX2, HO2⟩
        | true =>
          go_wp2
          go_meet
          exact ⟨⟨by simpa using BR.lit HB2.out.size _⟩, ⟨below_alloc HB2.out _⟩, ⟨blk_alloc HX2.out _⟩, ⟨blk_alloc HO2.out _⟩⟩
      case rest =>
        obtain ⟨HR3, HB3, HX3, HO3⟩ := hcut
        have HL3 := Aside0.mk (show (if o = true then [M * 32 + 31] else hd).length ≤ 1099511627776 by split <;> (try simp only [List.length_cons, List.length_nil]) <;> omega)
        clear q0 b0 b1 b2 b3 b4 p0 p1 p2 HR2 HB2 HX2 HO2
        go_wp2
        go_loopw [8, 9] (fun v8 v9 wr => ∃ (j : Nat) (acc : List Int), v9 = .int .i64 (j : Int) ∧ j ≤ (T.kids x).length ∧ Aside0 (acc.length ≤ 1099511627776) ∧ Aside0 (BR wr w.heap.size v8 acc) ∧ Aside0 (rkids item ((T.kids x).drop j) acc = some b) ∧ Aside0 (Below w.heap.size w wr) ∧ Aside0 (wr.heap[w.heap.size]? = some (.cells #[.int .i64 (T.k x), .bool (T.neg x), .int .u64 (T.n x), .string (T.s x), .slice A4 (T.kids x).length c4] 25 (0, 0))) ∧ Aside0 (wr.heap[W0.heap.size]? = some (.cells #[.bool o, .int .i64 i, .bool s] 27 (0, 0)))) (fun _ v _ => (T.kids x).length - (intOf v).toNat)
        case atStart => exact ⟨0, _, rfl, Nat.zero_le _, HL3, HR3, HRK, HB3, HX3, HO3⟩
        case round =>
          obtain ⟨j, acc, rfl, hj, HLA, HRA, HRKJ, HBA, HXA, HOA⟩ := hrel
          clear HR3 HB3 HX3 HO3 HL3
          obtain ⟨A3, n3, c3, rfl⟩ := slice_of HRA.out
          obtain ⟨f0, f1, f2, f3, f4⟩ := cells5 HXA.out
          have q0 := (blk_cell HOA.out 0).trans (rfl : _ = some (Value.bool o))
          have q1 := (blk_cell HOA.out 1).trans (rfl : _ = some (Value.int .i64 i))
          have q2 := (blk_cell HOA.out 2).trans (rfl : _ = some (Value.bool s))
          by_cases hlt : j < (T.kids x).length
          · obtain ⟨bb, hbb, hlb, hrk2⟩ := rkids_step item T.z (T.kids x) j hlt acc b HRKJ.out
            have hmem : (T.kids x).getD j T.z ∈ T.kids x := by rw [List.getD_eq_getElem?_getD, List.getElem?_eq_getElem hlt]; exact List.getElem_mem hlt
            obtain ⟨ad, A5, c5, e5, hx0, hx1, hx2, hx3, hx4, hKy⟩ := T.at_ HG4.out (j : Int) (by omega) (by omega)
            cases e5
            replace hx0 := (HBA.out.cell (World.block_lt_of_cell? w _ hx0)).trans hx0
            replace hx1 := (HBA.out.cell (World.block_lt_of_cell? w _ hx1)).trans hx1
            replace hx2 := (HBA.out.cell (World.block_lt_of_cell? w _ hx2)).trans hx2
            replace hx3 := (HBA.out.cell (World.block_lt_of_cell? w _ hx3)).trans hx3
            replace hx4 := (HBA.out.cell (World.block_lt_of_cell? w _ hx4)).trans hx4
            simp only [Int.toNat_natCast] at hx0 hx1 hx2 hx3 hx4 hKy
            obtain ⟨y, hy⟩ : ∃ y, (T.kids x).getD j T.z = y := ⟨_, rfl⟩
            rw [hy] at hx0 hx1 hx2 hx3 hx4 hKy hmem hbb
            have HLB := Aside0.mk hlb
            have HRK2 := Aside0.mk hrk2
            have HBD := Aside0.mk (show Below w.heap.size w wr.drew from HBA.out.trans ((below_drew (Below.refl _ _)).mono HBA.out.size))
            have HITY := Aside0.mk (HIT.out y _ bb wr.drew hmem (T.D.K_below HBD.out hKy) hbb)
            have HLT := Aside0.mk hlt
            have hmax : (T.kids x).length ≤ 9223372036854775807 := HG4.out.2.1
            clear hlb hrk2 hbb hmem hKy hy
            go_wp2
            go_region_law (first
              | (refine goes_ Try.func14 (by kernel_rfl) rfl #[.agg #[.int .i64 (T.k y), .bool (T.neg y), .int .u64 (T.n y), .string (T.s y), .slice A5 (T.kids y).length c5], .agg #[.bool o, .int .i64 i, .bool s]] (by rfl) rfl rfl ?ha ?_
                 (case ha => simp [Act.eval, Act.put])
                 refine HITY.out.mono ?_
                 rintro e W5 ⟨v5, rfl, hr5, hb5⟩
                 refine ⟨_, rfl, ?_⟩
                 have HR5 := Aside0.mk hr5
                 have HB5 := Aside0.mk hb5
                 obtain ⟨A6, n6, c6, rfl⟩ := slice_of hr5
                 obtain rfl : n6 = bb.length := (Kd.R_reads' hr5).1
                 clear hr5 hb5)
              | (refine Kd.R_append_rows_step (Kd.int .u8) (w0 := w) (W := W5) w.heap.size (by rfl) (.tmp 35) (.tmp 42) 28 5 (.int .u8 0) 1 rfl Try.underlying28 info5 rfl (by decide) (by omega) (.slice A3 n3 c3) acc bb A6 bb.length c6 (fun _ => True) (fun _ => False) (by simp [Act.eval, Act.put]) (by simp [Act.eval, Act.put]) (Kd.R_below (Kd.R_drew HRA.out) HB5.out) ?aR (fun _ _ h => h) (fun _ h => h.elim) (fun _ _ => trivial) (HBD.out.trans (HB5.out.mono HBD.out.size)) (Nat.le_trans HBD.out.size HB5.out.size) ?aL ?_
                 (case aR => exact (Kd.R_reads' HR5.out).2.2)
                 (case aL => have h := HLB.out; simp only [List.length_append] at h; omega)
                 intro v7 W7 hR7 hB7 hg7 hat7
                 have HR7 := Aside0.mk hR7
                 have HB7 := Aside0.mk hB7
                 have HX7 := Aside0.mk (blk_grown ((HB5.out.block _ (blk_lt (blk_drew HXA.out))).trans (blk_drew HXA.out)) hg7 (Kd.R_ne (Kd.R_below (Kd.R_drew HRA.out) HB5.out) ((HB5.out.block _ (blk_lt (blk_drew HXA.out))).trans (blk_drew HXA.out)) (by decide)))
                 have HO7 := Aside0.mk (blk_grown ((HB5.out.block _ (blk_lt (blk_drew HOA.out))).trans (blk_drew HOA.out)) hg7 (Kd.R_ne (Kd.R_below (Kd.R_drew HRA.out) HB5.out) ((HB5.out.block _ (blk_lt (blk_drew HOA.out))).trans (blk_drew HOA.out)) (by decide)))
                 clear hR7 hB7 hg7 hat7))
            all_goals
              go_wp2
              go_roundw
              case rel => exact ⟨j + 1, _, by go_num, HLT.out, HLB, HR7, HRK2, HB7, HX7, HO7⟩
              case measure => have hlt_ := HLT.out; simp [intOf]; omega
          · obtain rfl : j = (T.kids x).length := by omega
            have hd2 := HRKJ.out
            rw [List.drop_length, rkids] at hd2
            obtain rfl := Option.some.inj hd2
            clear hd2 HRKJ
            cases o with
            | false =>
              go_wp2
              go_ret
              exact ⟨_, rfl, by simpa using HRA.out, HBA.out⟩
            | true =>
              go_wp2_with ((with_reducible refine gate_builtin (b := .append) (xs := #[.tmp 46, .tmp 47]) rfl ?_); at_builtin; go_loud (refine Kd.R_append (Kd.int .u8) (w0 := w) (W := wr) w.heap.size rfl (.tmp 46) (.tmp 47) 28 5 (.int .u8 0) 1 rfl Try.underlying28 info5 rfl (by decide) (by omega) (.slice A3 n3 c3) acc 255 [.int .u8 255] (fun _ => True) (fun _ => False) rfl rfl rfl (fun _ h => h.elim) (fun _ _ => trivial) HRA.out HBA.out HBA.out.size ?aL ?_); (case aL => have h := HLA.out; omega); intro v1 w1 hR1 hB1 hg1 hat1; have HR1 := Aside0.mk hR1; have HB1 := Aside0.mk hB1; clear hR1 hB1 hg1 hat1)
              go_ret
              exact ⟨_, rfl, by simpa using HR1.out, HB1.out⟩
  exact main _ rfl
end
end Go.Proofs.Ytlbdjjiblhdpmaa.Cw
