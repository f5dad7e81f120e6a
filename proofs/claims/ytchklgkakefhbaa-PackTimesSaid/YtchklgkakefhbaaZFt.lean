-- Out of texts of this seat by a program of this session: what the claim does not reach is struck
import Derived.Test.YtchklgkakefhbaaZGt
import Derived.Test.YtchklgkakefhbaaZEnc
namespace Go.Proofs.Ytchklgkakefhbaa.Wr
open Go Go.RowKit Go.Shelf Go.Proofs.Ytchklgkakefhbaa.Each Go.Proofs.YtchklgkakefhbaaW.PrintWords Go.Proofs.YtchklgkakefhbaaW.PrintLast
set_option linter.unusedVariables false
set_option linter.unusedSimpArgs false
def ftB (x n : Int) : List Int := if x / 17179869184 ≠ 0 then outR n 4 ++ outR x 8 else if x / 4294967296 ≠ 0 ∨ n ≠ 0 then outR (Go.bits .or .u64 (n * 17179869184) x) 8 else outR x 4
set_option maxRecDepth 100000 in
set_option maxHeartbeats 8000000 in
theorem fromtime_bad (s n : Int) (hn : 1000000000 ≤ n) (w : World) : Calls Try.prog 11 #[.int .i64 s, .int .u32 n] w fun e w' => e = .returned (.tuple #[.agg #[.int .i64 0, .bool false, .int .u64 0, .string ⟨#[]⟩, .slice none 0 0], .int .i64 1]) ∧ Below w.heap.size w w' := by
  have hb : decide (1000000000 ≤ n) = true := decide_eq_true hn
  go_enter Try.func11, Try.ntmps11
  go_wp2
  have hc := cells5 (World.alloc_heap_new w (.cells #[.int .i64 0, .bool false, .int .u64 0, .string ⟨#[]⟩, .slice none 0 0] 25))
  exact bodyPost_ret (v := .tuple #[.agg #[.int .i64 0, .bool false, .int .u64 0, .string ⟨#[]⟩, .slice none 0 0], .int .i64 1]) (by simp [results, Try.results11, go_sem]) rfl ⟨rfl, below_alloc (Below.refl _ _) _⟩
set_option maxRecDepth 100000 in
set_option maxHeartbeats 8000000 in
theorem fromtime_ok (s n : Int) (h0 : 0 ≤ n) (hn : n < 1000000000) (w : World) : Calls Try.prog 11 #[.int .i64 s, .int .u32 n] w fun e w' => e = .returned (.tuple #[.agg #[.int .i64 14, .bool false, .int .u64 255, .string (strOfNums (ftB (IntKind.u64.wrap s) n)), .slice none 0 0], .int .i64 0]) ∧ Below w.heap.size w w' := by
  have hb : decide (1000000000 ≤ n) = false := decide_eq_false (by omega)
  obtain ⟨X, hX⟩ : ∃ X, IntKind.u64.wrap s = X := ⟨_, rfl⟩
  have hX0 : 0 ≤ X := by rw [← hX]; simp [IntKind.wrap, IntKind.bits, IntKind.signed]; omega
  have hX1 : X ≤ 18446744073709551615 := by rw [← hX]; simp [IntKind.wrap, IntKind.bits, IntKind.signed]; omega
  have hun : IntKind.u64.wrap n = n := by simp [IntKind.wrap, IntKind.bits, IntKind.signed]; omega
  rw [hX]
  go_enter Try.func11, Try.ntmps11
  go_upto_block 0 with fail
  obtain ⟨W1, hW1⟩ : ∃ W1, (w.alloc (.cells #[.int .i64 0, .bool false, .int .u64 0, .string ⟨#[]⟩, .slice none 0 0] 25 (0, 0))).alloc (.cells #[.slice none 0 0] 46 (0, 0)) = W1 := ⟨_, rfl⟩
  have hz1 : W1.heap.size = w.heap.size + 2 := by rw [← hW1, World.size_alloc, World.size_alloc]
  have hr1 : W1.heap[w.heap.size]? = some (.cells #[.int .i64 0, .bool false, .int .u64 0, .string ⟨#[]⟩, .slice none 0 0] 25 (0, 0)) := by rw [← hW1]; exact blk_alloc (World.alloc_heap_new w _) _
  have hw1 : W1.heap[w.heap.size + 1]? = some (.cells #[.slice none 0 0] 46 (0, 0)) := by rw [← hW1, ← World.size_alloc w (.cells #[.int .i64 0, .bool false, .int .u64 0, .string ⟨#[]⟩, .slice none 0 0] 25 (0, 0))]; exact World.alloc_heap_new _ _
  have hb1 : Below w.heap.size w W1 := by rw [← hW1]; exact below_alloc (below_alloc (Below.refl _ _) _) _
  have HST := Aside0.mk (show St (w.heap.size + 1) w.heap.size W1 [] from ⟨⟨_, hw1, Kd.R_nil _ _ _ _ _⟩, by omega⟩)
  have HR1 := Aside0.mk hr1
  have HB1 := Aside0.mk hb1
  have HZ1 := Aside0.mk hz1
  clear hr1 hw1 hb1 hz1
  rw [hW1]
  obtain ⟨B, hB⟩ : ∃ B, ftB X n = B := ⟨_, rfl⟩
  have HBB := Aside0.mk hB
  clear hB hX
  go_cut [] (fun wx => Aside0 (St (w.heap.size + 1) w.heap.size wx (0 :: B)) ∧ Aside0 (Ke w.heap.size W1 wx))
  case first =>
    by_cases h34 : X / 17179869184 = 0
    · have q34 : (X / 17179869184 != 0) = false := by simp [h34]
      by_cases h32 : X / 4294967296 = 0
      · have q32 : (X / 4294967296 != 0) = false := by simp [h32]
        by_cases hz : n = 0
        · subst hz
          have HV := Aside0.mk (show outR X 4 = B by rw [← HBB.out, ftB, if_neg (by omega), if_neg (by omega)])
          go_wp2_with (go_at_call 22; go_loud (refine (put_calls (w.heap.size + 1) w.heap.size (by omega) 0 X 4 (by omega) W1 [] HST.out (by simp)).mono ?_); rintro e W2 ⟨rfl, hs2, hk2⟩; have HS2 := Aside0.mk hs2; have HK2 := Aside0.mk hk2; clear hs2 hk2)
          go_meet
          exact ⟨⟨by rw [← HV.out]; simpa using HS2.out⟩, HK2⟩
        · have qz : (n != 0) = true := by simp [hz]
          have HV := Aside0.mk (show outR (Go.bits .or .u64 (n * 17179869184) X) 8 = B by rw [← HBB.out, ftB, if_neg (by omega), if_pos (Or.inr hz)])
          go_wp2_with (go_at_call 22; go_loud (refine (put_calls (w.heap.size + 1) w.heap.size (by omega) 0 (Go.bits .or .u64 (n * 17179869184) X) 8 (by omega) W1 [] HST.out (by simp)).mono ?_); rintro e W2 ⟨rfl, hs2, hk2⟩; have HS2 := Aside0.mk hs2; have HK2 := Aside0.mk hk2; clear hs2 hk2)
          go_meet
          exact ⟨⟨by rw [← HV.out]; simpa using HS2.out⟩, HK2⟩
      · have q32 : (X / 4294967296 != 0) = true := by simp [h32]
        have HV := Aside0.mk (show outR (Go.bits .or .u64 (n * 17179869184) X) 8 = B by rw [← HBB.out, ftB, if_neg (by omega), if_pos (Or.inl h32)])
        go_wp2_with (go_at_call 22; go_loud (refine (put_calls (w.heap.size + 1) w.heap.size (by omega) 0 (Go.bits .or .u64 (n * 17179869184) X) 8 (by omega) W1 [] HST.out (by simp)).mono ?_); rintro e W2 ⟨rfl, hs2, hk2⟩; have HS2 := Aside0.mk hs2; have HK2 := Aside0.mk hk2; clear hs2 hk2)
        go_meet
        exact ⟨⟨by rw [← HV.out]; simpa using HS2.out⟩, HK2⟩
    · have q34 : (X / 17179869184 != 0) = true := by simp [h34]
      have HV := Aside0.mk (show outR n 4 ++ outR X 8 = B by rw [← HBB.out, ftB, if_pos h34])
      have tok1 : True := trivial
      go_wp2_with (first
        | (go_at_call 22; have _t := tok1; clear _t tok1; (try rw [hun]); refine (put_calls (w.heap.size + 1) w.heap.size (by omega) 0 n 4 (by omega) W1 [] HST.out (by simp)).mono ?_; rintro e W2 ⟨rfl, hs2, hk2⟩; have HS2 := Aside0.mk hs2; have HK2 := Aside0.mk hk2; have HST3 := Aside0.mk (show St W2.heap.size W2.heap.size (W2.alloc (.cells #[.slice none 0 0] 46)) [] from ⟨⟨_, World.alloc_heap_new W2 _, Kd.R_nil _ _ _ _ _⟩, by rw [World.size_alloc]; omega⟩); clear hs2 hk2)
        | (go_at_call 22; go_loud (refine (put_calls W2.heap.size W2.heap.size (Nat.le_refl _) 0 X 8 (by omega) (W2.alloc (.cells #[.slice none 0 0] 46)) [] HST3.out (by simp)).mono ?_); rintro e W4 ⟨rfl, hs4, hk4⟩; obtain ⟨v4, hv4, hr4⟩ := hs4.row; obtain ⟨A4, n4, c4, rfl⟩ := slice_of hr4; have hcv4 := (blk_cell hv4 0).trans (rfl : _ = some (Value.slice A4 n4 c4)); have HR4 := Aside0.mk hr4; have HB4 := Aside0.mk ((below_alloc (Below.refl W2.heap.size W2) (.cells #[.slice none 0 0] 46)).trans hk4.below); clear hs4 hk4 hv4 hr4))
      obtain ⟨v2, hv2, hr2⟩ := HS2.out.row
      obtain ⟨A2, n2, c2, rfl⟩ := slice_of hr2
      have hv5 := blk_drew ((HB4.out.block _ (blk_lt hv2)).trans hv2)
      have HV5 := Aside0.mk hv5
      have hcv5 : W4.cell? ⟨w.heap.size + 1, 0, none⟩ = some (.slice A2 n2 c2) := (blk_cell ((HB4.out.block _ (blk_lt hv2)).trans hv2) 0).trans rfl
      have HR5 := Aside0.mk (Kd.R_drew (Kd.R_below hr2 HB4.out))
      have HR6 := Aside0.mk (Kd.R_drew HR4.out)
      obtain ⟨i0, hi, hz0, hz1, hz2⟩ := info_parts info5
      obtain ⟨hl4, hc4, hC4⟩ := Kd.R_reads' HR6.out
      subst hl4
      obtain ⟨A6, hrun6, hC6, hle6⟩ := print_drop_of (P := Try.prog) (Value.int .u8) (0 : Int) 26 5 .i64 Try.underlying26 hi hz1 A4 c4 ([] ++ 0 :: outR X 8) 1 (by omega) (by simp; omega) hc4
      have hC7 := Kd.C_of_reads (enc := Value.int .u8) (h1 := fun _ => rfl) (hC6 W4.drew (Kd.reads_of_C (enc := Value.int .u8) (h1 := fun _ => rfl) hC4))
      simp only [List.nil_append, Int.toNat_one, List.drop_succ_cons, List.drop_zero, List.length_cons, outR_len] at hrun6 hcv4 hC7
      have HC7 := Aside0.mk hC7
      have hs4 : w.heap.size ≤ W4.drew.heap.size := Nat.le_trans HS2.out.size HB4.out.size
      clear hv5 hv2 hr2 hC4 hC6 hC7 hc4 hle6
      try simp only [List.nil_append, List.length_cons, outR_len]
      go_wp2
      go_region_law (first
        | (refine Kd.R_append_rows_step (Kd.int .u8) (w0 := W4.drew) (W := W4.drew) w.heap.size (by rfl) (.tmp 36) (.tmp 41) 26 5 (.int .u8 0) 1 rfl Try.underlying26 info5 rfl (by decide) (by omega) (.slice A2 n2 c2) ([] ++ 0 :: outR n 4) (outR X 8) A6 8 (c4 - 1) (fun _ => True) (fun _ => False) (by simp [Act.eval, Act.put]) (by simp [Act.eval, Act.put]) HR5.out HC7.out (fun _ _ h => h) (fun _ h => h.elim) (fun _ _ => trivial) (Below.refl _ _) hs4 (by simp [outR_len]) ?_
           intro v7 W7 hR7 hB7 hg7 hat7
           obtain ⟨A7, n7, c7, rfl⟩ := slice_of hR7
           have hbv := blk_grown HV5.out hg7 (Kd.R_ne HR5.out HV5.out (by decide))
           have hcz7 := (blk_cell hbv 0).trans (rfl : _ = some (Value.slice A2 n2 c2))
           have hfz7 := blk_frozen hbv 0
           obtain ⟨hp1, hp2⟩ := St.put (by omega : w.heap.size ≤ w.heap.size + 1) hs4 HV5.out HR5.out hR7 hg7
           have HS7 := Aside0.mk hp1
           have HK7 := Aside0.mk hp2
           clear hR7 hB7 hg7 hat7 hbv hp1 hp2))
      all_goals
        go_wp2
        go_meet
        refine ⟨⟨?_⟩, ⟨HK2.out.trans ((Ke.of_below HS2.out.size (HB4.out.trans ((below_drew (Below.refl _ _)).mono HB4.out.size))).trans HK7.out)⟩⟩
        rw [← HV.out]
        have h9 := HS7.out
        simpa using h9
  case rest =>
    obtain ⟨HS3, HK3⟩ := hcut
    obtain ⟨v3, hv3, hrow3⟩ := HS3.out.row
    obtain ⟨A3, n3, c3, rfl⟩ := slice_of hrow3
    have hcv3 := (blk_cell hv3 0).trans (rfl : _ = some (Value.slice A3 n3 c3))
    have hr3 := HK3.out.cells _ _ _ _ (by decide) (by decide) HR1.out
    obtain ⟨i0, hi, hz0, hz1, hz2⟩ := info_parts info5
    obtain ⟨hl3, hc3, hC3⟩ := Kd.R_reads' hrow3
    subst hl3
    obtain ⟨A4, hrun4, hC4, hle4⟩ := print_drop_of (P := Try.prog) (Value.int .u8) (0 : Int) 26 5 .i64 Try.underlying26 hi hz1 A3 c3 (0 :: B) 1 (by omega) (by simp; omega) hc3
    have hlen3 : 1 ≤ (0 :: B).length := by simp
    obtain ⟨e0, e1, e2, e3, e4⟩ := cells5 hr3
    have hfz0 := blk_frozen hr3 0
    have hfz1 := blk_frozen hr3 1
    have hfz2 := blk_frozen hr3 2
    have hfz3 := blk_frozen hr3 3
    have hfz4 := blk_frozen hr3 4
    have hC5 := Kd.C_of_reads (enc := Value.int .u8) (h1 := fun _ => rfl) (hC4 wc (Kd.reads_of_C (enc := Value.int .u8) (h1 := fun _ => rfl) hC3))
    have hcv := Kd.C_string (P := Try.prog) (A := A4) (c := c3 - 1) Try.underlying26 Try.underlying5 Try.underlying9 hC5
    simp only [Int.toNat_one, List.drop_succ_cons, List.drop_zero] at hrun4 hcv
    simp only [List.length_cons] at hrun4 hcv3
    clear hC3 hC4 hC5 hle4 hc3 hlen3 hv3 hrow3
    have HR3 := Aside0.mk hr3
    clear hr3
    go_wp2
    have s4 := blk_set (blk_set (blk_set (blk_set (blk_set HR3.out 0 (.int .i64 14)) 1 (.bool false)) 2 (.int .u64 255)) 3 (.string (strOfNums B))) 4 (.slice none 0 0)
    have hc := cells5 (a := .int .i64 14) (b := .bool false) (c := .int .u64 255) (d := .string (strOfNums B)) (e := .slice none 0 0) (t := 25) s4
    exact bodyPost_ret (v := .tuple #[.agg #[.int .i64 14, .bool false, .int .u64 255, .string (strOfNums B), .slice none 0 0], .int .i64 0]) (by simp [results, Try.results11, go_sem, hc]) rfl ⟨by rw [HBB.out], ((((((HB1.out.trans HK3.out.below).setCell (p := ⟨w.heap.size, 0, none⟩) (Nat.le_refl _) _).setCell (p := ⟨w.heap.size, 1, none⟩) (Nat.le_refl _) _).setCell (p := ⟨w.heap.size, 2, none⟩) (Nat.le_refl _) _).setCell (p := ⟨w.heap.size, 3, none⟩) (Nat.le_refl _) _).setCell (p := ⟨w.heap.size, 4, none⟩) (Nat.le_refl _) _)⟩
end Go.Proofs.Ytchklgkakefhbaa.Wr
