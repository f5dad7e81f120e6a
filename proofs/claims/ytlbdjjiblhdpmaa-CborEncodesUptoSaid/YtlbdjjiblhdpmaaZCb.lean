-- Out of texts of this seat by a program of this session: what the claim does not reach is struck
import Derived.Test.YtlbdjjiblhdpmaaZCh
import Derived.Test.YtlbdjjiblhdpmaaZWLast
import Derived.Test.YtlbdjjiblhdpmaaZWMore
import Derived.Shelf.Abstract
import Derived.OwnWalk
import Derived.Lib.AppendStr
import Derived.Deep.RegionLawGrows
namespace Go.Proofs.Ytlbdjjiblhdpmaa.Cw
open Go Go.RowKit Go.Shelf Go.Proofs.Ytlbdjjiblhdpmaa.Each Go.Proofs.YtlbdjjiblhdpmaaW.PrintWords Go.Proofs.YtlbdjjiblhdpmaaW.PrintLast
set_option linter.unusedVariables false
set_option linter.unusedSimpArgs false
section
variable (o : Bool) (i : Int) (s : Bool)
theorem headP_len (M n : Int) : (headP M n).length ≤ 9 := by have := szR_le n; unfold headP tlP; split <;> simp [outR_len] <;> omega
def begP (M n : Int) : List Int := if o = true then [M * 32 + 31] else headP M n
theorem begP_len (M n : Int) : (begP o M n).length ≤ 9 := by have := headP_len M n; unfold begP; split <;> simp <;> omega
set_option maxRecDepth 100000 in
set_option maxHeartbeats 4000000 in
theorem begin_calls (g n0 : Nat) (hg : n0 ≤ g) (M n : Int) (h0 : 0 ≤ M) (h7 : M ≤ 7) (hn0 : 0 ≤ n) (hn1 : n ≤ 9223372036854775807) (W : World) (xs : List Int) (hst : St o i s g n0 W xs) (hlen : xs.length ≤ 1099511627776) :
    Calls Try.prog 24 #[.pointer (some ⟨g, 0, none⟩), .int .i64 M, .int .i64 n] W fun e W' => e = .returned (.tuple #[]) ∧ St o i s g n0 W' (xs ++ begP o M n) ∧ Ke n0 W W' := by
  have HST := Aside0.mk hst
  obtain ⟨⟨v, hv, hrow⟩, hsz⟩ := hst
  obtain ⟨A0, m0, c0, rfl⟩ := slice_of hrow
  obtain ⟨hvc, hvo, -, -⟩ := cells4 hv
  cases o with
  | false =>
    have hu : IntKind.u64.wrap n = n := by simp [IntKind.wrap, IntKind.bits, IntKind.signed]; omega
    clear hv hrow
    go_enter Try.func24, Try.ntmps24
    go_wp2_with (go_at_call 20; (try rw [hu]); refine (head_calls false i s g n0 hg M n h0 h7 hn0 (by omega) W xs HST.out hlen).mono ?_; rintro e W2 ⟨rfl, hs2, hk2⟩; have HS2 := Aside0.mk hs2; have HK2 := Aside0.mk hk2; clear hs2 hk2)
    go_end0
    exact ⟨rfl, HS2.out, HK2.out⟩
  | true =>
    have HV := Aside0.mk hv
    have HR := Aside0.mk hrow
    have hor := or_31 M h0 h7
    have hw : IntKind.u8.wrap (M * 32 + 31) = M * 32 + 31 := by rw [u8_wrap]; omega
    clear hv hrow
    go_enter Try.func24, Try.ntmps24
    go_wp2_with ((with_reducible refine gate_builtin (b := .append) (xs := #[.tmp 15, .tmp 20]) rfl ?_); at_builtin; go_loud (refine Kd.R_append (Kd.int .u8) (w0 := W) (W := W) n0 rfl (.tmp 15) (.tmp 20) 28 5 (.int .u8 0) 1 rfl Try.underlying28 info5 rfl (by decide) (by omega) (.slice A0 m0 c0) xs (M * 32 + 31) [.int .u8 (M * 32 + 31)] (fun _ => True) (fun _ => False) rfl rfl rfl (fun _ h => h.elim) (fun _ _ => trivial) HR.out (Below.refl _ _) hsz ?aL ?_); (case aL => omega); intro v1 w1 hR1 hB1 hg1 hat1; obtain ⟨A1, n1, c1, rfl⟩ := slice_of hR1; have hbv := blk_grown HV.out hg1 (Kd.R_ne HR.out HV.out (by decide)); have hcz := (blk_cell hbv 0).trans (rfl : _ = some (Value.slice A0 m0 c0)); have hfz := blk_frozen hbv 0; obtain ⟨hp1, hp2⟩ := St.put true i s hg hsz HV.out HR.out hR1 hg1; have HS1 := Aside0.mk hp1; have HK1 := Aside0.mk hp2; clear hR1 hB1 hg1 hat1 hbv hp1 hp2)
    (try simp only [Exit.inBlock, Exit.then]); refine bodyPost_ret (results_none rfl _ _ _) rfl ?_
    exact ⟨rfl, by simpa [begP] using HS1.out, HK1.out⟩
def txtP (M : Int) (t : ByteArray) : List Int := begP o M (t.size : Int) ++ ((if o = true ∧ 0 < t.size then headP M (t.size : Int) else []) ++ (bytesOf t ++ (if o = true then [255] else [])))
theorem empty_list (t : ByteArray) : t.toList = [] ↔ t.size = 0 := by
  rw [show t.toList = t.data.toList from ByteArray.toList_eq t, ← List.length_eq_zero_iff, data_length]
set_option maxRecDepth 100000 in
set_option maxHeartbeats 8000000 in
theorem text_calls (g n0 : Nat) (hg : n0 ≤ g) (M : Int) (h0 : 0 ≤ M) (h7 : M ≤ 7) (t : ByteArray) (W : World) (xs : List Int) (hst : St o i s g n0 W xs) (hlen : xs.length + t.size ≤ 1099511627700) :
    Calls Try.prog 23 #[.pointer (some ⟨g, 0, none⟩), .int .i64 M, .string t] W fun e W' => e = .returned (.tuple #[]) ∧ St o i s g n0 W' (xs ++ txtP o M t) ∧ Ke n0 W W' := by
  have HST := Aside0.mk hst
  clear hst
  have hu : IntKind.u64.wrap (t.size : Int) = (t.size : Int) := by simp [IntKind.wrap, IntKind.bits, IntKind.signed]; omega
  have HBL := Aside0.mk (begP_len o M (t.size : Int))
  have HHL := Aside0.mk (headP_len M (t.size : Int))
  obtain ⟨B1, hB1⟩ : ∃ B1, begP o M (t.size : Int) = B1 := ⟨_, rfl⟩
  obtain ⟨H1, hH1⟩ : ∃ H1, (if o = true ∧ 0 < t.size then headP M (t.size : Int) else []) = H1 := ⟨_, rfl⟩
  have HB1 := Aside0.mk hB1
  have HH1 := Aside0.mk hH1
  have hBl : B1.length ≤ 9 := by rw [← hB1]; exact HBL.out
  have hHl : H1.length ≤ 9 := by rw [← hH1]; have := HHL.out; split <;> simp <;> omega
  clear hB1 hH1
  cases o with
  | false =>
    have HH2 := Aside0.mk (show (if false = true ∧ 0 < t.size then headP M (t.size : Int) else []) = [] by simp)
    go_enter Try.func23, Try.ntmps23
    go_wp2_with (first
      | (go_at_call 24; go_loud (refine (begin_calls false i s g n0 hg M (t.size : Int) h0 h7 (by omega) (by omega) W xs HST.out (by omega)).mono ?_); rintro e W2 ⟨rfl, hs2, hk2⟩; rw [HB1.out] at hs2; obtain ⟨v3, hv3, hrow3⟩ := hs2.row; obtain ⟨A3, n3, c3, rfl⟩ := slice_of hrow3; obtain ⟨hc30, hc31, -, -⟩ := cells4 hv3; have HV3 := Aside0.mk hv3; have HR3 := Aside0.mk hrow3; have HS2 := Aside0.mk hs2; have HK2 := Aside0.mk hk2; have hz2 := hs2.size; clear hs2 hk2 hv3 hrow3)
      | (at_builtin; go_loud (refine print_append_str (w0 := W2) (W := W2) n0 rfl (.tmp 30) _ 28 9 5 rfl Try.underlying28 Try.underlying9 info5 (.slice A3 n3 c3) (xs ++ B1) t rfl rfl (Kd.own_of_R HR3.out) (Below.refl _ _) hz2 ?aL ?_); (case aL => simp only [List.length_append]; omega); intro v5 w5 hR5 hB5 hg5; have hr5 : BR w5 n0 v5 ((xs ++ B1) ++ bytesOf t) := Kd.R_of_own hR5 (fun _ _ => trivial); obtain ⟨A5, n5, c5, rfl⟩ := slice_of hr5; have hbv := blk_grown HV3.out hg5 (Kd.R_ne HR3.out HV3.out (by decide)); have hcz := (blk_cell hbv 0).trans (rfl : _ = some (Value.slice A3 n3 c3)); have hfz := blk_frozen hbv 0; obtain ⟨hp1, hp2⟩ := St.put false i s hg hz2 HV3.out HR3.out hr5 hg5; have HS5 := Aside0.mk hp1; have HK5 := Aside0.mk hp2; clear hR5 hr5 hB5 hg5 hbv hp1 hp2)
      | (go_at_call 25; go_loud (refine (end_calls false i s g n0 hg _ _ HS5.out (by simp only [List.length_append, bytesOf_length]; omega)).mono ?_); rintro e W6 ⟨rfl, hs6, hk6⟩; have HS6 := Aside0.mk hs6; have HK6 := Aside0.mk hk6; clear hs6 hk6))
    go_end0
    refine ⟨rfl, ?_, HK2.out.trans ((HK5.out.trans HK6.out))⟩
    have h9 := HS6.out
    simp only [txtP, HB1.out]
    rw [HH2.out]
    simpa using h9
  | true =>
    by_cases hp : 0 < t.size
    · have HH2 := Aside0.mk (show (if true = true ∧ 0 < t.size then headP M (t.size : Int) else []) = H1 from HH1.out)
      replace HH1 := Aside0.mk (show headP M (t.size : Int) = H1 by have h := HH1.out; rw [if_pos ⟨rfl, hp⟩] at h; exact h)
      have hne : t.toList.isEmpty = false := by rw [List.isEmpty_eq_false_iff]; intro h; rw [empty_list] at h; omega
      go_enter Try.func23, Try.ntmps23
      go_wp2_with (first
        | (go_at_call 24; go_loud (refine (begin_calls true i s g n0 hg M (t.size : Int) h0 h7 (by omega) (by omega) W xs HST.out (by omega)).mono ?_); rintro e W2 ⟨rfl, hs2, hk2⟩; rw [HB1.out] at hs2; obtain ⟨v3, hv3, hrow3⟩ := hs2.row; obtain ⟨A3, n3, c3, rfl⟩ := slice_of hrow3; obtain ⟨hc30, hc31, -, -⟩ := cells4 hv3; have HV3 := Aside0.mk hv3; have HR3 := Aside0.mk hrow3; have HS2 := Aside0.mk hs2; have HK2 := Aside0.mk hk2; have hz2 := hs2.size; clear hs2 hk2 hv3 hrow3)
        | (go_at_call 20; (try rw [hu]); go_loud (refine (head_calls true i s g n0 hg M (t.size : Int) h0 h7 (by omega) (by omega) W2 (xs ++ B1) HS2.out (by simp only [List.length_append]; omega)).mono ?_); rintro e W3 ⟨rfl, hs3, hk3⟩; rw [HH1.out] at hs3; obtain ⟨v4, hv4, hrow4⟩ := hs3.row; obtain ⟨A4, n4, c4, rfl⟩ := slice_of hrow4; obtain ⟨hc40, hc41, -, -⟩ := cells4 hv4; have HV4 := Aside0.mk hv4; have HR4 := Aside0.mk hrow4; have HS3 := Aside0.mk hs3; have HK3 := Aside0.mk hk3; have hz3 := hs3.size; clear hs3 hk3 hv4 hrow4)
        | (at_builtin; go_loud (refine print_append_str (w0 := W3) (W := W3) n0 rfl (.tmp 30) _ 28 9 5 rfl Try.underlying28 Try.underlying9 info5 (.slice A4 n4 c4) (xs ++ B1 ++ H1) t rfl rfl (Kd.own_of_R HR4.out) (Below.refl _ _) hz3 ?aL ?_); (case aL => simp only [List.length_append]; omega); intro v5 w5 hR5 hB5 hg5; have hr5 : BR w5 n0 v5 ((xs ++ B1 ++ H1) ++ bytesOf t) := Kd.R_of_own hR5 (fun _ _ => trivial); obtain ⟨A5, n5, c5, rfl⟩ := slice_of hr5; have hbv := blk_grown HV4.out hg5 (Kd.R_ne HR4.out HV4.out (by decide)); have hcz := (blk_cell hbv 0).trans (rfl : _ = some (Value.slice A4 n4 c4)); have hfz := blk_frozen hbv 0; obtain ⟨hp1, hp2⟩ := St.put true i s hg hz3 HV4.out HR4.out hr5 hg5; have HS5 := Aside0.mk hp1; have HK5 := Aside0.mk hp2; clear hR5 hr5 hB5 hg5 hbv hp1 hp2)
        | (go_at_call 25; go_loud (refine (end_calls true i s g n0 hg _ _ HS5.out (by simp only [List.length_append, bytesOf_length]; omega)).mono ?_); rintro e W6 ⟨rfl, hs6, hk6⟩; have HS6 := Aside0.mk hs6; have HK6 := Aside0.mk hk6; clear hs6 hk6))
      go_end0
      refine ⟨rfl, ?_, HK2.out.trans (HK3.out.trans (HK5.out.trans HK6.out))⟩
      have h9 := HS6.out
      simp only [txtP, HB1.out]
      rw [HH2.out]
      simpa using h9
    · have HH2 := Aside0.mk (show (if true = true ∧ 0 < t.size then headP M (t.size : Int) else []) = [] by simp [hp])
      have hne : t.toList.isEmpty = true := by rw [List.isEmpty_iff, empty_list]; omega
      go_enter Try.func23, Try.ntmps23
      go_wp2_with (first
        | (go_at_call 24; go_loud (refine (begin_calls true i s g n0 hg M (t.size : Int) h0 h7 (by omega) (by omega) W xs HST.out (by omega)).mono ?_); rintro e W2 ⟨rfl, hs2, hk2⟩; rw [HB1.out] at hs2; obtain ⟨v3, hv3, hrow3⟩ := hs2.row; obtain ⟨A3, n3, c3, rfl⟩ := slice_of hrow3; obtain ⟨hc30, hc31, -, -⟩ := cells4 hv3; have HV3 := Aside0.mk hv3; have HR3 := Aside0.mk hrow3; have HS2 := Aside0.mk hs2; have HK2 := Aside0.mk hk2; have hz2 := hs2.size; clear hs2 hk2 hv3 hrow3)
        | (at_builtin; go_loud (refine print_append_str (w0 := W2) (W := W2) n0 rfl (.tmp 30) _ 28 9 5 rfl Try.underlying28 Try.underlying9 info5 (.slice A3 n3 c3) (xs ++ B1) t rfl rfl (Kd.own_of_R HR3.out) (Below.refl _ _) hz2 ?aL ?_); (case aL => simp only [List.length_append]; omega); intro v5 w5 hR5 hB5 hg5; have hr5 : BR w5 n0 v5 ((xs ++ B1) ++ bytesOf t) := Kd.R_of_own hR5 (fun _ _ => trivial); obtain ⟨A5, n5, c5, rfl⟩ := slice_of hr5; have hbv := blk_grown HV3.out hg5 (Kd.R_ne HR3.out HV3.out (by decide)); have hcz := (blk_cell hbv 0).trans (rfl : _ = some (Value.slice A3 n3 c3)); have hfz := blk_frozen hbv 0; obtain ⟨hp1, hp2⟩ := St.put true i s hg hz2 HV3.out HR3.out hr5 hg5; have HS5 := Aside0.mk hp1; have HK5 := Aside0.mk hp2; clear hR5 hr5 hB5 hg5 hbv hp1 hp2)
        | (go_at_call 25; go_loud (refine (end_calls true i s g n0 hg _ _ HS5.out (by simp only [List.length_append, bytesOf_length]; omega)).mono ?_); rintro e W6 ⟨rfl, hs6, hk6⟩; have HS6 := Aside0.mk hs6; have HK6 := Aside0.mk hk6; clear hs6 hk6))
      go_end0
      refine ⟨rfl, ?_, HK2.out.trans ((HK5.out.trans HK6.out))⟩
      have h9 := HS6.out
      simp only [txtP, HB1.out]
      rw [HH2.out]
      simpa using h9
def fltP (z : Nat) (n : Int) : List Int := (248 + (z : Int)) :: outR n (2 ^ z)
theorem or_224 (z : Nat) (hz : z ≤ 3) : bits BinOp.or IntKind.u8 224 (24 + (z : Int)) = 248 + (z : Int) := by
  have hd : ∀ a : Fin 4, bits BinOp.or IntKind.u8 224 (24 + ((a.val : Nat) : Int)) = 248 + ((a.val : Nat) : Int) := by decide +kernel
  exact hd ⟨z, by omega⟩
set_option maxRecDepth 100000 in
set_option maxHeartbeats 8000000 in
theorem bits_calls (g n0 : Nat) (hg : n0 ≤ g) (z : Nat) (hz : z ≤ 3) (n : Int) (W : World) (xs : List Int) (hst : St o i s g n0 W xs) (hlen : xs.length ≤ 1099511627700) :
    Calls Try.prog 22 #[.pointer (some ⟨g, 0, none⟩), .int .u8 (24 + (z : Int)), .int .u64 n] W fun e W' => e = .returned (.tuple #[]) ∧ St o i s g n0 W' (xs ++ fltP z n) ∧ Ke n0 W W' := by
  obtain ⟨⟨v, hv, hrow⟩, hsz⟩ := hst
  obtain ⟨A0, m0, c0, rfl⟩ := slice_of hrow
  have hvc := (blk_cell hv 0).trans (rfl : _ = some (Value.slice A0 m0 c0))
  have HV := Aside0.mk hv
  have HR := Aside0.mk hrow
  have ho := or_224 z hz
  have hw : IntKind.u8.wrap (24 + (z : Int) - 24) = (z : Int) := by rw [u8_wrap]; omega
  obtain ⟨k, hk⟩ : ∃ k : Nat, 2 ^ z = k := ⟨_, rfl⟩
  have hk8 : k ≤ 8 := by rw [← hk]; rcases (show z = 0 ∨ z = 1 ∨ z = 2 ∨ z = 3 by omega) with rfl | rfl | rfl | rfl <;> decide
  have hki : (2 : Int) ^ z = (k : Int) := by rw [← hk]; simp
  have hsh : IntKind.i64.wrap (8 * 2 ^ z) = 8 * (k : Int) := by rw [hki, i64_w]; unfold wrap64; omega
  have HP := Aside0.mk (show fltP z n = (248 + (z : Int)) :: outR n k by rw [fltP, hk])
  clear hv hrow hk
  go_enter Try.func22, Try.ntmps22
  go_wp2_with ((with_reducible refine gate_builtin (b := .append) (xs := #[.tmp 11, .tmp 14]) rfl ?_); at_builtin; go_loud (refine Kd.R_append (Kd.int .u8) (w0 := W) (W := W) n0 rfl (.tmp 11) (.tmp 14) 28 5 (.int .u8 0) 1 rfl Try.underlying28 info5 rfl (by decide) (by omega) (.slice A0 m0 c0) xs (248 + (z : Int)) [.int .u8 (248 + (z : Int))] (fun _ => True) (fun _ => False) rfl rfl rfl (fun _ h => h.elim) (fun _ _ => trivial) HR.out (Below.refl _ _) hsz ?aL ?_); (case aL => omega); intro v1 w1 hR1 hB1 hg1 hat1; obtain ⟨A1, n1, c1, rfl⟩ := slice_of hR1; have hbv := blk_grown HV.out hg1 (Kd.R_ne HR.out HV.out (by decide)); have hcz := (blk_cell hbv 0).trans (rfl : _ = some (Value.slice A0 m0 c0)); have hfz := blk_frozen hbv 0; obtain ⟨hp1, hp2⟩ := St.put o i s hg hsz HV.out HR.out hR1 hg1; have HS1 := Aside0.mk hp1; have HK1 := Aside0.mk hp2; clear hR1 hB1 hg1 hat1 hbv hp1 hp2)
  go_loopw [6] (fun v wr => ∃ (j : Nat) (ys : List Int), v = .int .i64 (8 * (j : Int) - 8) ∧ j ≤ k ∧ ys.length ≤ 1099511627776 ∧ Aside0 (ys ++ outR n j = xs ++ fltP z n) ∧ Aside0 (St o i s g n0 wr ys) ∧ Aside0 (Ke n0 W wr)) (fun v _ => (intOf v + 8).toNat)
  case atStart => exact ⟨k, xs ++ [248 + (z : Int)], by first | rfl | (simp; done), Nat.le_refl _, by simp; omega, ⟨by rw [HP.out]; simp⟩, HS1, HK1⟩
  case round =>
    obtain ⟨j, ys, rfl, hj, hys, HE, HS, HKE⟩ := hrel
    obtain ⟨v3, hv3, hrow3⟩ := HS.out.row
    obtain ⟨A3, n3, c3, rfl⟩ := slice_of hrow3
    have hcv3 := (blk_cell hv3 0).trans (rfl : _ = some (Value.slice A3 n3 c3))
    have HV3 := Aside0.mk hv3
    have HR3 := Aside0.mk hrow3
    have hs3 := HS.out.size
    clear hv3 hrow3
    cases j with
    | zero =>
      go_wp2
      go_end0
      exact ⟨rfl, by have h := HE.out; simp only [outR, List.append_nil] at h; rw [← h]; exact HS.out, HKE.out⟩
    | succ q =>
      rw [show (8 * ((q + 1 : Nat) : Int) - 8) = 8 * (q : Int) by omega]
      have HB8 := Aside0.mk (show (8 * q) ≤ 56 by omega)
      have HV4 := Aside0.mk (blk_drew HV3.out)
      have HR4 := Aside0.mk (Kd.R_drew HR3.out)
      have hs4 : n0 ≤ wr.drew.heap.size := hs3
      have hcb : (wr.alloc (.cells #[.int .u8 (IntKind.u8.wrap (n / 2 ^ (8 * (q : Int)).toNat))] 5)).cell? ⟨g, 0, none⟩ = some (.slice A3 n3 c3) := (blk_cell (blk_alloc HV3.out _) 0).trans rfl
      go_wp2
      go_region_law (first
        | (rw [alloc_drew]
           go_loud (refine Kd.R_append_step (Kd.int .u8) (w0 := wr.drew) (W := wr.drew) n0 rfl (.tmp 30) (.tmp 35) 28 5 (.int .u8 0) 1 rfl Try.underlying28 info5 rfl (by decide) (by omega) (.slice A3 n3 c3) ys (IntKind.u8.wrap (n / 2 ^ (8 * (q : Int)).toNat)) [.int .u8 (IntKind.u8.wrap (n / 2 ^ (8 * (q : Int)).toNat))] (fun _ => True) (fun _ => False) (by simp [Act.eval, Act.put]) (by simp [Act.eval, Act.put]) rfl (fun _ h => h.elim) (fun _ _ => trivial) HR4.out (Below.refl _ _) hs4 (by omega) ?_)
           intro v1 w5 hR1 hB1 hg1 hat1
           obtain ⟨A5, n5, c5, rfl⟩ := slice_of hR1
           have hbv := blk_grown HV4.out hg1 (Kd.R_ne HR4.out HV4.out (by decide))
           have hcz5 := (blk_cell hbv 0).trans (rfl : _ = some (Value.slice A3 n3 c3))
           have hfz5 := blk_frozen hbv 0
           obtain ⟨hp1, hp2⟩ := St.put o i s hg hs4 HV4.out HR4.out hR1 hg1
           have HS5 := Aside0.mk hp1
           have HK5 := Aside0.mk hp2
           clear hR1 hB1 hg1 hat1 hbv hp1 hp2))
      all_goals
        have HE5 : Aside0 ((ys ++ [IntKind.u8.wrap (n / 2 ^ (8 * (q : Int)).toNat)]) ++ outR n q = xs ++ fltP z n) := ⟨by
          rw [← HE.out, u8_wrap, show (8 * (q : Int)).toNat = 8 * q by omega]
          simp [outR]⟩
        have HL5 : Aside0 ((ys ++ [IntKind.u8.wrap (n / 2 ^ (8 * (q : Int)).toNat)]).length ≤ 1099511627776) := ⟨by
          have h := congrArg List.length HE5.out
          have h2 := congrArg List.length HP.out
          simp only [List.length_append, List.length_cons, outR_len, List.length_nil] at h h2 ⊢
          omega⟩
        have HK6 : Aside0 (Ke n0 W (w5.setCell ⟨g, 0, none⟩ (.slice A5 n5 c5))) := ⟨HKE.out.trans ((Ke.of_below hs3 (below_drew (Below.refl _ _))).trans HK5.out)⟩
        have HJ := Aside0.mk (show q ≤ k by omega)
        go_wp2
        go_roundw
      all_goals first
        | exact ⟨q, _, by go_num, HJ.out, HL5.out, HE5, HS5, HK6⟩
        | (simp [intOf]; done)
        | (simp [intOf]; omega)
end
end Go.Proofs.Ytlbdjjiblhdpmaa.Cw
