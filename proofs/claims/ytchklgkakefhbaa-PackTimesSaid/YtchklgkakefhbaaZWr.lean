-- Out of texts of this seat by a program of this session: what the claim does not reach is struck
import Derived.Test.YtchklgkakefhbaaZChk
namespace Go.Proofs.Ytchklgkakefhbaa.Wr
open Go Go.RowKit Go.Shelf Go.Proofs.Ytchklgkakefhbaa.Each Go.Proofs.YtchklgkakefhbaaW.PrintWords Go.Proofs.YtchklgkakefhbaaW.PrintLast
set_option linter.unusedVariables false
set_option linter.unusedSimpArgs false
abbrev BR (W : World) (b : Nat) (v : Value) (xs : List Int) : Prop := (Kd.int .u8).R 5 W b (fun _ => True) v xs
theorem u8_wrap (x : Int) : IntKind.u8.wrap x = x % 256 := by simp [IntKind.wrap, IntKind.bits, IntKind.signed]
theorem alloc_drew (w : World) (o : Obj) : (w.alloc o).drew = w.drew.alloc o := rfl
theorem info5 : (Try.prog.info? 5).map (fun i => (i.zero, i.size, i.bytes)) = some (some (.int .u8 0), 1, 1) := by kernel_rfl
theorem slice_of {W : World} {b : Nat} {v : Value} {xs : List Int} (h : BR W b v xs) : ∃ A n c, v = .slice A n c := let ⟨A, c, h⟩ := Kd.R_slice h; ⟨A, _, c, h⟩
structure Ke (n0 : Nat) (W W' : World) : Prop where
  below : Below n0 W W'
  cells : ∀ (b : Nat) cs t fz, t ≠ 46 → t ≠ 5 → W.heap[b]? = some (.cells cs t fz) → W'.heap[b]? = some (.cells cs t fz)
theorem Ke.refl (n0 : Nat) (W : World) : Ke n0 W W := ⟨Below.refl _ _, fun _ _ _ _ _ _ h => h⟩
theorem Ke.trans {n0 : Nat} {A B C : World} (h : Ke n0 A B) (k : Ke n0 B C) : Ke n0 A C := ⟨h.below.trans k.below, fun b cs t fz h1 h2 hc => k.cells b cs t fz h1 h2 (h.cells b cs t fz h1 h2 hc)⟩
theorem Ke.of_below {n0 : Nat} {A B : World} (hn : n0 ≤ A.heap.size) (h : Below A.heap.size A B) : Ke n0 A B :=
  ⟨h.mono hn, fun b cs t fz _ _ hc => (h.block b (Array.getElem?_eq_some_iff.1 hc).1).trans hc⟩
theorem Ke.grown {n0 : Nat} {A B : World} {row : Option Nat} (hg : A.grownBy B row) (hn : n0 ≤ A.heap.size) (hr : ∀ k, row = some k → n0 ≤ k ∧ ∃ cells, A.heap[k]? = some (.cells cells 5 (0, 0))) : Ke n0 A B :=
  ⟨(Below.refl n0 A).grown hg hn (fun k e => (hr k e).1), fun b cs t fz h1 h2 hc => (hg.block b (Array.getElem?_eq_some_iff.1 hc).1 (fun e => by
    obtain ⟨_, cells, h⟩ := hr b e.symm
    rw [hc] at h
    injection h with h
    injection h with _ h3 _
    exact h2 h3)).trans hc⟩
theorem Ke.set {n0 g : Nat} {A : World} {cs : Array Value} (hg : A.heap[g]? = some (.cells cs 46 (0, 0))) (hn : n0 ≤ g) (u : Value) : Ke n0 A (A.setCell ⟨g, 0, none⟩ u) :=
  ⟨(Below.refl n0 A).setCell (p := ⟨g, 0, none⟩) hn u, fun b cs' t fz h1 h2 hc => (Below.heap_setCell A ⟨g, 0, none⟩ u b (fun e => by
    have e' : b = g := e
    subst e'
    rw [hg] at hc
    injection hc with hc
    injection hc with _ h3 _
    exact h1 h3.symm)).trans hc⟩
structure St (g n0 : Nat) (W : World) (xs : List Int) : Prop where
  row : ∃ v, W.heap[g]? = some (.cells #[v] 46 (0, 0)) ∧ BR W n0 v xs
  size : n0 ≤ W.heap.size
theorem St.below {g n0 : Nat} {A B : World} {xs : List Int} (h : St g n0 A xs) (hb : Below A.heap.size A B) : St g n0 B xs :=
  ⟨by obtain ⟨v, h1, h2⟩ := h.row; exact ⟨v, (hb.block g (blk_lt h1)).trans h1, Kd.R_below h2 hb⟩, Nat.le_trans h.size hb.size⟩
theorem St.put {g n0 : Nat} {A B : World} {v v1 : Value} {xs ys : List Int} (hg : n0 ≤ g) (hs : n0 ≤ A.heap.size) (hv : A.heap[g]? = some (.cells #[v] 46 (0, 0))) (hr : BR A n0 v xs) (hr1 : BR B n0 v1 ys) (hgr : A.grownBy B v.ownBlock) :
    St g n0 (B.setCell ⟨g, 0, none⟩ v1) ys ∧ Ke n0 A (B.setCell ⟨g, 0, none⟩ v1) := by
  have hbv := blk_grown hv hgr (Kd.R_ne hr hv (by decide))
  have hk : Ke n0 A (B.setCell ⟨g, 0, none⟩ v1) := (Ke.grown hgr hs (fun k hk => ⟨Kd.R_base hr k hk, Kd.R_typed hr k hk⟩)).trans (Ke.set hbv hg _)
  exact ⟨⟨⟨v1, by have h2 := blk_set hbv 0 v1; simpa using h2, Kd.R_set hr1 hbv (by decide) 0 _⟩, Nat.le_trans hs hk.below.size⟩, hk⟩
def outR (n : Int) : Nat → List Int
  | 0 => []
  | k + 1 => n / 2 ^ (8 * k) % 256 :: outR n k
theorem outR_len (n : Int) : ∀ k, (outR n k).length = k
  | 0 => rfl
  | k + 1 => by simp [outR, outR_len n k]
set_option maxRecDepth 100000 in
set_option maxHeartbeats 4000000 in
theorem put_calls (g n0 : Nat) (hg : n0 ≤ g) (first n : Int) (k : Nat) (hk : k ≤ 8) (W : World) (xs : List Int) (hst : St g n0 W xs) (hlen : xs.length ≤ 1099511627776) :
    Calls Try.prog 22 #[.pointer (some ⟨g, 0, none⟩), .int .u8 first, .int .u64 n, .int .i64 (k : Int)] W fun e W' => e = .returned (.tuple #[]) ∧ St g n0 W' (xs ++ first :: outR n k) ∧ Ke n0 W W' := by
  obtain ⟨⟨v, hv, hrow⟩, hsz⟩ := hst
  obtain ⟨A0, m0, c0, rfl⟩ := slice_of hrow
  have hvc := (blk_cell hv 0).trans (rfl : _ = some (Value.slice A0 m0 c0))
  have HV := Aside0.mk hv
  have HR := Aside0.mk hrow
  clear hv hrow
  go_enter Try.func22, Try.ntmps22
  go_wp2_with (first | ((with_reducible refine gate_builtin (b := .append) (xs := #[.tmp 13, .tmp 15]) rfl ?_); at_builtin; refine Kd.R_append (Kd.int .u8) (w0 := W) (W := W) n0 rfl (.tmp 13) (.tmp 15) 26 5 (.int .u8 0) 1 rfl Try.underlying26 info5 rfl (by decide) (by omega) (.slice A0 m0 c0) xs first [.int .u8 first] (fun _ => True) (fun _ => False) rfl rfl rfl (fun _ h => h.elim) (fun _ _ => trivial) HR.out (Below.refl _ _) hsz ?aL ?_; (case aL => omega); intro v1 w1 hR1 hB1 hg1 hat1; obtain ⟨A1, n1, c1, rfl⟩ := slice_of hR1; have hbv := blk_grown HV.out hg1 (Kd.R_ne HR.out HV.out (by decide)); have hcz := (blk_cell hbv 0).trans (rfl : _ = some (Value.slice A0 m0 c0)); have hfz := blk_frozen hbv 0; obtain ⟨hp1, hp2⟩ := St.put hg hsz HV.out HR.out hR1 hg1; have HS1 := Aside0.mk hp1; have HK1 := Aside0.mk hp2; clear hR1 hB1 hg1 hat1 hbv hp1 hp2))
  go_loopw [8] (fun i wr => ∃ (j : Nat) (ys : List Int), i = .int .i64 ((j : Int) - 1) ∧ j ≤ k ∧ ys.length ≤ 1099511627876 ∧ Aside0 (ys ++ outR n j = xs ++ first :: outR n k) ∧ Aside0 (St g n0 wr ys) ∧ Aside0 (Ke n0 W wr)) (fun i _ => (intOf i + 1).toNat)
  case atStart => exact ⟨k, xs ++ [first], by simp only [IntKind.wrap], Nat.le_refl _, by simp; omega, ⟨by simp⟩, HS1, HK1⟩
  case round =>
    obtain ⟨j, ys, rfl, hj, hys, HE, HS, HKE⟩ := hrel
    obtain ⟨v3, hv3, hrow3⟩ := HS.out.row
    obtain ⟨A3, n3, c3, rfl⟩ := slice_of hrow3
    have hcv3 := (blk_cell hv3 0).trans (rfl : _ = some (Value.slice A3 n3 c3))
    have HV3 := Aside0.mk hv3
    have HR3 := Aside0.mk hrow3
    have hs3 := HS.out.size
    clear hv3 hrow3
    cases j with
    | zero =>
      go_wp2
      go_end0
      exact ⟨rfl, by have h := HE.out; simp only [outR, List.append_nil] at h; rw [← h]; exact HS.out, HKE.out⟩
    | succ i =>
      rw [show (((i + 1 : Nat) : Int) - 1) = (i : Int) by omega]
      have h8 : (IntKind.i64.wrap (8 * (i : Int))) = ((8 * i : Nat) : Int) := by rw [i64_w]; unfold wrap64; omega
      have HB8 := Aside0.mk (show (8 * i) ≤ 56 by omega)
      have HV4 := Aside0.mk (blk_drew HV3.out)
      have HR4 := Aside0.mk (Kd.R_drew HR3.out)
      have hs4 : n0 ≤ wr.drew.heap.size := hs3
      have hcb : (wr.alloc (.cells #[.int .u8 (IntKind.u8.wrap (n / 2 ^ (8 * (i : Int)).toNat))] 5)).cell? ⟨g, 0, none⟩ = some (.slice A3 n3 c3) := (blk_cell (blk_alloc HV3.out _) 0).trans rfl
      go_wp2
      go_region_law (first
        | (rw [alloc_drew]
           refine Kd.R_append_step (Kd.int .u8) (w0 := wr.drew) (W := wr.drew) n0 rfl (.tmp 29) (.tmp 35) 26 5 (.int .u8 0) 1 rfl Try.underlying26 info5 rfl (by decide) (by omega) (.slice A3 n3 c3) ys (IntKind.u8.wrap (n / 2 ^ (8 * (i : Int)).toNat)) [.int .u8 (IntKind.u8.wrap (n / 2 ^ (8 * (i : Int)).toNat))] (fun _ => True) (fun _ => False) (by simp [Act.eval, Act.put]) (by simp [Act.eval, Act.put]) rfl (fun _ h => h.elim) (fun _ _ => trivial) HR4.out (Below.refl _ _) hs4 (by omega) ?_
           intro v1 w5 hR1 hB1 hg1 hat1
           obtain ⟨A5, n5, c5, rfl⟩ := slice_of hR1
           have hbv := blk_grown HV4.out hg1 (Kd.R_ne HR4.out HV4.out (by decide))
           have hcz5 := (blk_cell hbv 0).trans (rfl : _ = some (Value.slice A3 n3 c3))
           have hfz5 := blk_frozen hbv 0
           obtain ⟨hp1, hp2⟩ := St.put hg hs4 HV4.out HR4.out hR1 hg1
           have HS5 := Aside0.mk hp1
           have HK5 := Aside0.mk hp2
           clear hR1 hB1 hg1 hat1 hbv hp1 hp2))
      all_goals
        have HE5 : Aside0 ((ys ++ [IntKind.u8.wrap (n / 2 ^ (8 * (i : Int)).toNat)]) ++ outR n i = xs ++ first :: outR n k) := ⟨by
          rw [← HE.out, u8_wrap, show (8 * (i : Int)).toNat = 8 * i by omega]
          simp [outR]⟩
        have HL5 : Aside0 ((ys ++ [IntKind.u8.wrap (n / 2 ^ (8 * (i : Int)).toNat)]).length ≤ 1099511627876) := ⟨by
          have h := congrArg List.length HE5.out
          simp only [List.length_append, List.length_cons, outR_len, List.length_nil] at h ⊢
          omega⟩
        have HK6 : Aside0 (Ke n0 W (w5.setCell ⟨g, 0, none⟩ (.slice A5 n5 c5))) := ⟨HKE.out.trans ((Ke.of_below hs3 (below_drew (Below.refl _ _))).trans HK5.out)⟩
        have HJ := Aside0.mk (show i ≤ k by omega)
        go_wp2
        go_roundw
      all_goals first
        | exact ⟨i, _, by go_num, HJ.out, HL5.out, HE5, HS5, HK6⟩
        | (simp [intOf]; done)
        | (simp [intOf]; omega)
def szR (x : Int) : Nat := if x / 2 ^ 8 = 0 then 0 else if x / 2 ^ 16 = 0 then 1 else if x / 2 ^ 32 = 0 then 2 else 3
def szF (x : Int) : Nat → Nat
  | 0 => szR x
  | 1 => if x / 2 ^ 16 = 0 then 1 else if x / 2 ^ 32 = 0 then 2 else 3
  | 2 => if x / 2 ^ 32 = 0 then 2 else 3
  | _ => 3
set_option maxRecDepth 100000 in
set_option maxHeartbeats 4000000 in
theorem sized_calls (g n0 : Nat) (hg : n0 ≤ g) (first n x : Int) (W : World) (xs : List Int) (hst : St g n0 W xs) (hlen : xs.length ≤ 1099511627776) :
    Calls Try.prog 44 #[.pointer (some ⟨g, 0, none⟩), .int .u8 first, .int .u64 n, .int .u64 x] W fun e W' => e = .returned (.tuple #[]) ∧ St g n0 W' (xs ++ (first + szR x) % 256 :: outR n (2 ^ szR x)) ∧ Ke n0 W W' := by
  have HST := Aside0.mk hst
  clear hst
  go_enter Try.func44, Try.ntmps44
  go_wp2
  go_loopw [8] (fun i wr => ∃ j : Nat, i = .int .i64 (j : Int) ∧ j ≤ 3 ∧ wr = W ∧ Aside0 (szF x j = szR x)) (fun i _ => (3 - intOf i).toNat)
  case atStart => exact ⟨0, rfl, by omega, rfl, ⟨rfl⟩⟩
  case round =>
    obtain ⟨j, rfl, hj, rfl, HE⟩ := hrel
    rcases (show j = 0 ∨ j = 1 ∨ j = 2 ∨ j = 3 by omega) with rfl | rfl | rfl | rfl
    · by_cases hx : x / 256 = 0
      · have hb : (x / 256 != 0) = false := by simp [hx]
        have hz : szR x = 0 := by have h9 := HE.out; rw [← h9]; simp [szF, szR, hx]
        go_wp2_with (go_at_call 22; refine (put_calls g n0 hg _ n 1 (by omega) wr xs HST.out hlen).mono ?_; rintro e W2 ⟨rfl, hs2, hk2⟩; have HS2 := Aside0.mk hs2; have HK2 := Aside0.mk hk2; clear hs2 hk2)
        go_end0
        exact ⟨rfl, by rw [hz]; simpa using HS2.out, HK2.out⟩
      · have hb : (x / 256 != 0) = true := by simp [hx]
        have hz : szF x 1 = szR x := by have h9 := HE.out; rw [← h9]; simp [szF, szR, hx]
        have HZ := Aside0.mk hz
        clear hz
        go_wp2
        exact ⟨⟨1, by first | rfl | simp, by omega, trivial, HZ⟩, by simp [intOf]⟩
    · by_cases hx : x / 65536 = 0
      · have hb : (x / 65536 != 0) = false := by simp [hx]
        have hz : szR x = 1 := by have h9 := HE.out; rw [← h9]; simp [szF, szR, hx]
        go_wp2_with (go_at_call 22; refine (put_calls g n0 hg _ n 2 (by omega) wr xs HST.out hlen).mono ?_; rintro e W2 ⟨rfl, hs2, hk2⟩; have HS2 := Aside0.mk hs2; have HK2 := Aside0.mk hk2; clear hs2 hk2)
        go_end0
        exact ⟨rfl, by rw [hz]; simpa using HS2.out, HK2.out⟩
      · have hb : (x / 65536 != 0) = true := by simp [hx]
        have hz : szF x 2 = szR x := by have h9 := HE.out; rw [← h9]; simp [szF, szR, hx]
        have HZ := Aside0.mk hz
        clear hz
        go_wp2
        exact ⟨⟨2, by first | rfl | simp, by omega, trivial, HZ⟩, by simp [intOf]⟩
    · by_cases hx : x / 4294967296 = 0
      · have hb : (x / 4294967296 != 0) = false := by simp [hx]
        have hz : szR x = 2 := by have h9 := HE.out; rw [← h9]; simp [szF, szR, hx]
        go_wp2_with (go_at_call 22; refine (put_calls g n0 hg _ n 4 (by omega) wr xs HST.out hlen).mono ?_; rintro e W2 ⟨rfl, hs2, hk2⟩; have HS2 := Aside0.mk hs2; have HK2 := Aside0.mk hk2; clear hs2 hk2)
        go_end0
        exact ⟨rfl, by rw [hz]; simpa using HS2.out, HK2.out⟩
      · have hb : (x / 4294967296 != 0) = true := by simp [hx]
        have hz : szF x 3 = szR x := by have h9 := HE.out; rw [← h9]; simp [szF, szR, hx]
        have HZ := Aside0.mk hz
        clear hz
        go_wp2
        exact ⟨⟨3, by first | rfl | simp, by omega, trivial, HZ⟩, by simp [intOf]⟩
    · have hz : szR x = 3 := by have h9 := HE.out; rw [← h9]; simp [szF]
      go_wp2_with (go_at_call 22; refine (put_calls g n0 hg _ n 8 (by omega) wr xs HST.out hlen).mono ?_; rintro e W2 ⟨rfl, hs2, hk2⟩; have HS2 := Aside0.mk hs2; have HK2 := Aside0.mk hk2; clear hs2 hk2)
      go_end0
      exact ⟨rfl, by rw [hz]; simpa using HS2.out, HK2.out⟩
def lenR (first n : Int) : List Int := if n / 65536 = 0 then first % 256 :: outR n 2 else (first + 1) % 256 :: outR n 4
set_option maxRecDepth 100000 in
set_option maxHeartbeats 4000000 in
theorem length_calls (g n0 : Nat) (hg : n0 ≤ g) (first n : Int) (h0 : 0 ≤ n) (hn : n ≤ 9223372036854775807) (W : World) (xs : List Int) (hst : St g n0 W xs) (hlen : xs.length ≤ 1099511627776) :
    Calls Try.prog 32 #[.pointer (some ⟨g, 0, none⟩), .int .u8 first, .int .i64 n] W fun e W' => e = .returned (.tuple #[]) ∧ St g n0 W' (xs ++ lenR first n) ∧ Ke n0 W W' := by
  have HST := Aside0.mk hst
  clear hst
  have hu : IntKind.u64.wrap n = n := by simp [IntKind.wrap, IntKind.bits, IntKind.signed]; omega
  by_cases hz : n / 65536 = 0
  · have hb : decide (0 < n / 65536) = false := decide_eq_false (by omega)
    go_enter Try.func32, Try.ntmps32
    go_wp2_with (go_at_call 22; refine (put_calls g n0 hg _ n 2 (by omega) W xs HST.out hlen).mono ?_; rintro e W2 ⟨rfl, hs2, hk2⟩; have HS2 := Aside0.mk hs2; have HK2 := Aside0.mk hk2; clear hs2 hk2)
    go_end0
    exact ⟨rfl, by rw [lenR, if_pos hz]; simpa using HS2.out, HK2.out⟩
  · have hb : decide (0 < n / 65536) = true := decide_eq_true (by omega)
    go_enter Try.func32, Try.ntmps32
    go_wp2_with (go_at_call 22; refine (put_calls g n0 hg _ n 4 (by omega) W xs HST.out hlen).mono ?_; rintro e W2 ⟨rfl, hs2, hk2⟩; have HS2 := Aside0.mk hs2; have HK2 := Aside0.mk hk2; clear hs2 hk2)
    go_end0
    exact ⟨rfl, by rw [lenR, if_neg hz]; simpa using HS2.out, HK2.out⟩
theorem not_u64 (n : Int) (h0 : 0 ≤ n) (hn : n ≤ 18446744073709551615) : bits BinOp.xor IntKind.u64 (if IntKind.u64.signed = true then -1 else IntKind.u64.max) n = 18446744073709551615 - n := by
  obtain ⟨m, rfl⟩ := Int.eq_ofNat_of_zero_le h0
  have e : (if IntKind.u64.signed = true then (-1 : Int) else IntKind.u64.max) = 18446744073709551615 := by decide
  rw [e]
  have hb : (BitVec.ofInt 64 18446744073709551615 ^^^ BitVec.ofInt 64 (m : Int)).toNat = 18446744073709551615 - m := by
    rw [show BitVec.ofInt 64 18446744073709551615 = BitVec.allOnes 64 by decide, BitVec.allOnes_xor, BitVec.toNat_not, BitVec.ofInt_natCast, BitVec.toNat_ofNat]
    omega
  show IntKind.u64.wrap ((BitVec.ofInt 64 18446744073709551615 ^^^ BitVec.ofInt 64 (m : Int)).toNat : Int) = _
  rw [hb]
  simp [IntKind.wrap, IntKind.bits, IntKind.signed]
  omega
theorem not_u8 (n : Int) (h0 : 0 ≤ n) (hn : n ≤ 255) : bits BinOp.xor IntKind.u8 (if IntKind.u8.signed = true then -1 else IntKind.u8.max) n = 255 - n := by
  obtain ⟨m, rfl⟩ := Int.eq_ofNat_of_zero_le h0
  have hd : ∀ m : Fin 256, bits BinOp.xor IntKind.u8 (if IntKind.u8.signed = true then -1 else IntKind.u8.max) ((m.val : Nat) : Int) = 255 - ((m.val : Nat) : Int) := by decide +kernel
  exact hd ⟨m, by omega⟩
def numR (neg : Bool) (n : Int) : List Int :=
  if neg = false then (if n < 128 then [n] else (204 + szR n) % 256 :: outR n (2 ^ szR n))
  else if n < 32 then [255 - n] else (208 + szR (n * 2 % 18446744073709551616)) % 256 :: outR (18446744073709551615 - n) (2 ^ szR (n * 2 % 18446744073709551616))
set_option maxRecDepth 100000 in
set_option maxHeartbeats 4000000 in
theorem number_calls (g n0 : Nat) (hg : n0 ≤ g) (neg : Bool) (n : Int) (h0 : 0 ≤ n) (hn : n ≤ 18446744073709551615) (W : World) (xs : List Int) (hst : St g n0 W xs) (hlen : xs.length ≤ 1099511627776) :
    Calls Try.prog 29 #[.pointer (some ⟨g, 0, none⟩), .bool neg, .int .u64 n] W fun e W' => e = .returned (.tuple #[]) ∧ St g n0 W' (xs ++ numR neg n) ∧ Ke n0 W W' := by
  have HST := Aside0.mk hst
  clear hst
  cases neg with
  | false =>
    by_cases h1 : n < 128
    · have hb : decide (n < 128) = true := decide_eq_true h1
      go_enter Try.func29, Try.ntmps29
      go_wp2_with (go_at_call 22; refine (put_calls g n0 hg _ 0 0 (by omega) W xs HST.out hlen).mono ?_; rintro e W2 ⟨rfl, hs2, hk2⟩; have HS2 := Aside0.mk hs2; have HK2 := Aside0.mk hk2; clear hs2 hk2)
      go_end0
      exact ⟨rfl, by have h9 := HS2.out; rw [numR, if_pos rfl, if_pos h1]; simpa [outR] using h9, HK2.out⟩
    · have hb : decide (n < 128) = false := decide_eq_false h1
      go_enter Try.func29, Try.ntmps29
      go_wp2_with (go_at_call 44; refine (sized_calls g n0 hg _ n n W xs HST.out hlen).mono ?_; rintro e W2 ⟨rfl, hs2, hk2⟩; have HS2 := Aside0.mk hs2; have HK2 := Aside0.mk hk2; clear hs2 hk2)
      go_end0
      exact ⟨rfl, by have h9 := HS2.out; rw [numR, if_pos rfl, if_neg (by omega)]; exact h9, HK2.out⟩
  | true =>
    by_cases h1 : n < 32
    · have hb : decide (n < 32) = true := decide_eq_true h1
      go_enter Try.func29, Try.ntmps29
      have hq := not_u8 n h0 (by omega)
      go_wp2_with (go_at_call 22; (try rw [hq]); refine (put_calls g n0 hg _ 0 0 (by omega) W xs HST.out hlen).mono ?_; rintro e W2 ⟨rfl, hs2, hk2⟩; have HS2 := Aside0.mk hs2; have HK2 := Aside0.mk hk2; clear hs2 hk2)
      go_end0
      exact ⟨rfl, by have h9 := HS2.out; rw [numR, if_neg (by simp), if_pos h1]; simpa [outR] using h9, HK2.out⟩
    · have hb : decide (n < 32) = false := decide_eq_false h1
      go_enter Try.func29, Try.ntmps29
      have hq := not_u64 n h0 hn
      have hw : IntKind.u64.wrap (n * 2) = n * 2 % 18446744073709551616 := by simp [IntKind.wrap, IntKind.bits, IntKind.signed]
      go_wp2_with (go_at_call 44; (try rw [hq]); (try rw [hw]); refine (sized_calls g n0 hg _ (18446744073709551615 - n) (n * 2 % 18446744073709551616) W xs HST.out hlen).mono ?_; rintro e W2 ⟨rfl, hs2, hk2⟩; have HS2 := Aside0.mk hs2; have HK2 := Aside0.mk hk2; clear hs2 hk2)
      go_end0
      exact ⟨rfl, by have h9 := HS2.out; rw [numR, if_neg (by simp), if_neg (by omega)]; exact h9, HK2.out⟩
theorem or_160 (n : Int) (h0 : 0 ≤ n) (hn : n < 32) : bits BinOp.or IntKind.u8 160 n = 160 + n := by
  obtain ⟨m, rfl⟩ := Int.eq_ofNat_of_zero_le h0
  have hd : ∀ m : Fin 32, bits BinOp.or IntKind.u8 160 ((m.val : Nat) : Int) = 160 + ((m.val : Nat) : Int) := by decide +kernel
  exact hd ⟨m, by omega⟩
theorem step_append_str {P : Program} {ops : Array Oper} {o : Oper} {a : Act} {W : World} {K : Act → World → Prop} {Q : Exit → Act → World → Prop} {E : Prop}
    (hg : o.guard = none) (s x : Operand) (t u : TypeId) (hop : o.op = Op.call { callee := Callee.builtin Builtin.append, args := #[s, x], argTypes := #[t, u] })
    (ht : P.underlying t = some (.slice 5)) (hu : P.underlying u = some .string) (hinfo : (P.info? 5).map (fun i => (i.zero, i.size, i.bytes)) = some (some (.int .u8 0), 1, 1))
    (n0 : Nat) (v : Value) (xs : List Int) (y : ByteArray) (hs : a.eval s = v) (hx : a.eval x = .string y) (hr : BR W n0 v xs) (hb : n0 ≤ W.heap.size) (hl : xs.length + y.size ≤ 140737488355328)
    (hK : ∀ v' w', BR w' n0 v' (xs ++ bytesOf y) → W.grownBy w' v.ownBlock → K (a.put o.dst v') w') :
    if Region.wanted o (yielded ops a.tmps) = true then Oper.wp P o a W K Q else E := by
  have hw : Region.wanted o (yielded ops a.tmps) = true := by simp [Region.wanted, hg]
  rw [if_pos hw]
  obtain ⟨i0, hi, hzz⟩ := Option.map_eq_some_iff.1 hinfo
  simp only [Prod.mk.injEq] at hzz
  obtain ⟨hz0, hz1, hz2⟩ := hzz
  have ho : W.ownsRow n0 5 1 v xs.length (nums .u8 xs) := Kd.own_of_R hr
  obtain ⟨v', w', hrun, hown, hgr, _⟩ := Lib.run_append_own_string (P := P) W n0 t u o.type 5 i0 ht hu hi hz0 hz1 hz2 v xs.length (nums .u8 xs) ho y (by simp only [maxLen]; omega) hl hb
  unfold Oper.wp
  simp [execOp, hop, resolve, invoke, builtin, hs, hx, hrun, Result.andThen]
  refine hK v' w' (Kd.R_of_own ?_ (fun _ _ => trivial)) hgr
  have hl2 : (xs ++ bytesOf y).length = xs.length + y.size := by rw [List.length_append, bytesOf_length]
  show w'.ownsRow n0 5 1 v' (xs ++ bytesOf y).length (nums .u8 (xs ++ bytesOf y))
  have hc : nums .u8 (xs ++ bytesOf y) = nums .u8 xs ++ Lib.strCells y := by
    rw [nums_append]
    congr 1
    simp [nums, bytesOf, Lib.strCells]
  rw [hl2, hc]
  exact hown
def headR (k n : Int) : List Int := if k = 9 then ((196 : Int) + szR n) % 256 :: outR n (2 ^ szR n) else if n < 32 then [160 + n] else ((217 : Int) + szR n) % 256 :: outR n (2 ^ szR n)
theorem szR_le (n : Int) : 2 ^ szR n ≤ 8 := by unfold szR; (repeat' split) <;> decide
theorem headR_len (k n : Int) : (headR k n).length ≤ 9 := by
  have hz := szR_le n
  unfold headR
  split
  · simp only [List.length_cons, outR_len]; omega
  · split
    · simp
    · simp only [List.length_cons, outR_len]; omega
section
variable {S : Type} (T : Tree S)
set_option maxRecDepth 100000 in
set_option maxHeartbeats 8000000 in
theorem text_calls (g n0 : Nat) (hg : n0 ≤ g) (x : S) (cs : List Value) (W w0 : World) (hK : T.D.K w0 x cs) (xs : List Int) (hst : St g n0 W xs) (hlen : xs.length ≤ 1099511627776) (hsz : (T.s x).size ≤ 1099511627776) :
    Calls Try.prog 30 #[.pointer (some ⟨g, 0, none⟩), .agg cs.toArray] W fun e W' => e = .returned (.tuple #[]) ∧ St g n0 W' (xs ++ (headR (T.k x) ((T.s x).size : Int) ++ bytesOf (T.s x))) ∧ Ke n0 W W' := by
  obtain ⟨A4, c4, rfl, hc4, g4⟩ := T.openK hK
  obtain ⟨kk, hkk⟩ : ∃ kk, T.k x = kk := ⟨_, rfl⟩
  rw [hkk]
  clear hkk hK g4
  have hu : IntKind.u64.wrap ((T.s x).size : Int) = ((T.s x).size : Int) := by simp [IntKind.wrap, IntKind.bits, IntKind.signed]; omega
  obtain ⟨hh, hhh⟩ : ∃ hh, headR kk ((T.s x).size : Int) = hh := ⟨_, rfl⟩
  rw [hhh]
  have HH := Aside0.mk hhh
  have hl9 : hh.length ≤ 9 := by rw [← hhh]; exact headR_len _ _
  clear hhh
  have main : ∀ (W1 : World), W.alloc (.cells #[.int .i64 kk, .bool (T.neg x), .int .u64 (T.n x), .string (T.s x), .slice A4 (T.kids x).length c4] 25 (0, 0)) = W1 →
      W1.heap[W.heap.size]? = some (.cells #[.int .i64 kk, .bool (T.neg x), .int .u64 (T.n x), .string (T.s x), .slice A4 (T.kids x).length c4] 25 (0, 0)) ∧ St g n0 W1 xs ∧ Ke n0 W W1 := fun W1 hW1 => by
    have hb1 : Below W.heap.size W W1 := by rw [← hW1]; exact below_alloc (Below.refl _ _) _
    exact ⟨by rw [← hW1]; exact blk_new W _, hst.below hb1, Ke.of_below hst.size hb1⟩
  clear hst
  by_cases h9 : kk = 9
  · subst h9
    obtain ⟨W1, hW1⟩ : ∃ W1, W.alloc (.cells #[.int .i64 9, .bool (T.neg x), .int .u64 (T.n x), .string (T.s x), .slice A4 (T.kids x).length c4] 25 (0, 0)) = W1 := ⟨_, rfl⟩
    obtain ⟨hx1, hst1, hk1⟩ := main W1 hW1
    clear main
    obtain ⟨b0, b1, b2, b3, b4⟩ := cells5 hx1
    have HX := Aside0.mk hx1
    have HST := Aside0.mk hst1
    have HK1 := Aside0.mk hk1
    clear hx1 hst1 hk1
    have HEQ := Aside0.mk (show ((196 : Int) + szR ((T.s x).size : Int)) % 256 :: outR ((T.s x).size : Int) (2 ^ szR ((T.s x).size : Int)) = hh from by rw [← HH.out, headR, if_pos rfl])
    go_enter Try.func30, Try.ntmps30
    go_wp2_with (go_at_call 44; refine (sized_calls g n0 hg _ _ _ W1 xs HST.out hlen).mono ?_; rintro e W2 ⟨rfl, hs2, hk2⟩; obtain ⟨v3, hv3, hrow3⟩ := hs2.row; obtain ⟨A3, n3, c3, rfl⟩ := slice_of hrow3; have hcv3 := (blk_cell hv3 0).trans (rfl : _ = some (Value.slice A3 n3 c3)); have hx3 : W2.cell? ⟨W.heap.size, 3, none⟩ = some (.string (T.s x)) := (cells5 (hk2.cells _ _ _ _ (by decide) (by decide) HX.out)).2.2.2.1; have HV4 := Aside0.mk (blk_drew hv3); have HR4 := Aside0.mk (Kd.R_drew hrow3); have HS2 := Aside0.mk hs2; have HK2 := Aside0.mk hk2; clear hs2 hk2 hv3 hrow3)
    · rw [HEQ.out] at HS2 HR4
      have hs4 : n0 ≤ W2.drew.heap.size := HS2.out.size
      have HL := Aside0.mk (show (xs ++ hh).length + (T.s x).size ≤ 140737488355328 by simp only [List.length_append]; omega)
      go_wp2
      go_region_law (first
        | (refine step_append_str (W := W2.drew) rfl (.tmp 33) (.tmp 35) 26 9 rfl Try.underlying26 Try.underlying9 info5 n0 (.slice A3 n3 c3) _ (T.s x) (by simp [Act.eval, Act.put]) (by simp [Act.eval, Act.put]) HR4.out hs4 HL.out ?_
           intro v1 w5 hR1 hg1
           obtain ⟨A5, n5, c5, rfl⟩ := slice_of hR1
           have hbv := blk_grown HV4.out hg1 (Kd.R_ne HR4.out HV4.out (by decide))
           have hcz5 := (blk_cell hbv 0).trans (rfl : _ = some (Value.slice A3 n3 c3))
           have hfz5 := blk_frozen hbv 0
           obtain ⟨hp1, hp2⟩ := St.put hg hs4 HV4.out HR4.out hR1 hg1
           have HS5 := Aside0.mk hp1
           have HK5 := Aside0.mk hp2
           clear hR1 hg1 hbv hp1 hp2))
      all_goals
        go_wp2
        go_end0
        refine ⟨rfl, ?_, HK1.out.trans (HK2.out.trans ((Ke.of_below HS2.out.size (below_drew (Below.refl _ _))).trans HK5.out))⟩
        have h9 := HS5.out
        rw [← List.append_assoc]
        exact h9
  · by_cases h32 : ((T.s x).size : Int) < 32
    · obtain ⟨W1, hW1⟩ : ∃ W1, W.alloc (.cells #[.int .i64 kk, .bool (T.neg x), .int .u64 (T.n x), .string (T.s x), .slice A4 (T.kids x).length c4] 25 (0, 0)) = W1 := ⟨_, rfl⟩
      obtain ⟨hx1, hst1, hk1⟩ := main W1 hW1
      clear main
      obtain ⟨b0, b1, b2, b3, b4⟩ := cells5 hx1
      have HX := Aside0.mk hx1
      have HST := Aside0.mk hst1
      have HK1 := Aside0.mk hk1
      clear hx1 hst1 hk1
      have hq : (kk == 9) = false := beq_eq_false_iff_ne.mpr h9
      have hb : decide (((T.s x).size : Int) < 32) = true := decide_eq_true h32
      have ho := or_160 ((T.s x).size : Int) (by omega) h32
      have hw8 : ((T.s x).size : Int) % 256 = ((T.s x).size : Int) := by omega
      have HEQ := Aside0.mk (show (160 + ((T.s x).size : Int)) :: outR 0 0 = hh from by rw [← HH.out, headR, if_neg h9, if_pos h32]; rfl)
      go_enter Try.func30, Try.ntmps30
      go_wp2_with (go_at_call 22; (try rw [hw8]); (try rw [ho]); refine (put_calls g n0 hg _ 0 0 (by omega) W1 xs HST.out hlen).mono ?_; rintro e W2 ⟨rfl, hs2, hk2⟩; obtain ⟨v3, hv3, hrow3⟩ := hs2.row; obtain ⟨A3, n3, c3, rfl⟩ := slice_of hrow3; have hcv3 := (blk_cell hv3 0).trans (rfl : _ = some (Value.slice A3 n3 c3)); have hx3 : W2.cell? ⟨W.heap.size, 3, none⟩ = some (.string (T.s x)) := (cells5 (hk2.cells _ _ _ _ (by decide) (by decide) HX.out)).2.2.2.1; have HV4 := Aside0.mk (blk_drew hv3); have HR4 := Aside0.mk (Kd.R_drew hrow3); have HS2 := Aside0.mk hs2; have HK2 := Aside0.mk hk2; clear hs2 hk2 hv3 hrow3)
      · rw [HEQ.out] at HS2 HR4
        have hs4 : n0 ≤ W2.drew.heap.size := HS2.out.size
        have HL := Aside0.mk (show (xs ++ hh).length + (T.s x).size ≤ 140737488355328 by simp only [List.length_append]; omega)
        go_wp2
        go_region_law (first
          | (refine step_append_str (W := W2.drew) rfl (.tmp 33) (.tmp 35) 26 9 rfl Try.underlying26 Try.underlying9 info5 n0 (.slice A3 n3 c3) _ (T.s x) (by simp [Act.eval, Act.put]) (by simp [Act.eval, Act.put]) HR4.out hs4 HL.out ?_
             intro v1 w5 hR1 hg1
             obtain ⟨A5, n5, c5, rfl⟩ := slice_of hR1
             have hbv := blk_grown HV4.out hg1 (Kd.R_ne HR4.out HV4.out (by decide))
             have hcz5 := (blk_cell hbv 0).trans (rfl : _ = some (Value.slice A3 n3 c3))
             have hfz5 := blk_frozen hbv 0
             obtain ⟨hp1, hp2⟩ := St.put hg hs4 HV4.out HR4.out hR1 hg1
             have HS5 := Aside0.mk hp1
             have HK5 := Aside0.mk hp2
             clear hR1 hg1 hbv hp1 hp2))
        all_goals
          go_wp2
          go_end0
          refine ⟨rfl, ?_, HK1.out.trans (HK2.out.trans ((Ke.of_below HS2.out.size (below_drew (Below.refl _ _))).trans HK5.out))⟩
          have h9 := HS5.out
          rw [← List.append_assoc]
          exact h9
    · obtain ⟨W1, hW1⟩ : ∃ W1, W.alloc (.cells #[.int .i64 kk, .bool (T.neg x), .int .u64 (T.n x), .string (T.s x), .slice A4 (T.kids x).length c4] 25 (0, 0)) = W1 := ⟨_, rfl⟩
      obtain ⟨hx1, hst1, hk1⟩ := main W1 hW1
      clear main
      obtain ⟨b0, b1, b2, b3, b4⟩ := cells5 hx1
      have HX := Aside0.mk hx1
      have HST := Aside0.mk hst1
      have HK1 := Aside0.mk hk1
      clear hx1 hst1 hk1
      have hq : (kk == 9) = false := beq_eq_false_iff_ne.mpr h9
      have hb : decide (((T.s x).size : Int) < 32) = false := decide_eq_false h32
      have HEQ := Aside0.mk (show ((217 : Int) + szR ((T.s x).size : Int)) % 256 :: outR ((T.s x).size : Int) (2 ^ szR ((T.s x).size : Int)) = hh from by rw [← HH.out, headR, if_neg h9, if_neg h32])
      go_enter Try.func30, Try.ntmps30
      go_wp2_with (go_at_call 44; refine (sized_calls g n0 hg _ _ _ W1 xs HST.out hlen).mono ?_; rintro e W2 ⟨rfl, hs2, hk2⟩; obtain ⟨v3, hv3, hrow3⟩ := hs2.row; obtain ⟨A3, n3, c3, rfl⟩ := slice_of hrow3; have hcv3 := (blk_cell hv3 0).trans (rfl : _ = some (Value.slice A3 n3 c3)); have hx3 : W2.cell? ⟨W.heap.size, 3, none⟩ = some (.string (T.s x)) := (cells5 (hk2.cells _ _ _ _ (by decide) (by decide) HX.out)).2.2.2.1; have HV4 := Aside0.mk (blk_drew hv3); have HR4 := Aside0.mk (Kd.R_drew hrow3); have HS2 := Aside0.mk hs2; have HK2 := Aside0.mk hk2; clear hs2 hk2 hv3 hrow3)
      · rw [HEQ.out] at HS2 HR4
        have hs4 : n0 ≤ W2.drew.heap.size := HS2.out.size
        have HL := Aside0.mk (show (xs ++ hh).length + (T.s x).size ≤ 140737488355328 by simp only [List.length_append]; omega)
        go_wp2
        go_region_law (first
          | (refine step_append_str (W := W2.drew) rfl (.tmp 33) (.tmp 35) 26 9 rfl Try.underlying26 Try.underlying9 info5 n0 (.slice A3 n3 c3) _ (T.s x) (by simp [Act.eval, Act.put]) (by simp [Act.eval, Act.put]) HR4.out hs4 HL.out ?_
             intro v1 w5 hR1 hg1
             obtain ⟨A5, n5, c5, rfl⟩ := slice_of hR1
             have hbv := blk_grown HV4.out hg1 (Kd.R_ne HR4.out HV4.out (by decide))
             have hcz5 := (blk_cell hbv 0).trans (rfl : _ = some (Value.slice A3 n3 c3))
             have hfz5 := blk_frozen hbv 0
             obtain ⟨hp1, hp2⟩ := St.put hg hs4 HV4.out HR4.out hR1 hg1
             have HS5 := Aside0.mk hp1
             have HK5 := Aside0.mk hp2
             clear hR1 hg1 hbv hp1 hp2))
        all_goals
          go_wp2
          go_end0
          refine ⟨rfl, ?_, HK1.out.trans (HK2.out.trans ((Ke.of_below HS2.out.size (below_drew (Below.refl _ _))).trans HK5.out))⟩
          have h9 := HS5.out
          rw [← List.append_assoc]
          exact h9
def extR (n : Int) : List Int := if n = 1 then [212] else if n = 2 then [213] else if n = 4 then [214] else if n = 8 then [215] else if n = 16 then [216] else ((199 : Int) + szR n) % 256 :: outR n (2 ^ szR n)
def exF (n : Int) : Nat → List Int
  | 0 => extR n
  | 1 => if n = 2 then [213] else if n = 4 then [214] else if n = 8 then [215] else if n = 16 then [216] else ((199 : Int) + szR n) % 256 :: outR n (2 ^ szR n)
  | 2 => if n = 4 then [214] else if n = 8 then [215] else if n = 16 then [216] else ((199 : Int) + szR n) % 256 :: outR n (2 ^ szR n)
  | 3 => if n = 8 then [215] else if n = 16 then [216] else ((199 : Int) + szR n) % 256 :: outR n (2 ^ szR n)
  | 4 => if n = 16 then [216] else ((199 : Int) + szR n) % 256 :: outR n (2 ^ szR n)
  | _ => ((199 : Int) + szR n) % 256 :: outR n (2 ^ szR n)
set_option maxRecDepth 100000 in
set_option maxHeartbeats 16000000 in
theorem ext_calls (g n0 : Nat) (hg : n0 ≤ g) (x : S) (cs : List Value) (W w0 : World) (hK : T.D.K w0 x cs) (xs : List Int) (hst : St g n0 W xs) (hlen : xs.length ≤ 1099511627700) (hsz : (T.s x).size ≤ 1099511627776) :
    Calls Try.prog 31 #[.pointer (some ⟨g, 0, none⟩), .agg cs.toArray] W fun e W' => e = .returned (.tuple #[]) ∧ St g n0 W' (xs ++ (extR ((T.s x).size : Int) ++ (T.n x % 256 :: bytesOf (T.s x)))) ∧ Ke n0 W W' := by
  obtain ⟨A4, c4, rfl, hc4, g4⟩ := T.openK hK
  clear hK g4
  replace hlen : xs.length ≤ 1099511627776 ∧ xs.length ≤ 1099511627700 := ⟨by omega, hlen⟩
  obtain ⟨hlen, hlen2⟩ := hlen
  have hu : IntKind.u64.wrap ((T.s x).size : Int) = ((T.s x).size : Int) := by simp [IntKind.wrap, IntKind.bits, IntKind.signed]; omega
  obtain ⟨W1, hW1⟩ : ∃ W1, W.alloc (.cells #[.int .i64 (T.k x), .bool (T.neg x), .int .u64 (T.n x), .string (T.s x), .slice A4 (T.kids x).length c4] 25 (0, 0)) = W1 := ⟨_, rfl⟩
  have hb1 : Below W.heap.size W W1 := by rw [← hW1]; exact below_alloc (Below.refl _ _) _
  have hx1 : W1.heap[W.heap.size]? = some (.cells #[.int .i64 (T.k x), .bool (T.neg x), .int .u64 (T.n x), .string (T.s x), .slice A4 (T.kids x).length c4] 25 (0, 0)) := by rw [← hW1]; exact blk_new W _
  obtain ⟨b0, b1, b2, b3, b4⟩ := cells5 hx1
  have HX := Aside0.mk hx1
  have HST := Aside0.mk (hst.below hb1)
  have HK1 := Aside0.mk (Ke.of_below hst.size hb1)
  clear hx1 hb1 hst
  go_enter Try.func31, Try.ntmps31
  go_wp2
  go_loopw [5] (fun i wr => ∃ j : Nat, i = .int .i64 (j : Int) ∧ j ≤ 5 ∧ wr = W1 ∧ Aside0 (exF ((T.s x).size : Int) j = extR ((T.s x).size : Int))) (fun i _ => (5 - intOf i).toNat)
  case atStart => exact ⟨0, rfl, by omega, rfl, ⟨rfl⟩⟩
  case round =>
    obtain ⟨j, rfl, hj, rfl, HE⟩ := hrel
    clear hW1
    rcases (show j = 0 ∨ j = 1 ∨ j = 2 ∨ j = 3 ∨ j = 4 ∨ j = 5 by omega) with rfl | rfl | rfl | rfl | rfl | rfl
    · by_cases hx : ((T.s x).size : Int) = 1
      · have hb : (((T.s x).size : Int) != 1) = false := by simp [hx]
        have he := HE.out
        have HZ := Aside0.mk (show [212] = extR ((T.s x).size : Int) from by rw [← he]; simp [exF, extR, hx])
        have HL0 := Aside0.mk (show ([212] : List Int).length ≤ 9 by first | decide | (simp only [List.length_cons, outR_len]; have := szR_le ((T.s x).size : Int); omega))
        go_wp2_with (first
          | (go_at_call 22; refine (put_calls g n0 hg _ 0 0 (by omega) wr xs HST.out hlen).mono ?_; rintro e W2 ⟨rfl, hs2, hk2⟩; have hx2 := hk2.cells _ _ _ _ (by decide) (by decide) HX.out; have hn2 : W2.cell? ⟨W.heap.size, 2, none⟩ = some (.int .u64 (T.n x)) := (cells5 hx2).2.2.1; have HX2 := Aside0.mk hx2; have HS2 := Aside0.mk hs2; have HK2 := Aside0.mk hk2; clear hs2 hk2 hx2)
          | (go_at_call 22; refine (put_calls g n0 hg _ 0 0 (by omega) W2 _ HS2.out (by have h := HL0.out; simp only [List.length_append, List.length_cons, outR_len, List.length_nil] at h ⊢; omega)).mono ?_; rintro e W3 ⟨rfl, hs3, hk3⟩; obtain ⟨v3, hv3, hrow3⟩ := hs3.row; obtain ⟨A3, n3, c3, rfl⟩ := slice_of hrow3; have hcv3 := (blk_cell hv3 0).trans (rfl : _ = some (Value.slice A3 n3 c3)); have hx3 : W3.cell? ⟨W.heap.size, 3, none⟩ = some (.string (T.s x)) := (cells5 (hk3.cells _ _ _ _ (by decide) (by decide) HX2.out)).2.2.2.1; have HV4 := Aside0.mk (blk_drew hv3); have HR4 := Aside0.mk (Kd.R_drew hrow3); have HS3 := Aside0.mk hs3; have HK3 := Aside0.mk hk3; clear hs3 hk3 hv3 hrow3))
        have hs4 : n0 ≤ W3.drew.heap.size := HS3.out.size
        have hl0 := HL0.out
        have HL := Aside0.mk (show (xs ++ [212] ++ T.n x % 256 :: outR 0 0).length + (T.s x).size ≤ 140737488355328 by simp only [List.length_append, List.length_cons, outR_len, List.length_nil] at hl0 ⊢; omega)
        go_wp2
        go_region_law (first
          | (refine step_append_str (W := W3.drew) rfl (.tmp 40) (.tmp 42) 26 9 rfl Try.underlying26 Try.underlying9 info5 n0 (.slice A3 n3 c3) _ (T.s x) (by simp [Act.eval, Act.put]) (by simp [Act.eval, Act.put]) HR4.out hs4 HL.out ?_
             intro v1 w5 hR1 hg1
             obtain ⟨A5, n5, c5, rfl⟩ := slice_of hR1
             have hbv := blk_grown HV4.out hg1 (Kd.R_ne HR4.out HV4.out (by decide))
             have hcz5 := (blk_cell hbv 0).trans (rfl : _ = some (Value.slice A3 n3 c3))
             have hfz5 := blk_frozen hbv 0
             obtain ⟨hp1, hp2⟩ := St.put hg hs4 HV4.out HR4.out hR1 hg1
             have HS5 := Aside0.mk hp1
             have HK5 := Aside0.mk hp2
             clear hR1 hg1 hbv hp1 hp2))
        all_goals
          go_wp2
          go_end0
          refine ⟨rfl, ?_, HK1.out.trans (HK2.out.trans (HK3.out.trans ((Ke.of_below HS3.out.size (below_drew (Below.refl _ _))).trans HK5.out)))⟩
          have h9 := HS5.out
          have hz := HZ.out
          rw [← hz]
          simpa [outR] using h9
      · have hb : (((T.s x).size : Int) != 1) = true := by simp [hx]
        have HZ := Aside0.mk (show exF ((T.s x).size : Int) 1 = extR ((T.s x).size : Int) by have h9 := HE.out; rw [← h9]; simp [exF, extR, hx])
        go_wp2
        exact ⟨⟨1, by first | rfl | simp, by omega, trivial, HZ⟩, by simp [intOf]⟩
    · by_cases hx : ((T.s x).size : Int) = 2
      · have hb : (((T.s x).size : Int) != 2) = false := by simp [hx]
        have he := HE.out
        have HZ := Aside0.mk (show [213] = extR ((T.s x).size : Int) from by rw [← he]; simp [exF, extR, hx])
        have HL0 := Aside0.mk (show ([213] : List Int).length ≤ 9 by first | decide | (simp only [List.length_cons, outR_len]; have := szR_le ((T.s x).size : Int); omega))
        go_wp2_with (first
          | (go_at_call 22; refine (put_calls g n0 hg _ 0 0 (by omega) wr xs HST.out hlen).mono ?_; rintro e W2 ⟨rfl, hs2, hk2⟩; have hx2 := hk2.cells _ _ _ _ (by decide) (by decide) HX.out; have hn2 : W2.cell? ⟨W.heap.size, 2, none⟩ = some (.int .u64 (T.n x)) := (cells5 hx2).2.2.1; have HX2 := Aside0.mk hx2; have HS2 := Aside0.mk hs2; have HK2 := Aside0.mk hk2; clear hs2 hk2 hx2)
          | (go_at_call 22; refine (put_calls g n0 hg _ 0 0 (by omega) W2 _ HS2.out (by have h := HL0.out; simp only [List.length_append, List.length_cons, outR_len, List.length_nil] at h ⊢; omega)).mono ?_; rintro e W3 ⟨rfl, hs3, hk3⟩; obtain ⟨v3, hv3, hrow3⟩ := hs3.row; obtain ⟨A3, n3, c3, rfl⟩ := slice_of hrow3; have hcv3 := (blk_cell hv3 0).trans (rfl : _ = some (Value.slice A3 n3 c3)); have hx3 : W3.cell? ⟨W.heap.size, 3, none⟩ = some (.string (T.s x)) := (cells5 (hk3.cells _ _ _ _ (by decide) (by decide) HX2.out)).2.2.2.1; have HV4 := Aside0.mk (blk_drew hv3); have HR4 := Aside0.mk (Kd.R_drew hrow3); have HS3 := Aside0.mk hs3; have HK3 := Aside0.mk hk3; clear hs3 hk3 hv3 hrow3))
        have hs4 : n0 ≤ W3.drew.heap.size := HS3.out.size
        have hl0 := HL0.out
        have HL := Aside0.mk (show (xs ++ [213] ++ T.n x % 256 :: outR 0 0).length + (T.s x).size ≤ 140737488355328 by simp only [List.length_append, List.length_cons, outR_len, List.length_nil] at hl0 ⊢; omega)
        go_wp2
        go_region_law (first
          | (refine step_append_str (W := W3.drew) rfl (.tmp 40) (.tmp 42) 26 9 rfl Try.underlying26 Try.underlying9 info5 n0 (.slice A3 n3 c3) _ (T.s x) (by simp [Act.eval, Act.put]) (by simp [Act.eval, Act.put]) HR4.out hs4 HL.out ?_
             intro v1 w5 hR1 hg1
             obtain ⟨A5, n5, c5, rfl⟩ := slice_of hR1
             have hbv := blk_grown HV4.out hg1 (Kd.R_ne HR4.out HV4.out (by decide))
             have hcz5 := (blk_cell hbv 0).trans (rfl : _ = some (Value.slice A3 n3 c3))
             have hfz5 := blk_frozen hbv 0
             obtain ⟨hp1, hp2⟩ := St.put hg hs4 HV4.out HR4.out hR1 hg1
             have HS5 := Aside0.mk hp1
             have HK5 := Aside0.mk hp2
             clear hR1 hg1 hbv hp1 hp2))
        all_goals
          go_wp2
          go_end0
          refine ⟨rfl, ?_, HK1.out.trans (HK2.out.trans (HK3.out.trans ((Ke.of_below HS3.out.size (below_drew (Below.refl _ _))).trans HK5.out)))⟩
          have h9 := HS5.out
          have hz := HZ.out
          rw [← hz]
          simpa [outR] using h9
      · have hb : (((T.s x).size : Int) != 2) = true := by simp [hx]
        have HZ := Aside0.mk (show exF ((T.s x).size : Int) 2 = extR ((T.s x).size : Int) by have h9 := HE.out; rw [← h9]; simp [exF, extR, hx])
        go_wp2
        exact ⟨⟨2, by first | rfl | simp, by omega, trivial, HZ⟩, by simp [intOf]⟩
    · by_cases hx : ((T.s x).size : Int) = 4
      · have hb : (((T.s x).size : Int) != 4) = false := by simp [hx]
        have he := HE.out
        have HZ := Aside0.mk (show [214] = extR ((T.s x).size : Int) from by rw [← he]; simp [exF, extR, hx])
        have HL0 := Aside0.mk (show ([214] : List Int).length ≤ 9 by first | decide | (simp only [List.length_cons, outR_len]; have := szR_le ((T.s x).size : Int); omega))
        go_wp2_with (first
          | (go_at_call 22; refine (put_calls g n0 hg _ 0 0 (by omega) wr xs HST.out hlen).mono ?_; rintro e W2 ⟨rfl, hs2, hk2⟩; have hx2 := hk2.cells _ _ _ _ (by decide) (by decide) HX.out; have hn2 : W2.cell? ⟨W.heap.size, 2, none⟩ = some (.int .u64 (T.n x)) := (cells5 hx2).2.2.1; have HX2 := Aside0.mk hx2; have HS2 := Aside0.mk hs2; have HK2 := Aside0.mk hk2; clear hs2 hk2 hx2)
          | (go_at_call 22; refine (put_calls g n0 hg _ 0 0 (by omega) W2 _ HS2.out (by have h := HL0.out; simp only [List.length_append, List.length_cons, outR_len, List.length_nil] at h ⊢; omega)).mono ?_; rintro e W3 ⟨rfl, hs3, hk3⟩; obtain ⟨v3, hv3, hrow3⟩ := hs3.row; obtain ⟨A3, n3, c3, rfl⟩ := slice_of hrow3; have hcv3 := (blk_cell hv3 0).trans (rfl : _ = some (Value.slice A3 n3 c3)); have hx3 : W3.cell? ⟨W.heap.size, 3, none⟩ = some (.string (T.s x)) := (cells5 (hk3.cells _ _ _ _ (by decide) (by decide) HX2.out)).2.2.2.1; have HV4 := Aside0.mk (blk_drew hv3); have HR4 := Aside0.mk (Kd.R_drew hrow3); have HS3 := Aside0.mk hs3; have HK3 := Aside0.mk hk3; clear hs3 hk3 hv3 hrow3))
        have hs4 : n0 ≤ W3.drew.heap.size := HS3.out.size
        have hl0 := HL0.out
        have HL := Aside0.mk (show (xs ++ [214] ++ T.n x % 256 :: outR 0 0).length + (T.s x).size ≤ 140737488355328 by simp only [List.length_append, List.length_cons, outR_len, List.length_nil] at hl0 ⊢; omega)
        go_wp2
        go_region_law (first
          | (refine step_append_str (W := W3.drew) rfl (.tmp 40) (.tmp 42) 26 9 rfl Try.underlying26 Try.underlying9 info5 n0 (.slice A3 n3 c3) _ (T.s x) (by simp [Act.eval, Act.put]) (by simp [Act.eval, Act.put]) HR4.out hs4 HL.out ?_
             intro v1 w5 hR1 hg1
             obtain ⟨A5, n5, c5, rfl⟩ := slice_of hR1
             have hbv := blk_grown HV4.out hg1 (Kd.R_ne HR4.out HV4.out (by decide))
             have hcz5 := (blk_cell hbv 0).trans (rfl : _ = some (Value.slice A3 n3 c3))
             have hfz5 := blk_frozen hbv 0
             obtain ⟨hp1, hp2⟩ := St.put hg hs4 HV4.out HR4.out hR1 hg1
             have HS5 := Aside0.mk hp1
             have HK5 := Aside0.mk hp2
             clear hR1 hg1 hbv hp1 hp2))
        all_goals
          go_wp2
          go_end0
          refine ⟨rfl, ?_, HK1.out.trans (HK2.out.trans (HK3.out.trans ((Ke.of_below HS3.out.size (below_drew (Below.refl _ _))).trans HK5.out)))⟩
          have h9 := HS5.out
          have hz := HZ.out
          rw [← hz]
          simpa [outR] using h9
      · have hb : (((T.s x).size : Int) != 4) = true := by simp [hx]
        have HZ := Aside0.mk (show exF ((T.s x).size : Int) 3 = extR ((T.s x).size : Int) by have h9 := HE.out; rw [← h9]; simp [exF, extR, hx])
        go_wp2
        exact ⟨⟨3, by first | rfl | simp, by omega, trivial, HZ⟩, by simp [intOf]⟩
    · by_cases hx : ((T.s x).size : Int) = 8
      · have hb : (((T.s x).size : Int) != 8) = false := by simp [hx]
        have he := HE.out
        have HZ := Aside0.mk (show [215] = extR ((T.s x).size : Int) from by rw [← he]; simp [exF, extR, hx])
        have HL0 := Aside0.mk (show ([215] : List Int).length ≤ 9 by first | decide | (simp only [List.length_cons, outR_len]; have := szR_le ((T.s x).size : Int); omega))
        go_wp2_with (first
          | (go_at_call 22; refine (put_calls g n0 hg _ 0 0 (by omega) wr xs HST.out hlen).mono ?_; rintro e W2 ⟨rfl, hs2, hk2⟩; have hx2 := hk2.cells _ _ _ _ (by decide) (by decide) HX.out; have hn2 : W2.cell? ⟨W.heap.size, 2, none⟩ = some (.int .u64 (T.n x)) := (cells5 hx2).2.2.1; have HX2 := Aside0.mk hx2; have HS2 := Aside0.mk hs2; have HK2 := Aside0.mk hk2; clear hs2 hk2 hx2)
          | (go_at_call 22; refine (put_calls g n0 hg _ 0 0 (by omega) W2 _ HS2.out (by have h := HL0.out; simp only [List.length_append, List.length_cons, outR_len, List.length_nil] at h ⊢; omega)).mono ?_; rintro e W3 ⟨rfl, hs3, hk3⟩; obtain ⟨v3, hv3, hrow3⟩ := hs3.row; obtain ⟨A3, n3, c3, rfl⟩ := slice_of hrow3; have hcv3 := (blk_cell hv3 0).trans (rfl : _ = some (Value.slice A3 n3 c3)); have hx3 : W3.cell? ⟨W.heap.size, 3, none⟩ = some (.string (T.s x)) := (cells5 (hk3.cells _ _ _ _ (by decide) (by decide) HX2.out)).2.2.2.1; have HV4 := Aside0.mk (blk_drew hv3); have HR4 := Aside0.mk (Kd.R_drew hrow3); have HS3 := Aside0.mk hs3; have HK3 := Aside0.mk hk3; clear hs3 hk3 hv3 hrow3))
        have hs4 : n0 ≤ W3.drew.heap.size := HS3.out.size
        have hl0 := HL0.out
        have HL := Aside0.mk (show (xs ++ [215] ++ T.n x % 256 :: outR 0 0).length + (T.s x).size ≤ 140737488355328 by simp only [List.length_append, List.length_cons, outR_len, List.length_nil] at hl0 ⊢; omega)
        go_wp2
        go_region_law (first
          | (refine step_append_str (W := W3.drew) rfl (.tmp 40) (.tmp 42) 26 9 rfl Try.underlying26 Try.underlying9 info5 n0 (.slice A3 n3 c3) _ (T.s x) (by simp [Act.eval, Act.put]) (by simp [Act.eval, Act.put]) HR4.out hs4 HL.out ?_
             intro v1 w5 hR1 hg1
             obtain ⟨A5, n5, c5, rfl⟩ := slice_of hR1
             have hbv := blk_grown HV4.out hg1 (Kd.R_ne HR4.out HV4.out (by decide))
             have hcz5 := (blk_cell hbv 0).trans (rfl : _ = some (Value.slice A3 n3 c3))
             have hfz5 := blk_frozen hbv 0
             obtain ⟨hp1, hp2⟩ := St.put hg hs4 HV4.out HR4.out hR1 hg1
             have HS5 := Aside0.mk hp1
             have HK5 := Aside0.mk hp2
             clear hR1 hg1 hbv hp1 hp2))
        all_goals
          go_wp2
          go_end0
          refine ⟨rfl, ?_, HK1.out.trans (HK2.out.trans (HK3.out.trans ((Ke.of_below HS3.out.size (below_drew (Below.refl _ _))).trans HK5.out)))⟩
          have h9 := HS5.out
          have hz := HZ.out
          rw [← hz]
          simpa [outR] using h9
      · have hb : (((T.s x).size : Int) != 8) = true := by simp [hx]
        have HZ := Aside0.mk (show exF ((T.s x).size : Int) 4 = extR ((T.s x).size : Int) by have h9 := HE.out; rw [← h9]; simp [exF, extR, hx])
        go_wp2
        exact ⟨⟨4, by first | rfl | simp, by omega, trivial, HZ⟩, by simp [intOf]⟩
    · by_cases hx : ((T.s x).size : Int) = 16
      · have hb : (((T.s x).size : Int) != 16) = false := by simp [hx]
        have he := HE.out
        have HZ := Aside0.mk (show [216] = extR ((T.s x).size : Int) from by rw [← he]; simp [exF, extR, hx])
        have HL0 := Aside0.mk (show ([216] : List Int).length ≤ 9 by first | decide | (simp only [List.length_cons, outR_len]; have := szR_le ((T.s x).size : Int); omega))
        go_wp2_with (first
          | (go_at_call 22; refine (put_calls g n0 hg _ 0 0 (by omega) wr xs HST.out hlen).mono ?_; rintro e W2 ⟨rfl, hs2, hk2⟩; have hx2 := hk2.cells _ _ _ _ (by decide) (by decide) HX.out; have hn2 : W2.cell? ⟨W.heap.size, 2, none⟩ = some (.int .u64 (T.n x)) := (cells5 hx2).2.2.1; have HX2 := Aside0.mk hx2; have HS2 := Aside0.mk hs2; have HK2 := Aside0.mk hk2; clear hs2 hk2 hx2)
          | (go_at_call 22; refine (put_calls g n0 hg _ 0 0 (by omega) W2 _ HS2.out (by have h := HL0.out; simp only [List.length_append, List.length_cons, outR_len, List.length_nil] at h ⊢; omega)).mono ?_; rintro e W3 ⟨rfl, hs3, hk3⟩; obtain ⟨v3, hv3, hrow3⟩ := hs3.row; obtain ⟨A3, n3, c3, rfl⟩ := slice_of hrow3; have hcv3 := (blk_cell hv3 0).trans (rfl : _ = some (Value.slice A3 n3 c3)); have hx3 : W3.cell? ⟨W.heap.size, 3, none⟩ = some (.string (T.s x)) := (cells5 (hk3.cells _ _ _ _ (by decide) (by decide) HX2.out)).2.2.2.1; have HV4 := Aside0.mk (blk_drew hv3); have HR4 := Aside0.mk (Kd.R_drew hrow3); have HS3 := Aside0.mk hs3; have HK3 := Aside0.mk hk3; clear hs3 hk3 hv3 hrow3))
        have hs4 : n0 ≤ W3.drew.heap.size := HS3.out.size
        have hl0 := HL0.out
        have HL := Aside0.mk (show (xs ++ [216] ++ T.n x % 256 :: outR 0 0).length + (T.s x).size ≤ 140737488355328 by simp only [List.length_append, List.length_cons, outR_len, List.length_nil] at hl0 ⊢; omega)
        go_wp2
        go_region_law (first
          | (refine step_append_str (W := W3.drew) rfl (.tmp 40) (.tmp 42) 26 9 rfl Try.underlying26 Try.underlying9 info5 n0 (.slice A3 n3 c3) _ (T.s x) (by simp [Act.eval, Act.put]) (by simp [Act.eval, Act.put]) HR4.out hs4 HL.out ?_
             intro v1 w5 hR1 hg1
             obtain ⟨A5, n5, c5, rfl⟩ := slice_of hR1
             have hbv := blk_grown HV4.out hg1 (Kd.R_ne HR4.out HV4.out (by decide))
             have hcz5 := (blk_cell hbv 0).trans (rfl : _ = some (Value.slice A3 n3 c3))
             have hfz5 := blk_frozen hbv 0
             obtain ⟨hp1, hp2⟩ := St.put hg hs4 HV4.out HR4.out hR1 hg1
             have HS5 := Aside0.mk hp1
             have HK5 := Aside0.mk hp2
             clear hR1 hg1 hbv hp1 hp2))
        all_goals
          go_wp2
          go_end0
          refine ⟨rfl, ?_, HK1.out.trans (HK2.out.trans (HK3.out.trans ((Ke.of_below HS3.out.size (below_drew (Below.refl _ _))).trans HK5.out)))⟩
          have h9 := HS5.out
          have hz := HZ.out
          rw [← hz]
          simpa [outR] using h9
      · have hb : (((T.s x).size : Int) != 16) = true := by simp [hx]
        have HZ := Aside0.mk (show exF ((T.s x).size : Int) 5 = extR ((T.s x).size : Int) by have h9 := HE.out; rw [← h9]; simp [exF, extR, hx])
        go_wp2
        exact ⟨⟨5, by first | rfl | simp, by omega, trivial, HZ⟩, by simp [intOf]⟩
    · have HZ := Aside0.mk (show (((199 : Int) + szR ((T.s x).size : Int)) % 256 :: outR ((T.s x).size : Int) (2 ^ szR ((T.s x).size : Int))) = extR ((T.s x).size : Int) from by rw [← HE.out]; simp [exF])
      have HL0 := Aside0.mk (show ((((199 : Int) + szR ((T.s x).size : Int)) % 256 :: outR ((T.s x).size : Int) (2 ^ szR ((T.s x).size : Int))) : List Int).length ≤ 9 by first | decide | (simp only [List.length_cons, outR_len]; have := szR_le ((T.s x).size : Int); omega))
      go_wp2_with (first
        | (go_at_call 44; refine (sized_calls g n0 hg _ _ _ wr xs HST.out hlen).mono ?_; rintro e W2 ⟨rfl, hs2, hk2⟩; have hx2 := hk2.cells _ _ _ _ (by decide) (by decide) HX.out; have hn2 : W2.cell? ⟨W.heap.size, 2, none⟩ = some (.int .u64 (T.n x)) := (cells5 hx2).2.2.1; have HX2 := Aside0.mk hx2; have HS2 := Aside0.mk hs2; have HK2 := Aside0.mk hk2; clear hs2 hk2 hx2)
        | (go_at_call 22; refine (put_calls g n0 hg _ 0 0 (by omega) W2 _ HS2.out (by have h := HL0.out; simp only [List.length_append, List.length_cons, outR_len, List.length_nil] at h ⊢; omega)).mono ?_; rintro e W3 ⟨rfl, hs3, hk3⟩; obtain ⟨v3, hv3, hrow3⟩ := hs3.row; obtain ⟨A3, n3, c3, rfl⟩ := slice_of hrow3; have hcv3 := (blk_cell hv3 0).trans (rfl : _ = some (Value.slice A3 n3 c3)); have hx3 : W3.cell? ⟨W.heap.size, 3, none⟩ = some (.string (T.s x)) := (cells5 (hk3.cells _ _ _ _ (by decide) (by decide) HX2.out)).2.2.2.1; have HV4 := Aside0.mk (blk_drew hv3); have HR4 := Aside0.mk (Kd.R_drew hrow3); have HS3 := Aside0.mk hs3; have HK3 := Aside0.mk hk3; clear hs3 hk3 hv3 hrow3))
      have hs4 : n0 ≤ W3.drew.heap.size := HS3.out.size
      have hl0 := HL0.out
      have HL := Aside0.mk (show (xs ++ (((199 : Int) + szR ((T.s x).size : Int)) % 256 :: outR ((T.s x).size : Int) (2 ^ szR ((T.s x).size : Int))) ++ T.n x % 256 :: outR 0 0).length + (T.s x).size ≤ 140737488355328 by simp only [List.length_append, List.length_cons, outR_len, List.length_nil] at hl0 ⊢; omega)
      go_wp2
      go_region_law (first
        | (refine step_append_str (W := W3.drew) rfl (.tmp 40) (.tmp 42) 26 9 rfl Try.underlying26 Try.underlying9 info5 n0 (.slice A3 n3 c3) _ (T.s x) (by simp [Act.eval, Act.put]) (by simp [Act.eval, Act.put]) HR4.out hs4 HL.out ?_
           intro v1 w5 hR1 hg1
           obtain ⟨A5, n5, c5, rfl⟩ := slice_of hR1
           have hbv := blk_grown HV4.out hg1 (Kd.R_ne HR4.out HV4.out (by decide))
           have hcz5 := (blk_cell hbv 0).trans (rfl : _ = some (Value.slice A3 n3 c3))
           have hfz5 := blk_frozen hbv 0
           obtain ⟨hp1, hp2⟩ := St.put hg hs4 HV4.out HR4.out hR1 hg1
           have HS5 := Aside0.mk hp1
           have HK5 := Aside0.mk hp2
           clear hR1 hg1 hbv hp1 hp2))
      all_goals
        go_wp2
        go_end0
        refine ⟨rfl, ?_, HK1.out.trans (HK2.out.trans (HK3.out.trans ((Ke.of_below HS3.out.size (below_drew (Below.refl _ _))).trans HK5.out)))⟩
        have h9 := HS5.out
        have hz := HZ.out
        rw [← hz]
        simpa [outR] using h9
end
end Go.Proofs.Ytchklgkakefhbaa.Wr
