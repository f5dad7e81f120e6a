/- glossatorref13.ext: the bytes of a KExt, by the document's answer. -/
import Derived.Test.YtchklgkakefhbaaEnc
namespace Go.Proofs.Ytchklgkakefhbaa.Wr
open Go Go.RowKit Go.Shelf Go.Proofs.Ytchklgkakefhbaa.Each Go.Proofs.YtchklgkakefhbaaW.PrintWords Go.Proofs.YtchklgkakefhbaaW.PrintLast
set_option linter.unusedVariables false
set_option linter.unusedSimpArgs false
theorem BR.weaken {W : World} {b b' : Nat} {v : Value} {xs : List Int} (h : BR W b v xs) (hb : b' ≤ b) : BR W b' v xs := Kd.R_of_own (own_weaken (Kd.own_of_R h) hb) (fun _ _ => trivial)
theorem BR.lit {W : World} {b : Nat} (hb : b ≤ W.heap.size) (x : Int) : BR (W.alloc (.cells #[.int .u8 x] 5 (0, 0))) b (.slice (some ⟨W.heap.size, 0, none⟩) 1 1) [x] :=
  Kd.R_of_own (by have h2 := World.ownsRow_lit (base := b) (e := 5) (size := 1) W #[.int .u8 x] 1 hb (by decide) rfl; exact h2) (fun _ _ => trivial)
/-- The head of a KExt; tl: that of a length of its own. -/
def rexH (n : Nat) (tl : List Int) : List Int := if n = 1 then [212] else if n = 2 then [213] else if n = 4 then [214] else if n = 8 then [215] else if n = 16 then [216] else tl
set_option maxRecDepth 100000 in
set_option maxHeartbeats 8000000 in
theorem rext_calls (k : Int) (b : Bool) (n : Int) (s : ByteArray) (A : Option Addr) (l c : Nat) (tl : List Int) (w : World) (hs : s.size ≤ 1099511627776) (htl : tl.length ≤ 1099511627776)
    (h37 : ∀ W, Calls Try.prog 37 #[.int .i64 (s.size : Int), .int .i64 0, .int .i64 0, .int .i64 199] W fun e W' => ∃ v, e = .returned v ∧ BR W' W.heap.size v tl ∧ Below W.heap.size W W') :
    Calls Try.prog 38 #[.agg #[.int .i64 k, .bool b, .int .u64 n, .string s, .slice A l c]] w fun e w' => ∃ v, e = .returned v ∧ BR w' w.heap.size v (rexH s.size tl ++ [n % 256] ++ bytesOf s) ∧ Below w.heap.size w w' := by
  obtain ⟨W1, hW1⟩ : ∃ W1, w.alloc (.cells #[.int .i64 k, .bool b, .int .u64 n, .string s, .slice A l c] 25 (0, 0)) = W1 := ⟨_, rfl⟩
  have hb1 : Below w.heap.size w W1 := by rw [← hW1]; exact below_alloc (Below.refl _ _) _
  have hx1 : W1.heap[w.heap.size]? = some (.cells #[.int .i64 k, .bool b, .int .u64 n, .string s, .slice A l c] 25 (0, 0)) := by rw [← hW1]; exact World.alloc_heap_new w _
  obtain ⟨b0, b1, b2, b3, b4⟩ := cells5 hx1
  obtain ⟨H, hH⟩ : ∃ H, rexH s.size tl = H := ⟨_, rfl⟩
  have hHl : H.length ≤ 1099511627777 := by rw [← hH, rexH]; (repeat' split) <;> first | (simp; done) | omega
  rw [hH]
  have HX := Aside0.mk hx1
  have HB := Aside0.mk hb1
  have HH := Aside0.mk hH
  have H37 := Aside0.mk (h37 W1)
  clear h37 hx1 hb1 hH
  go_enter Try.func38, Try.ntmps38
  go_upto_block 0 with (go_at_call 37; refine H37.out.mono ?_; rintro e W2 ⟨v2, rfl, hr2, hb2⟩; have HR2 := Aside0.mk (BR.weaken hr2 HB.out.size); have HB2 := Aside0.mk (HB.out.trans (hb2.mono HB.out.size)); have HX2 := Aside0.mk ((hb2.block _ (blk_lt HX.out)).trans HX.out); obtain ⟨d0, d1, d2, d3, d4⟩ := cells5 HX2.out; clear hr2 hb2 b0 b1 b2 b3 b4)
  go_cut [3] (fun v3 wx => Aside0 (BR wx w.heap.size v3 H) ∧ Aside0 (Below w.heap.size w wx) ∧ Aside0 (wx.heap[w.heap.size]? = some (.cells #[.int .i64 k, .bool b, .int .u64 n, .string s, .slice A l c] 25 (0, 0))))
  case first =>
    by_cases h1 : s.size = 1
    · have hq : ((s.size : Int) == 1) = true := by simp [h1]
      have HV := Aside0.mk (show [212] = H by rw [← HH.out]; simp [rexH, h1])
      go_wp2
      go_meet
      exact ⟨⟨by rw [← HV.out]; exact BR.lit HB2.out.size _⟩, ⟨below_alloc HB2.out _⟩, ⟨blk_alloc HX2.out _⟩⟩
    · have hq1 : ((s.size : Int) == 1) = false := by simp; omega
      by_cases h2 : s.size = 2
      · have hq : ((s.size : Int) == 2) = true := by simp [h2]
        have HV := Aside0.mk (show [213] = H by rw [← HH.out]; simp [rexH, h2])
        go_wp2
        go_meet
        exact ⟨⟨by rw [← HV.out]; exact BR.lit HB2.out.size _⟩, ⟨below_alloc HB2.out _⟩, ⟨blk_alloc HX2.out _⟩⟩
      · have hq2 : ((s.size : Int) == 2) = false := by simp; omega
        by_cases h4 : s.size = 4
        · have hq : ((s.size : Int) == 4) = true := by simp [h4]
          have HV := Aside0.mk (show [214] = H by rw [← HH.out]; simp [rexH, h4])
          go_wp2
          go_meet
          exact ⟨⟨by rw [← HV.out]; exact BR.lit HB2.out.size _⟩, ⟨below_alloc HB2.out _⟩, ⟨blk_alloc HX2.out _⟩⟩
        · have hq4 : ((s.size : Int) == 4) = false := by simp; omega
          by_cases h8 : s.size = 8
          · have hq : ((s.size : Int) == 8) = true := by simp [h8]
            have HV := Aside0.mk (show [215] = H by rw [← HH.out]; simp [rexH, h8])
            go_wp2
            go_meet
            exact ⟨⟨by rw [← HV.out]; exact BR.lit HB2.out.size _⟩, ⟨below_alloc HB2.out _⟩, ⟨blk_alloc HX2.out _⟩⟩
          · have hq8 : ((s.size : Int) == 8) = false := by simp; omega
            by_cases h16 : s.size = 16
            · have hq : ((s.size : Int) == 16) = true := by simp [h16]
              have HV := Aside0.mk (show [216] = H by rw [← HH.out]; simp [rexH, h16])
              go_wp2
              go_meet
              exact ⟨⟨by rw [← HV.out]; exact BR.lit HB2.out.size _⟩, ⟨below_alloc HB2.out _⟩, ⟨blk_alloc HX2.out _⟩⟩
            · have hq16 : ((s.size : Int) == 16) = false := by simp; omega
              have HV := Aside0.mk (show tl = H by rw [← HH.out]; simp [rexH, *])
              go_wp2
              go_meet
              exact ⟨⟨by rw [← HV.out]; exact HR2.out⟩, HB2, HX2⟩
  case rest =>
    obtain ⟨HR3, HB3, HX3⟩ := hcut
    obtain ⟨A3, n3, c3, rfl⟩ := slice_of HR3.out
    obtain ⟨e0, e1, e2, e3, e4⟩ := cells5 HX3.out
    go_wp2_with (first
      | ((with_reducible refine gate_builtin (b := .append) (xs := #[.tmp 26, .tmp 30]) rfl ?_); at_builtin; refine Kd.R_append (Kd.int .u8) (w0 := w) (W := wc) w.heap.size rfl (.tmp 26) (.tmp 30) 26 5 (.int .u8 0) 1 rfl Try.underlying26 info5 rfl (by decide) (by omega) (.slice A3 n3 c3) H (n % 256) [.int .u8 (n % 256)] (fun _ => True) (fun _ => False) rfl rfl rfl (fun _ h => h.elim) (fun _ _ => trivial) HR3.out HB3.out HB3.out.size ?aL ?_; (case aL => omega); intro v4 w4 hR4 hB4 hg4 hat4; obtain ⟨A4, n4, c4, rfl⟩ := slice_of hR4; have HR4 := Aside0.mk hR4; have HB4 := Aside0.mk hB4; have HX4 := Aside0.mk (blk_grown HX3.out hg4 (Kd.R_ne HR3.out HX3.out (by decide))); obtain ⟨f0, f1, f2, f3, f4⟩ := cells5 HX4.out; clear hR4 hB4 hg4 hat4)
      | (at_builtin; refine print_append_str (w0 := w) w.heap.size rfl (.tmp 32) _ 26 9 5 rfl Try.underlying26 Try.underlying9 info5 (.slice A4 n4 c4) (H ++ [n % 256]) s rfl rfl (Kd.own_of_R HR4.out) HB4.out HB4.out.size ?aL ?_; (case aL => rw [List.length_append]; simp only [List.length_cons, List.length_nil]; omega); intro v5 w5 hR5 hB5 hg5; have HR5 := Aside0.mk hR5; have HB5 := Aside0.mk hB5; clear hR5 hB5 hg5))
    go_ret
    exact ⟨_, rfl, Kd.R_of_own HR5.out (fun _ _ => trivial), HB5.out⟩
end Go.Proofs.Ytchklgkakefhbaa.Wr
