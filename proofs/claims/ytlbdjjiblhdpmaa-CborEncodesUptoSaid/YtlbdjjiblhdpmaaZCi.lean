-- Out of texts of this seat by a program of this session: what the claim does not reach is struck
import Derived.Test.YtlbdjjiblhdpmaaZCb
namespace Go.Proofs.Ytlbdjjiblhdpmaa.Cw
open Go Go.RowKit Go.Shelf Go.Proofs.Ytlbdjjiblhdpmaa.Each Go.Proofs.YtlbdjjiblhdpmaaW.PrintWords Go.Proofs.YtlbdjjiblhdpmaaW.PrintLast
set_option linter.unusedVariables false
set_option linter.unusedSimpArgs false
theorem flat_snoc {S V : Type} (f : S → List V) (z : S) : ∀ (l : List S) (j : Nat), j < l.length → ((l.take (j + 1)).map f).flatten = ((l.take j).map f).flatten ++ f (l.getD j z)
  | [], j, h => by simp at h
  | y :: ys, 0, _ => by simp
  | y :: ys, j + 1, h => by
    simp only [List.take_succ_cons, List.map_cons, List.flatten_cons]
    rw [flat_snoc f z ys j (by simpa using h)]
    simp
theorem flat_le {S V : Type} (f : S → List V) (l : List S) (j : Nat) : ((l.take j).map f).flatten.length ≤ (l.map f).flatten.length := by
  have h : (l.map f).flatten = ((l.take j).map f).flatten ++ ((l.drop j).map f).flatten := by
    rw [← List.flatten_append, ← List.map_append, List.take_append_drop]
  rw [h, List.length_append]; omega
theorem fltP_len (z : Nat) (hz : z ≤ 3) (n : Int) : (fltP z n).length ≤ 9 := by
  unfold fltP
  rcases (show z = 0 ∨ z = 1 ∨ z = 2 ∨ z = 3 by omega) with rfl | rfl | rfl | rfl <;> simp [outR_len]
section
variable {S : Type} (T : Tree S) (o : Bool) (i : Int) (s : Bool)
def hdC (x : S) : List Int :=
  if T.k x = 0 then headP 7 22 else if T.k x = 2 then headP 7 23 else if T.k x = 1 then headP 7 ((T.n x + 20) % 18446744073709551616) else if T.k x = 3 then headP 7 (T.n x)
  else if T.k x = 4 then headP (if T.neg x = true then 1 else 0) (T.n x) else if T.k x = 6 then fltP 1 (T.n x) else if T.k x = 7 then fltP 2 (T.n x) else if T.k x = 8 then fltP 3 (T.n x)
  else if T.k x = 5 then headP 6 (2 + if T.neg x = true then 1 else 0) ++ txtP o 2 (T.s x) else if T.k x = 9 then txtP o 2 (T.s x) else if T.k x = 10 then txtP o 3 (T.s x) else if T.k x = 13 then headP 6 (T.n x)
  else if T.k x = 11 then begP o 4 ((T.kids x).length : Int) else if T.k x = 12 then begP o 5 (((T.kids x).length : Int) / 2) else []
def kdC (x : S) : List S := if T.k x = 11 ∨ T.k x = 12 then T.kids x else if T.k x = 13 then (T.kids x).take 1 else []
def enC (x : S) : List Int := if (T.k x = 11 ∨ T.k x = 12) ∧ o = true then [255] else []
def itmC : Nat → S → List Int
  | 0, _ => []
  | m + 1, x => hdC T o x ++ (((kdC T x).map (itmC m)).flatten ++ enC T o x)
set_option maxRecDepth 100000 in
set_option maxHeartbeats 32000000 in
theorem item_calls (g n0 : Nat) (hg : n0 ≤ g) (w0 : World) (hw0 : w0.heap.size ≤ n0) (ok : S → Prop) (hok : ∀ x, ok x → (0 ≤ T.n x ∧ T.n x ≤ 18446744073709551615 ∧ (T.k x = 13 → 0 < (T.kids x).length)) ∧ ∀ y ∈ T.kids x, ok y) :
    ∀ (m : Nat) (x : S) (cs : List Value) (W : World) (xs : List Int), T.sz x < m → ok x → xs.length + (itmC T o m x).length ≤ 1099511627600 → T.D.K w0 x cs → Below w0.heap.size w0 W → St o i s g n0 W xs →
    Calls Try.prog 11 #[.pointer (some ⟨g, 0, none⟩), .agg cs.toArray] W fun e W' => e = .returned (.tuple #[]) ∧ St o i s g n0 W' (xs ++ itmC T o m x) ∧ Ke n0 W W' := by
  intro m
  induction m with
  | zero => intro x cs W xs h; omega
  | succ m ih =>
  intro x cs W xs hsz hx hlen hK hb0 hst
  obtain ⟨⟨hn0, hn1, h13⟩, hkids⟩ := hok x hx
  have hK' := hK
  obtain ⟨A4, c4, rfl, hc4, g4⟩ := T.openK hK
  clear hK
  obtain ⟨E, hE⟩ : ∃ E, ((kdC T x).map (itmC T o m)).flatten = E := ⟨_, rfl⟩
  obtain ⟨HD, hHD⟩ : ∃ HD, hdC T o x = HD := ⟨_, rfl⟩
  obtain ⟨EN, hEN⟩ : ∃ EN, enC T o x = EN := ⟨_, rfl⟩
  have hev : itmC T o (m + 1) x = HD ++ (E ++ EN) := by rw [← hE, ← hHD, ← hEN]; rfl
  obtain ⟨W1, hW1⟩ : ∃ W1, W.alloc (.cells #[.int .i64 (T.k x), .bool (T.neg x), .int .u64 (T.n x), .string (T.s x), .slice A4 (T.kids x).length c4] 25 (0, 0)) = W1 := ⟨_, rfl⟩
  have hb1 : Below W.heap.size W W1 := by rw [← hW1]; exact below_alloc (Below.refl _ _) _
  have hx1 : W1.heap[W.heap.size]? = some (.cells #[.int .i64 (T.k x), .bool (T.neg x), .int .u64 (T.n x), .string (T.s x), .slice A4 (T.kids x).length c4] 25 (0, 0)) := by rw [← hW1]; exact World.alloc_heap_new W _
  have hst1 : St o i s g n0 W1 xs := St.below o i s hst hb1
  have hk1 : Ke n0 W W1 := Ke.of_below hst.size hb1
  have hbe1 : Below w0.heap.size w0 W1 := hb0.trans (hk1.below.mono hw0)
  obtain ⟨b0, b1, b2, b3, b4⟩ := cells5 hx1
  obtain ⟨kk, hkk⟩ : ∃ kk, T.k x = kk := ⟨_, rfl⟩
  have hgl : (T.kids x).length ≤ 9223372036854775807 := g4.2.1
  have hsW := hst.size
  have HX := Aside0.mk hx1
  have HST := Aside0.mk hst1
  have HST0 := Aside0.mk hst
  have HK1 := Aside0.mk hk1
  have HB := Aside0.mk hbe1
  have HB1 := Aside0.mk hb1
  have HIH := Aside0.mk ih
  have HE := Aside0.mk hE
  have HHD := Aside0.mk hHD
  have HEN := Aside0.mk hEN
  have HEV := Aside0.mk hev
  have HK := Aside0.mk hK'
  have HG4 := Aside0.mk g4
  have HKD := Aside0.mk hkids
  have HOK := Aside0.mk hx
  have HKK := Aside0.mk hkk
  have H13 := Aside0.mk h13
  have HXL : Aside0 (xs.length + HD.length + E.length + EN.length ≤ 1099511627600) := ⟨by rw [hev] at hlen; simp only [List.length_append] at hlen; omega⟩
  have hxl : xs.length ≤ 1099511627600 := by have h := HXL.out; omega
  rw [hkk] at b0
  clear hb1 hx1 hst1 hk1 hbe1 ih hlen hE hev hK' g4 hst hb0 hHD hkids hx hok hkk h13 hEN
  by_cases h0 : kk = 0
  · subst h0
    have HZ := Aside0.mk (show HD = headP 7 22 ∧ E = [] ∧ EN = [] by refine ⟨?_, ?_, ?_⟩; (· rw [← HHD.out, hdC, HKK.out]; simp); (· rw [← HE.out, kdC, HKK.out]; simp); (· rw [← HEN.out, enC, HKK.out]; simp))
    go_enter Try.func11, Try.ntmps11
    go_wp2_with (go_at_call 20; go_loud (refine (head_calls o i s g n0 hg 7 22 (by omega) (by omega) (by omega) (by omega) W1 xs HST.out (by omega)).mono ?_); rintro e W2 ⟨rfl, hs2, hk2⟩; have HS2 := Aside0.mk hs2; have HK2 := Aside0.mk hk2; clear hs2 hk2)
    go_end0
    refine ⟨rfl, ?_, HK1.out.trans HK2.out⟩
    rw [HEV.out, HZ.out.1, HZ.out.2.1, HZ.out.2.2]
    have h9 := HS2.out
    simpa using h9
  by_cases h2 : kk = 2
  · subst h2
    have HZ := Aside0.mk (show HD = headP 7 23 ∧ E = [] ∧ EN = [] by refine ⟨?_, ?_, ?_⟩; (· rw [← HHD.out, hdC, HKK.out]; simp); (· rw [← HE.out, kdC, HKK.out]; simp); (· rw [← HEN.out, enC, HKK.out]; simp))
    go_enter Try.func11, Try.ntmps11
    go_wp2_with (go_at_call 20; go_loud (refine (head_calls o i s g n0 hg 7 23 (by omega) (by omega) (by omega) (by omega) W1 xs HST.out (by omega)).mono ?_); rintro e W2 ⟨rfl, hs2, hk2⟩; have HS2 := Aside0.mk hs2; have HK2 := Aside0.mk hk2; clear hs2 hk2)
    go_end0
    refine ⟨rfl, ?_, HK1.out.trans HK2.out⟩
    rw [HEV.out, HZ.out.1, HZ.out.2.1, HZ.out.2.2]
    have h9 := HS2.out
    simpa using h9
  by_cases h1 : kk = 1
  · subst h1
    have hwr : IntKind.u64.wrap (T.n x + 20) = (T.n x + 20) % 18446744073709551616 := by simp [IntKind.wrap, IntKind.bits, IntKind.signed]
    have HBW := Aside0.mk (show Below W.heap.size W (W1.setCell ⟨W.heap.size, 2, none⟩ (.int .u64 ((T.n x + 20) % 18446744073709551616))) from HB1.out.setCell (p := ⟨W.heap.size, 2, none⟩) (Nat.le_refl _) _)
    have hfz := blk_frozen HX.out 2
    have HSW := Aside0.mk (show St o i s g n0 (W1.setCell ⟨W.heap.size, 2, none⟩ (.int .u64 ((T.n x + 20) % 18446744073709551616))) xs from St.below o i s HST0.out HBW.out)
    have HZ := Aside0.mk (show HD = headP 7 ((T.n x + 20) % 18446744073709551616) ∧ E = [] ∧ EN = [] by refine ⟨?_, ?_, ?_⟩; (· rw [← HHD.out, hdC, HKK.out]; simp); (· rw [← HE.out, kdC, HKK.out]; simp); (· rw [← HEN.out, enC, HKK.out]; simp))
    go_enter Try.func11, Try.ntmps11
    go_wp2_with (go_at_call 20; go_loud (refine (head_calls o i s g n0 hg 7 ((T.n x + 20) % 18446744073709551616) (by omega) (by omega) (by omega) (by omega) (W1.setCell ⟨W.heap.size, 2, none⟩ (.int .u64 ((T.n x + 20) % 18446744073709551616))) xs HSW.out (by omega)).mono ?_); rintro e W2 ⟨rfl, hs2, hk2⟩; have HS2 := Aside0.mk hs2; have HK2 := Aside0.mk hk2; clear hs2 hk2)
    go_end0
    refine ⟨rfl, ?_, (Ke.of_below hsW HBW.out).trans HK2.out⟩
    rw [HEV.out, HZ.out.1, HZ.out.2.1, HZ.out.2.2]
    have h9 := HS2.out
    simpa using h9
  by_cases h3 : kk = 3
  · subst h3
    have HZ := Aside0.mk (show HD = headP 7 (T.n x) ∧ E = [] ∧ EN = [] by refine ⟨?_, ?_, ?_⟩; (· rw [← HHD.out, hdC, HKK.out]; simp); (· rw [← HE.out, kdC, HKK.out]; simp); (· rw [← HEN.out, enC, HKK.out]; simp))
    go_enter Try.func11, Try.ntmps11
    go_wp2_with (go_at_call 20; go_loud (refine (head_calls o i s g n0 hg 7 (T.n x) (by omega) (by omega) (by omega) (by omega) W1 xs HST.out (by omega)).mono ?_); rintro e W2 ⟨rfl, hs2, hk2⟩; have HS2 := Aside0.mk hs2; have HK2 := Aside0.mk hk2; clear hs2 hk2)
    go_end0
    refine ⟨rfl, ?_, HK1.out.trans HK2.out⟩
    rw [HEV.out, HZ.out.1, HZ.out.2.1, HZ.out.2.2]
    have h9 := HS2.out
    simpa using h9
  by_cases h4 : kk = 4
  · subst h4
    obtain ⟨q, hq⟩ : ∃ q : Int, (if T.neg x = true then 1 else 0) = q := ⟨_, rfl⟩
    have hq0 : 0 ≤ q := by rw [← hq]; split <;> omega
    have hq1 : q ≤ 1 := by rw [← hq]; split <;> omega
    have HN := Aside0.mk (fun W => (number_calls (T.neg x) W))
    rw [hq] at HN
    have HZ := Aside0.mk (show HD = headP q (T.n x) ∧ E = [] ∧ EN = [] by refine ⟨?_, ?_, ?_⟩; (· rw [← HHD.out, hdC, HKK.out, hq]; simp); (· rw [← HE.out, kdC, HKK.out]; simp); (· rw [← HEN.out, enC, HKK.out]; simp))
    have HSD := Aside0.mk (show St o i s g n0 W1.drew xs from St.below o i s HST.out (below_drew (Below.refl _ _)))
    clear hq
    go_enter Try.func11, Try.ntmps11
    go_wp2
    go_region_law (first
      | (refine goes_ Try.func21 (by kernel_rfl) rfl #[.bool (T.neg x)] (by rfl) rfl rfl ?ha ?_
         (case ha => simp [Act.eval, Act.put])
         refine (HN.out W1.drew).mono ?_
         rintro e W' ⟨rfl, rfl⟩
         refine ⟨_, rfl, ?_⟩)
      | (refine goes_ Try.func20 (by kernel_rfl) rfl #[.pointer (some ⟨g, 0, none⟩), .int .i64 q, .int .u64 (T.n x)] (by rfl) rfl rfl ?ha ?_
         (case ha => simp [Act.eval, Act.put])
         refine (head_calls o i s g n0 hg q (T.n x) hq0 (by omega) hn0 hn1 W1.drew xs HSD.out (by omega)).mono ?_
         rintro e W2 ⟨rfl, hs2, hk2⟩
         refine ⟨_, rfl, ?_⟩
         have HS2 := Aside0.mk hs2
         have HK2 := Aside0.mk hk2
         clear hs2 hk2))
    all_goals
      go_wp2
      go_end0
      refine ⟨rfl, ?_, HK1.out.trans ((Ke.of_below HST.out.size (below_drew (Below.refl _ _))).trans HK2.out)⟩
      rw [HEV.out, HZ.out.1, HZ.out.2.1, HZ.out.2.2]
      have h9 := HS2.out
      simpa using h9
  by_cases h6 : kk = 6
  · subst h6
    have HZ := Aside0.mk (show HD = fltP 1 (T.n x) ∧ E = [] ∧ EN = [] by refine ⟨?_, ?_, ?_⟩; (· rw [← HHD.out, hdC, HKK.out]; simp); (· rw [← HE.out, kdC, HKK.out]; simp); (· rw [← HEN.out, enC, HKK.out]; simp))
    go_enter Try.func11, Try.ntmps11
    go_wp2_with (go_at_call 22; go_loud (refine (bits_calls o i s g n0 hg 1 (by omega) (T.n x) W1 xs HST.out (by omega)).mono ?_); rintro e W2 ⟨rfl, hs2, hk2⟩; have HS2 := Aside0.mk hs2; have HK2 := Aside0.mk hk2; clear hs2 hk2)
    go_end0
    refine ⟨rfl, ?_, HK1.out.trans HK2.out⟩
    rw [HEV.out, HZ.out.1, HZ.out.2.1, HZ.out.2.2]
    have h9 := HS2.out
    simpa using h9
  by_cases h7 : kk = 7
  · subst h7
    have HZ := Aside0.mk (show HD = fltP 2 (T.n x) ∧ E = [] ∧ EN = [] by refine ⟨?_, ?_, ?_⟩; (· rw [← HHD.out, hdC, HKK.out]; simp); (· rw [← HE.out, kdC, HKK.out]; simp); (· rw [← HEN.out, enC, HKK.out]; simp))
    go_enter Try.func11, Try.ntmps11
    go_wp2_with (go_at_call 22; go_loud (refine (bits_calls o i s g n0 hg 2 (by omega) (T.n x) W1 xs HST.out (by omega)).mono ?_); rintro e W2 ⟨rfl, hs2, hk2⟩; have HS2 := Aside0.mk hs2; have HK2 := Aside0.mk hk2; clear hs2 hk2)
    go_end0
    refine ⟨rfl, ?_, HK1.out.trans HK2.out⟩
    rw [HEV.out, HZ.out.1, HZ.out.2.1, HZ.out.2.2]
    have h9 := HS2.out
    simpa using h9
  by_cases h8 : kk = 8
  · subst h8
    have HZ := Aside0.mk (show HD = fltP 3 (T.n x) ∧ E = [] ∧ EN = [] by refine ⟨?_, ?_, ?_⟩; (· rw [← HHD.out, hdC, HKK.out]; simp); (· rw [← HE.out, kdC, HKK.out]; simp); (· rw [← HEN.out, enC, HKK.out]; simp))
    go_enter Try.func11, Try.ntmps11
    go_wp2_with (go_at_call 22; go_loud (refine (bits_calls o i s g n0 hg 3 (by omega) (T.n x) W1 xs HST.out (by omega)).mono ?_); rintro e W2 ⟨rfl, hs2, hk2⟩; have HS2 := Aside0.mk hs2; have HK2 := Aside0.mk hk2; clear hs2 hk2)
    go_end0
    refine ⟨rfl, ?_, HK1.out.trans HK2.out⟩
    rw [HEV.out, HZ.out.1, HZ.out.2.1, HZ.out.2.2]
    have h9 := HS2.out
    simpa using h9
  by_cases h5 : kk = 5
  · subst h5
    obtain ⟨q, hq⟩ : ∃ q : Int, (if T.neg x = true then 1 else 0) = q := ⟨_, rfl⟩
    have hq0 : 0 ≤ q := by rw [← hq]; split <;> omega
    have hq1 : q ≤ 1 := by rw [← hq]; split <;> omega
    have hu : IntKind.u64.wrap (2 + q) = 2 + q := by simp [IntKind.wrap, IntKind.bits, IntKind.signed]; omega
    have HN := Aside0.mk (fun W => (number_calls (T.neg x) W))
    rw [hq] at HN
    have HZ := Aside0.mk (show HD = headP 6 (2 + q) ++ txtP o 2 (T.s x) ∧ E = [] ∧ EN = [] by refine ⟨?_, ?_, ?_⟩; (· rw [← HHD.out, hdC, HKK.out, hq]; simp); (· rw [← HE.out, kdC, HKK.out]; simp); (· rw [← HEN.out, enC, HKK.out]; simp))
    have HTL := Aside0.mk (show (T.s x).size ≤ (txtP o 2 (T.s x)).length by simp only [txtP, List.length_append, bytesOf_length]; omega)
    have HXQ := Aside0.mk (show (xs ++ headP 6 (2 + q)).length + (T.s x).size ≤ 1099511627700 by have h := HXL.out; have h2 := HTL.out; rw [HZ.out.1] at h; simp only [List.length_append] at h ⊢; omega)
    clear hq
    go_enter Try.func11, Try.ntmps11
    go_wp2_with (first
      | (go_at_call 21; refine (HN.out W1).mono ?_; rintro e w' ⟨rfl, rfl⟩)
      | (go_at_call 20; (try rw [hu]); go_loud (refine (head_calls o i s g n0 hg 6 (2 + q) (by omega) (by omega) (by omega) (by omega) W1 xs HST.out (by omega)).mono ?_); rintro e W3 ⟨rfl, hs3, hk3⟩; have hx3 : W3.cell? ⟨W.heap.size, 3, none⟩ = some (.string (T.s x)) := (cells5 (hk3.cells _ _ _ _ (by decide) (by decide) HX.out)).2.2.2.1; have HS3 := Aside0.mk hs3; have HK3 := Aside0.mk hk3; clear hs3 hk3)
      | (go_at_call 23; go_loud (refine (text_calls o i s g n0 hg 2 (by omega) (by omega) (T.s x) W3 _ HS3.out HXQ.out).mono ?_); rintro e W2 ⟨rfl, hs2, hk2⟩; have HS2 := Aside0.mk hs2; have HK2 := Aside0.mk hk2; clear hs2 hk2))
    go_end0
    refine ⟨rfl, ?_, HK1.out.trans (HK3.out.trans HK2.out)⟩
    rw [HEV.out, HZ.out.1, HZ.out.2.1, HZ.out.2.2]
    have h9 := HS2.out
    simpa using h9
  by_cases h9 : kk = 9
  · subst h9
    have HTL := Aside0.mk (show (T.s x).size ≤ HD.length by rw [← HHD.out, hdC, HKK.out]; simp [txtP, bytesOf_length]; omega)
    have HZ := Aside0.mk (show HD = txtP o 2 (T.s x) ∧ E = [] ∧ EN = [] by refine ⟨?_, ?_, ?_⟩; (· rw [← HHD.out, hdC, HKK.out]; simp); (· rw [← HE.out, kdC, HKK.out]; simp); (· rw [← HEN.out, enC, HKK.out]; simp))
    go_enter Try.func11, Try.ntmps11
    go_wp2_with (go_at_call 23; go_loud (refine (text_calls o i s g n0 hg 2 (by omega) (by omega) (T.s x) W1 xs HST.out (by have h := HXL.out; have h2 := HTL.out; omega)).mono ?_); rintro e W2 ⟨rfl, hs2, hk2⟩; have HS2 := Aside0.mk hs2; have HK2 := Aside0.mk hk2; clear hs2 hk2)
    go_end0
    refine ⟨rfl, ?_, HK1.out.trans HK2.out⟩
    rw [HEV.out, HZ.out.1, HZ.out.2.1, HZ.out.2.2]
    have h9 := HS2.out
    simpa using h9
  by_cases h10 : kk = 10
  · subst h10
    have HTL := Aside0.mk (show (T.s x).size ≤ HD.length by rw [← HHD.out, hdC, HKK.out]; simp [txtP, bytesOf_length]; omega)
    have HZ := Aside0.mk (show HD = txtP o 3 (T.s x) ∧ E = [] ∧ EN = [] by refine ⟨?_, ?_, ?_⟩; (· rw [← HHD.out, hdC, HKK.out]; simp); (· rw [← HE.out, kdC, HKK.out]; simp); (· rw [← HEN.out, enC, HKK.out]; simp))
    go_enter Try.func11, Try.ntmps11
    go_wp2_with (go_at_call 23; go_loud (refine (text_calls o i s g n0 hg 3 (by omega) (by omega) (T.s x) W1 xs HST.out (by have h := HXL.out; have h2 := HTL.out; omega)).mono ?_); rintro e W2 ⟨rfl, hs2, hk2⟩; have HS2 := Aside0.mk hs2; have HK2 := Aside0.mk hk2; clear hs2 hk2)
    go_end0
    refine ⟨rfl, ?_, HK1.out.trans HK2.out⟩
    rw [HEV.out, HZ.out.1, HZ.out.2.1, HZ.out.2.2]
    have h9 := HS2.out
    simpa using h9
  by_cases h13 : kk = 13
  · subst h13
    have hlt : 0 < (T.kids x).length := H13.out HKK.out
    have hd0 : decide ((0 : Nat) < (T.kids x).length) = true := decide_eq_true hlt
    obtain ⟨y, hy⟩ : ∃ y, (T.kids x).getD 0 T.z = y := ⟨_, rfl⟩
    have htk : (T.kids x).take 1 = [y] := by rw [← hy]; cases hl : T.kids x with | nil => rw [hl] at hlt; simp at hlt | cons a l => rfl
    have HZ := Aside0.mk (show HD = headP 6 (T.n x) ∧ E = itmC T o m y ∧ EN = [] by refine ⟨?_, ?_, ?_⟩; (· rw [← HHD.out, hdC, HKK.out]; simp); (· rw [← HE.out, kdC, HKK.out, if_neg (by omega), if_pos rfl, htk]; simp); (· rw [← HEN.out, enC, HKK.out]; simp))
    have hmem : y ∈ T.kids x := by rw [← hy, List.getD_eq_getElem?_getD, List.getElem?_eq_getElem hlt]; exact List.getElem_mem hlt
    have HSZ : Aside0 (T.sz y < m) := ⟨by have := T.lt x y hmem; omega⟩
    have HOY := Aside0.mk (HKD.out y hmem)
    have HLN : Aside0 ((xs ++ headP 6 (T.n x)).length + (itmC T o m y).length ≤ 1099511627600) := ⟨by have h := HXL.out; rw [HZ.out.1, HZ.out.2.1] at h; simp only [List.length_append] at h ⊢; omega⟩
    obtain ⟨ad, A5, c5, e5, hx0, hx1, hx2, hx3, hx4, hKy⟩ := T.at_ HG4.out (0 : Int) (by omega) (by omega)
    cases e5
    simp only [Int.toNat_zero, Nat.zero_mul] at hx0 hx1 hx2 hx3 hx4 hKy
    rw [hy] at hx0 hx1 hx2 hx3 hx4 hKy
    rw [show ad.add 0 = ad from rfl] at hx0 hx1 hx2 hx3 hx4
    have HKY := Aside0.mk hKy
    have HC := Aside0.mk (And.intro hx0 (And.intro hx1 (And.intro hx2 (And.intro hx3 hx4))))
    clear hx0 hx1 hx2 hx3 hx4 hKy hmem htk hy
    go_enter Try.func11, Try.ntmps11
    go_wp2_with (first
      | (go_at_call 20; go_loud (refine (head_calls o i s g n0 hg 6 (T.n x) (by omega) (by omega) hn0 hn1 W1 xs HST.out (by omega)).mono ?_); rintro e W3 ⟨rfl, hs3, hk3⟩; have hx4 : W3.cell? ⟨W.heap.size, 4, none⟩ = some (.slice (some ad) (T.kids x).length c4) := (cells5 (hk3.cells _ _ _ _ (by decide) (by decide) HX.out)).2.2.2.2; have HB3 := Aside0.mk (HB.out.trans (hk3.below.mono hw0)); obtain ⟨hx0, hx1, hx2, hx3, hx5⟩ := HC.out; replace hx0 := (HB3.out.cell (World.block_lt_of_cell? w0 _ hx0)).trans hx0; replace hx1 := (HB3.out.cell (World.block_lt_of_cell? w0 _ hx1)).trans hx1; replace hx2 := (HB3.out.cell (World.block_lt_of_cell? w0 _ hx2)).trans hx2; replace hx3 := (HB3.out.cell (World.block_lt_of_cell? w0 _ hx3)).trans hx3; replace hx5 := (HB3.out.cell (World.block_lt_of_cell? w0 _ hx5)).trans hx5; have HS3 := Aside0.mk hs3; have HK3 := Aside0.mk hk3; clear hs3 hk3)
      | (go_at_call 11; go_loud (refine (HIH.out y _ W3 _ HSZ.out HOY.out HLN.out HKY.out HB3.out HS3.out).mono ?_); rintro e W2 ⟨rfl, hs2, hk2⟩; have HS2 := Aside0.mk hs2; have HK2 := Aside0.mk hk2; clear hs2 hk2))
    go_end0
    refine ⟨rfl, ?_, HK1.out.trans (HK3.out.trans HK2.out)⟩
    rw [HEV.out, HZ.out.1, HZ.out.2.1, HZ.out.2.2]
    have h9 := HS2.out
    simpa using h9
  by_cases h11 : kk = 11
  · subst h11
    have HZ := Aside0.mk (show HD = begP o 4 ((T.kids x).length : Int) ∧ ((T.kids x).map (itmC T o m)).flatten = E ∧ EN = (if o = true then [255] else []) by refine ⟨?_, ?_, ?_⟩; (· rw [← HHD.out, hdC, HKK.out]; simp); (· rw [← HE.out, kdC, HKK.out]; simp); (· rw [← HEN.out, enC, HKK.out]; simp))
    have HXL2 : Aside0 (xs.length + (begP o 4 ((T.kids x).length : Int)).length + E.length ≤ 1099511627600) := ⟨by have h := HXL.out; rw [HZ.out.1] at h; omega⟩
    have hx4w := b4
    go_enter Try.func11, Try.ntmps11
    go_wp2_with (go_at_call 24; go_loud (refine (begin_calls o i s g n0 hg 4 ((T.kids x).length : Int) (by omega) (by omega) (by omega) (by omega) W1 xs HST.out (by omega)).mono ?_); rintro e W3 ⟨rfl, hs3, hk3⟩; have hx3 : W3.cell? ⟨W.heap.size, 4, none⟩ = some (.slice A4 (T.kids x).length c4) := (cells5 (hk3.cells _ _ _ _ (by decide) (by decide) HX.out)).2.2.2.2; have HS3 := Aside0.mk hs3; have HK3 := Aside0.mk hk3; clear hs3 hk3)
    clear hW1 b0 b1 b2 b3 b4 hx4w
    go_loopw [102] (fun v wr => ∃ j : Nat, v = .int .i64 (j : Int) ∧ j ≤ (T.kids x).length ∧ Aside0 (St o i s g n0 wr (xs ++ begP o 4 ((T.kids x).length : Int) ++ (((T.kids x).take j).map (itmC T o m)).flatten)) ∧ Aside0 (Ke n0 W1 wr)) (fun v _ => (T.kids x).length - (intOf v).toNat)
    case atStart => exact ⟨0, rfl, Nat.zero_le _, by simpa using HS3, HK3⟩
    case round =>
      obtain ⟨j, rfl, hj, HS, HKE⟩ := hrel
      clear HS3 HK3 hx3
      by_cases hlt : j < (T.kids x).length
      · have hmem : (T.kids x).getD j T.z ∈ T.kids x := by rw [List.getD_eq_getElem?_getD, List.getElem?_eq_getElem hlt]; exact List.getElem_mem hlt
        have hb3 : Below w0.heap.size w0 wr := HB.out.trans (HKE.out.below.mono hw0)
        obtain ⟨ad, A5, c5, e5, hx0, hx1, hx2, hx3, hx4, hKy⟩ := T.at_ HG4.out (j : Int) (by omega) (by omega)
        cases e5
        replace hx0 := (hb3.cell (World.block_lt_of_cell? w0 _ hx0)).trans hx0
        replace hx1 := (hb3.cell (World.block_lt_of_cell? w0 _ hx1)).trans hx1
        replace hx2 := (hb3.cell (World.block_lt_of_cell? w0 _ hx2)).trans hx2
        replace hx3 := (hb3.cell (World.block_lt_of_cell? w0 _ hx3)).trans hx3
        replace hx4 := (hb3.cell (World.block_lt_of_cell? w0 _ hx4)).trans hx4
        simp only [Int.toNat_natCast, Int.toNat_zero, Nat.zero_mul] at hx0 hx1 hx2 hx3 hx4 hKy
        have hsn := flat_snoc (itmC T o m) T.z (T.kids x) j hlt
        have hle := flat_le (itmC T o m) (T.kids x) (j + 1)
        obtain ⟨y, hy⟩ : ∃ y, (T.kids x).getD j T.z = y := ⟨_, rfl⟩
        rw [hy] at hx0 hx1 hx2 hx3 hx4 hKy hmem hsn
        rw [hsn, HZ.out.2.1, List.length_append] at hle
        have HSZ : Aside0 (T.sz y < m) := ⟨by have := T.lt x y hmem; omega⟩
        have HOY := Aside0.mk (HKD.out y hmem)
        have HLN : Aside0 ((xs ++ begP o 4 ((T.kids x).length : Int) ++ (((T.kids x).take j).map (itmC T o m)).flatten).length + (itmC T o m y).length ≤ 1099511627600) := ⟨by
          have h := HXL2.out
          simp only [List.length_append] at h ⊢
          omega⟩
        have HKY := Aside0.mk hKy
        have HSN := Aside0.mk hsn
        obtain ⟨W4, hW4⟩ : ∃ W4, wr.alloc (.cells #[.int .i64 (T.k y), .bool (T.neg y), .int .u64 (T.n y), .string (T.s y), .slice A5 (T.kids y).length c5] 25 (0, 0)) = W4 := ⟨_, rfl⟩
        have hb4 : Below wr.heap.size wr W4 := by rw [← hW4]; exact below_alloc (Below.refl _ _) _
        have hbx4 : W4.heap[wr.heap.size]? = some (.cells #[.int .i64 (T.k y), .bool (T.neg y), .int .u64 (T.n y), .string (T.s y), .slice A5 (T.kids y).length c5] 25 (0, 0)) := by rw [← hW4]; exact World.alloc_heap_new wr _
        obtain ⟨d0, d1, d2, d3, d4⟩ := cells5 hbx4
        have HK4 := Aside0.mk (Ke.of_below HS.out.size hb4)
        have HST4 : Aside0 (St o i s g n0 W4 (xs ++ begP o 4 ((T.kids x).length : Int) ++ (((T.kids x).take j).map (itmC T o m)).flatten)) := ⟨St.below o i s HS.out hb4⟩
        have HB4 := Aside0.mk (hb3.trans (hb4.mono hb3.size))
        have HLT := Aside0.mk hlt
        have hmax : (T.kids x).length ≤ 9223372036854775807 := HG4.out.2.1
        clear hb4 hbx4 hKy hsn hle hmem hb3
        go_wp2_with (go_at_call 11; refine (HIH.out y _ W4 _ HSZ.out HOY.out HLN.out HKY.out HB4.out HST4.out).mono ?_; rintro e W6 ⟨rfl, hs6, hk6⟩; have HS6 := Aside0.mk hs6; have HK6 := Aside0.mk hk6; clear hs6 hk6)
        go_roundw
        case rel => exact ⟨j + 1, by go_num, HLT.out, ⟨by rw [HSN.out]; have h9 := HS6.out; simpa using h9⟩, ⟨HKE.out.trans (HK4.out.trans HK6.out)⟩⟩
        case measure => have hlt_ := HLT.out; simp [intOf]; omega
      · obtain rfl : j = (T.kids x).length := by omega
        rw [List.take_length, HZ.out.2.1] at HS
        go_wp2_with (go_at_call 25; go_loud (refine (end_calls o i s g n0 hg wr _ HS.out (by have h := HXL2.out; simp only [List.length_append] at h ⊢; omega)).mono ?_); rintro e W2 ⟨rfl, hs2, hk2⟩; have HS2 := Aside0.mk hs2; have HK2 := Aside0.mk hk2; clear hs2 hk2)
        go_end0
        refine ⟨rfl, ?_, HK1.out.trans (HKE.out.trans HK2.out)⟩
        rw [HEV.out, HZ.out.1, HZ.out.2.2]
        have h9 := HS2.out
        simpa using h9
  by_cases h12 : kk = 12
  · subst h12
    have HZ := Aside0.mk (show HD = begP o 5 (((T.kids x).length : Int) / 2) ∧ ((T.kids x).map (itmC T o m)).flatten = E ∧ EN = (if o = true then [255] else []) by refine ⟨?_, ?_, ?_⟩; (· rw [← HHD.out, hdC, HKK.out]; simp); (· rw [← HE.out, kdC, HKK.out]; simp); (· rw [← HEN.out, enC, HKK.out]; simp))
    have HXL2 : Aside0 (xs.length + (begP o 5 (((T.kids x).length : Int) / 2)).length + E.length ≤ 1099511627600) := ⟨by have h := HXL.out; rw [HZ.out.1] at h; omega⟩
    have hx4w := b4
    go_enter Try.func11, Try.ntmps11
    go_wp2_with (go_at_call 24; go_loud (refine (begin_calls o i s g n0 hg 5 (((T.kids x).length : Int) / 2) (by omega) (by omega) (by omega) (by omega) W1 xs HST.out (by omega)).mono ?_); rintro e W3 ⟨rfl, hs3, hk3⟩; have hx3 : W3.cell? ⟨W.heap.size, 4, none⟩ = some (.slice A4 (T.kids x).length c4) := (cells5 (hk3.cells _ _ _ _ (by decide) (by decide) HX.out)).2.2.2.2; have HS3 := Aside0.mk hs3; have HK3 := Aside0.mk hk3; clear hs3 hk3)
    clear hW1 b0 b1 b2 b3 b4 hx4w
    go_loopw [102] (fun v wr => ∃ j : Nat, v = .int .i64 (j : Int) ∧ j ≤ (T.kids x).length ∧ Aside0 (St o i s g n0 wr (xs ++ begP o 5 (((T.kids x).length : Int) / 2) ++ (((T.kids x).take j).map (itmC T o m)).flatten)) ∧ Aside0 (Ke n0 W1 wr)) (fun v _ => (T.kids x).length - (intOf v).toNat)
    case atStart => exact ⟨0, rfl, Nat.zero_le _, by simpa using HS3, HK3⟩
    case round =>
      obtain ⟨j, rfl, hj, HS, HKE⟩ := hrel
      clear HS3 HK3 hx3
      by_cases hlt : j < (T.kids x).length
      · have hmem : (T.kids x).getD j T.z ∈ T.kids x := by rw [List.getD_eq_getElem?_getD, List.getElem?_eq_getElem hlt]; exact List.getElem_mem hlt
        have hb3 : Below w0.heap.size w0 wr := HB.out.trans (HKE.out.below.mono hw0)
        obtain ⟨ad, A5, c5, e5, hx0, hx1, hx2, hx3, hx4, hKy⟩ := T.at_ HG4.out (j : Int) (by omega) (by omega)
        cases e5
        replace hx0 := (hb3.cell (World.block_lt_of_cell? w0 _ hx0)).trans hx0
        replace hx1 := (hb3.cell (World.block_lt_of_cell? w0 _ hx1)).trans hx1
        replace hx2 := (hb3.cell (World.block_lt_of_cell? w0 _ hx2)).trans hx2
        replace hx3 := (hb3.cell (World.block_lt_of_cell? w0 _ hx3)).trans hx3
        replace hx4 := (hb3.cell (World.block_lt_of_cell? w0 _ hx4)).trans hx4
        simp only [Int.toNat_natCast, Int.toNat_zero, Nat.zero_mul] at hx0 hx1 hx2 hx3 hx4 hKy
        have hsn := flat_snoc (itmC T o m) T.z (T.kids x) j hlt
        have hle := flat_le (itmC T o m) (T.kids x) (j + 1)
        obtain ⟨y, hy⟩ : ∃ y, (T.kids x).getD j T.z = y := ⟨_, rfl⟩
        rw [hy] at hx0 hx1 hx2 hx3 hx4 hKy hmem hsn
        rw [hsn, HZ.out.2.1, List.length_append] at hle
        have HSZ : Aside0 (T.sz y < m) := ⟨by have := T.lt x y hmem; omega⟩
        have HOY := Aside0.mk (HKD.out y hmem)
        have HLN : Aside0 ((xs ++ begP o 5 (((T.kids x).length : Int) / 2) ++ (((T.kids x).take j).map (itmC T o m)).flatten).length + (itmC T o m y).length ≤ 1099511627600) := ⟨by
          have h := HXL2.out
          simp only [List.length_append] at h ⊢
          omega⟩
        have HKY := Aside0.mk hKy
        have HSN := Aside0.mk hsn
        obtain ⟨W4, hW4⟩ : ∃ W4, wr.alloc (.cells #[.int .i64 (T.k y), .bool (T.neg y), .int .u64 (T.n y), .string (T.s y), .slice A5 (T.kids y).length c5] 25 (0, 0)) = W4 := ⟨_, rfl⟩
        have hb4 : Below wr.heap.size wr W4 := by rw [← hW4]; exact below_alloc (Below.refl _ _) _
        have hbx4 : W4.heap[wr.heap.size]? = some (.cells #[.int .i64 (T.k y), .bool (T.neg y), .int .u64 (T.n y), .string (T.s y), .slice A5 (T.kids y).length c5] 25 (0, 0)) := by rw [← hW4]; exact World.alloc_heap_new wr _
        obtain ⟨d0, d1, d2, d3, d4⟩ := cells5 hbx4
        have HK4 := Aside0.mk (Ke.of_below HS.out.size hb4)
        have HST4 : Aside0 (St o i s g n0 W4 (xs ++ begP o 5 (((T.kids x).length : Int) / 2) ++ (((T.kids x).take j).map (itmC T o m)).flatten)) := ⟨St.below o i s HS.out hb4⟩
        have HB4 := Aside0.mk (hb3.trans (hb4.mono hb3.size))
        have HLT := Aside0.mk hlt
        have hmax : (T.kids x).length ≤ 9223372036854775807 := HG4.out.2.1
        clear hb4 hbx4 hKy hsn hle hmem hb3
        go_wp2_with (go_at_call 11; refine (HIH.out y _ W4 _ HSZ.out HOY.out HLN.out HKY.out HB4.out HST4.out).mono ?_; rintro e W6 ⟨rfl, hs6, hk6⟩; have HS6 := Aside0.mk hs6; have HK6 := Aside0.mk hk6; clear hs6 hk6)
        go_roundw
        case rel => exact ⟨j + 1, by go_num, HLT.out, ⟨by rw [HSN.out]; have h9 := HS6.out; simpa using h9⟩, ⟨HKE.out.trans (HK4.out.trans HK6.out)⟩⟩
        case measure => have hlt_ := HLT.out; simp [intOf]; omega
      · obtain rfl : j = (T.kids x).length := by omega
        rw [List.take_length, HZ.out.2.1] at HS
        go_wp2_with (go_at_call 25; go_loud (refine (end_calls o i s g n0 hg wr _ HS.out (by have h := HXL2.out; simp only [List.length_append] at h ⊢; omega)).mono ?_); rintro e W2 ⟨rfl, hs2, hk2⟩; have HS2 := Aside0.mk hs2; have HK2 := Aside0.mk hk2; clear hs2 hk2)
        go_end0
        refine ⟨rfl, ?_, HK1.out.trans (HKE.out.trans HK2.out)⟩
        rw [HEV.out, HZ.out.1, HZ.out.2.2]
        have h9 := HS2.out
        simpa using h9
  have hq0 : (kk == 0) = false := beq_eq_false_iff_ne.mpr h0
  have hq2 : (kk == 2) = false := beq_eq_false_iff_ne.mpr h2
  have hq1 : (kk == 1) = false := beq_eq_false_iff_ne.mpr h1
  have hq3 : (kk == 3) = false := beq_eq_false_iff_ne.mpr h3
  have hq4 : (kk == 4) = false := beq_eq_false_iff_ne.mpr h4
  have hq6 : (kk == 6) = false := beq_eq_false_iff_ne.mpr h6
  have hq7 : (kk == 7) = false := beq_eq_false_iff_ne.mpr h7
  have hq8 : (kk == 8) = false := beq_eq_false_iff_ne.mpr h8
  have hq5 : (kk == 5) = false := beq_eq_false_iff_ne.mpr h5
  have hq9 : (kk == 9) = false := beq_eq_false_iff_ne.mpr h9
  have hq10 : (kk == 10) = false := beq_eq_false_iff_ne.mpr h10
  have hq13 : (kk == 13) = false := beq_eq_false_iff_ne.mpr h13
  have hq11 : (kk == 11) = false := beq_eq_false_iff_ne.mpr h11
  have hq12 : (kk == 12) = false := beq_eq_false_iff_ne.mpr h12
  have HZ := Aside0.mk (show HD = [] ∧ E = [] ∧ EN = [] by refine ⟨?_, ?_, ?_⟩; (· rw [← HHD.out, hdC, HKK.out]; simp [*]); (· rw [← HE.out, kdC, HKK.out]; simp [*]); (· rw [← HEN.out, enC, HKK.out]; simp [*]))
  go_enter Try.func11, Try.ntmps11
  go_wp2
  go_end0
  refine ⟨rfl, ?_, HK1.out⟩
  rw [HEV.out, HZ.out.1, HZ.out.2.1, HZ.out.2.2]
  simpa using HST.out
end
end Go.Proofs.Ytlbdjjiblhdpmaa.Cw
