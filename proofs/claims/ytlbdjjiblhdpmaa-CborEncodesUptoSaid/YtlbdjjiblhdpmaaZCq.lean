-- Out of texts of this seat by a program of this session: what the claim does not reach is struck
import Derived.Test.YtlbdjjiblhdpmaaZCr
namespace Go.Proofs.Ytlbdjjiblhdpmaa.Cw
open Go Go.RowKit Go.Shelf Go.Proofs.Ytlbdjjiblhdpmaa.Each Go.Proofs.YtlbdjjiblhdpmaaW.PrintWords Go.Proofs.YtlbdjjiblhdpmaaW.PrintLast
set_option linter.unusedVariables false
set_option linter.unusedSimpArgs false
theorem major_calls (b : Bool) (w : World) : Calls Try.prog 30 #[.bool b] w fun e w' => e = .returned (.int .i64 (if b = true then 1 else 0)) ∧ w = w' := by
  cases b
  all_goals
    go_enter Try.func30, Try.ntmps30
    go_wp2
    go_ret
    exact ⟨rfl, rfl⟩
def two (a b : Option (List Int)) : Option (List Int) := a.bind fun x => b.bind fun y => if (x ++ y).length ≤ 1099511627776 then some (x ++ y) else none
theorem two_some {a b : Option (List Int)} {r : List Int} (h : two a b = some r) : ∃ x y, a = some x ∧ b = some y ∧ (x ++ y).length ≤ 1099511627776 ∧ x ++ y = r := by
  obtain ⟨x, hx, h⟩ := Option.bind_eq_some_iff.mp h
  obtain ⟨y, hy, h⟩ := Option.bind_eq_some_iff.mp h
  by_cases hl : (x ++ y).length ≤ 1099511627776
  · rw [if_pos hl] at h; exact ⟨x, y, hx, hy, hl, Option.some.inj h⟩
  · rw [if_neg hl] at h; cases h
theorem two_mono {a a' b b' : Option (List Int)} (h : LeO a a') (k : LeO b b') : LeO (two a b) (two a' b') := LeO.bind h fun _ => LeO.bind k fun _ => LeO.refl _
section
variable {S : Type} (T : Tree S) (o : Bool) (i : Int) (s : Bool)
def ritC (put : Int → Int → Option (List Int)) (text : Int → ByteArray → Bool → Option (List Int)) (flt : Int → Int → Int → Option (List Int)) : Nat → S → Option (List Int)
  | 0, _ => none
  | m + 1, x =>
    if T.k x = 0 then some [246] else if T.k x = 1 then some [(244 + T.n x) % 256] else if T.k x = 2 then some [247] else if T.k x = 3 then put 7 (T.n x)
    else if T.k x = 4 then put (if T.neg x = true then 1 else 0) (T.n x) else if T.k x = 5 then two (put 6 (2 + if T.neg x = true then 1 else 0)) (text 2 (T.s x) o)
    else if T.k x = 6 then flt 249 (T.n x) 2 else if T.k x = 7 then flt 250 (T.n x) 4 else if T.k x = 8 then flt 251 (T.n x) 8 else if T.k x = 9 then text 2 (T.s x) o else if T.k x = 10 then text 3 (T.s x) o
    else if T.k x = 11 then rmany T o (ritC put text flt m) put 4 x else if T.k x = 12 then rmany T o (ritC put text flt m) put 5 x
    else if 0 < (T.kids x).length then two (put 6 (T.n x)) (ritC put text flt m ((T.kids x).getD 0 T.z)) else none
theorem ritC_mono (put put' : Int → Int → Option (List Int)) (text text' : Int → ByteArray → Bool → Option (List Int)) (flt flt' : Int → Int → Int → Option (List Int))
    (h1 : ∀ a b, LeO (put a b) (put' a b)) (h2 : ∀ a b c, LeO (text a b c) (text' a b c)) (h3 : ∀ a b c, LeO (flt a b c) (flt' a b c)) : ∀ m x, LeO (ritC T o put text flt m x) (ritC T o put' text' flt' m x)
  | 0, _ => LeO.refl _
  | m + 1, x => by
    have ih := ritC_mono put put' text text' flt flt' h1 h2 h3 m
    have hm : ∀ M, LeO (rmany T o (ritC T o put text flt m) put M x) (rmany T o (ritC T o put' text' flt' m) put' M x) := fun M => LeO.bind (h1 _ _) fun _ => LeO.ite (LeO.bind (rkids_mono _ _ ih _ _) fun _ => LeO.refl _) (LeO.refl _)
    simp only [ritC]
    refine LeO.ite (LeO.refl _) (LeO.ite (LeO.refl _) (LeO.ite (LeO.refl _) (LeO.ite (h1 _ _) (LeO.ite (h1 _ _) (LeO.ite (two_mono (h1 _ _) (h2 _ _ _)) (LeO.ite (h3 _ _ _) (LeO.ite (h3 _ _ _) (LeO.ite (h3 _ _ _) (LeO.ite (h2 _ _ _) (LeO.ite (h2 _ _ _) (LeO.ite (hm _) (LeO.ite (hm _) (LeO.ite (two_mono (h1 _ _) (ih _)) (LeO.refl _))))))))))))))
set_option maxRecDepth 100000 in
set_option maxHeartbeats 32000000 in
theorem ritem_calls (put : Int → Int → Option (List Int)) (text : Int → ByteArray → Bool → Option (List Int)) (flt : Int → Int → Int → Option (List Int))
    (hput : ∀ M n r W, put M n = some r → Calls Try.prog 29 #[.int .i64 M, .int .u64 n] W fun e W' => ∃ v, e = .returned v ∧ BR W' W.heap.size v r ∧ Below W.heap.size W W')
    (htext : ∀ M t b r W, text M t b = some r → Calls Try.prog 31 #[.int .i64 M, .string t, .bool b] W fun e W' => ∃ v, e = .returned v ∧ BR W' W.heap.size v r ∧ Below W.heap.size W W')
    (hflt : ∀ f n z r W, flt f n z = some r → Calls Try.prog 32 #[.int .u8 f, .int .u64 n, .int .i64 z] W fun e W' => ∃ v, e = .returned v ∧ BR W' W.heap.size v r ∧ Below W.heap.size W W') :
    ∀ (m : Nat) (x : S) (cs : List Value) (w : World) (r : List Int), T.sz x < m → T.D.K w x cs → ritC T o put text flt m x = some r →
    Calls Try.prog 14 #[.agg cs.toArray, .agg #[.bool o, .int .i64 i, .bool s]] w fun e w' => ∃ v, e = .returned v ∧ BR w' w.heap.size v r ∧ Below w.heap.size w w' := by
  intro m
  induction m with
  | zero => intro x cs w r h; omega
  | succ m ih =>
  intro x cs w r hsz hK h
  have hK' := hK
  obtain ⟨A4, c4, rfl, hc4, g4⟩ := T.openK hK
  have hgl : (T.kids x).length ≤ 9223372036854775807 := g4.2.1
  obtain ⟨W0, hW0⟩ : ∃ W0, w.alloc (.cells #[.int .i64 (T.k x), .bool (T.neg x), .int .u64 (T.n x), .string (T.s x), .slice A4 (T.kids x).length c4] 25 (0, 0)) = W0 := ⟨_, rfl⟩
  have hb0 : Below w.heap.size w W0 := by rw [← hW0]; exact below_alloc (Below.refl _ _) _
  have hx0 : W0.heap[w.heap.size]? = some (.cells #[.int .i64 (T.k x), .bool (T.neg x), .int .u64 (T.n x), .string (T.s x), .slice A4 (T.kids x).length c4] 25 (0, 0)) := by rw [← hW0]; exact World.alloc_heap_new w _
  obtain ⟨W1, hW1⟩ : ∃ W1, W0.alloc (.cells #[.bool o, .int .i64 i, .bool s] 27 (0, 0)) = W1 := ⟨_, rfl⟩
  have hb1 : Below w.heap.size w W1 := by rw [← hW1]; exact below_alloc hb0 _
  have hx1 : W1.heap[w.heap.size]? = some (.cells #[.int .i64 (T.k x), .bool (T.neg x), .int .u64 (T.n x), .string (T.s x), .slice A4 (T.kids x).length c4] 25 (0, 0)) := by rw [← hW1]; exact blk_alloc hx0 _
  have ho1 : W1.heap[W0.heap.size]? = some (.cells #[.bool o, .int .i64 i, .bool s] 27 (0, 0)) := by rw [← hW1]; exact World.alloc_heap_new W0 _
  obtain ⟨b0, b1, b2, b3, b4⟩ := cells5 hx1
  have p0 := (blk_cell ho1 0).trans (rfl : _ = some (Value.bool o))
  have p1 := (blk_cell ho1 1).trans (rfl : _ = some (Value.int .i64 i))
  have p2 := (blk_cell ho1 2).trans (rfl : _ = some (Value.bool s))
  obtain ⟨kk, hkk⟩ : ∃ kk, T.k x = kk := ⟨_, rfl⟩
  have HX := Aside0.mk hx1
  have HO := Aside0.mk ho1
  have HB := Aside0.mk hb1
  have HK := Aside0.mk hK'
  have HG4 := Aside0.mk g4
  have HIH := Aside0.mk ih
  have HPUT := Aside0.mk hput
  have HTEXT := Aside0.mk htext
  have HFLT := Aside0.mk hflt
  have HKK := Aside0.mk hkk
  have HR := Aside0.mk h
  rw [hkk] at b0
  have hk := hkk
  clear hkk hx1 ho1 hb1 hK' hK g4 ih hput htext hflt hx0 hb0
  simp only [ritC, hk] at h
  clear hk
  by_cases h0 : kk = 0
  · subst h0
    rw [if_pos rfl] at h
    obtain rfl := Option.some.inj h
    clear h
    go_enter Try.func14, Try.ntmps14
    go_wp2
    go_ret
    exact ⟨_, rfl, BR.lit HB.out.size _, below_alloc HB.out _⟩
  by_cases h1 : kk = 1
  · subst h1
    simp only [Int.reduceEq, if_true, if_false, reduceIte] at h
    obtain rfl := Option.some.inj h
    clear h
    go_enter Try.func14, Try.ntmps14
    go_wp2
    go_ret
    exact ⟨_, rfl, BR.lit HB.out.size _, below_alloc HB.out _⟩
  by_cases h2 : kk = 2
  · subst h2
    simp only [Int.reduceEq, if_true, if_false, reduceIte] at h
    obtain rfl := Option.some.inj h
    clear h
    go_enter Try.func14, Try.ntmps14
    go_wp2
    go_ret
    exact ⟨_, rfl, BR.lit HB.out.size _, below_alloc HB.out _⟩
  by_cases h3 : kk = 3
  · subst h3
    simp only [Int.reduceEq, if_true, if_false, reduceIte] at h
    have HH := Aside0.mk h
    clear h
    go_enter Try.func14, Try.ntmps14
    go_wp2_with (go_at_call 29; go_loud (with_reducible refine (HPUT.out 7 (T.n x) r W1 HH.out).mono ?_); rintro e W2 ⟨v2, rfl, hr2, hb2⟩; have HR2 := Aside0.mk hr2; have HB2 := Aside0.mk hb2; clear hr2 hb2)
    go_ret
    exact ⟨_, rfl, BR.weaken HR2.out HB.out.size, HB.out.trans (HB2.out.mono HB.out.size)⟩
  by_cases h4 : kk = 4
  · subst h4
    simp only [Int.reduceEq, if_true, if_false, reduceIte] at h
    obtain ⟨q, hq⟩ : ∃ q : Int, (if T.neg x = true then 1 else 0) = q := ⟨_, rfl⟩
    rw [hq] at h
    have HN := Aside0.mk (fun W => (major_calls (T.neg x) W))
    rw [hq] at HN
    have HH := Aside0.mk h
    clear h hq
    go_enter Try.func14, Try.ntmps14
    go_wp2
    go_region_law (first
      | (refine goes_ Try.func30 (by kernel_rfl) rfl #[.bool (T.neg x)] (by rfl) rfl rfl ?ha ?_
         (case ha => simp [Act.eval, Act.put])
         refine (HN.out W1.drew).mono ?_
         rintro e W' ⟨rfl, rfl⟩
         refine ⟨_, rfl, ?_⟩)
      | (refine goes_ Try.func29 (by kernel_rfl) rfl #[.int .i64 q, .int .u64 (T.n x)] (by rfl) rfl rfl ?ha ?_
         (case ha => simp [Act.eval, Act.put])
         refine (HPUT.out q (T.n x) r W1.drew HH.out).mono ?_
         rintro e W2 ⟨v2, rfl, hr2, hb2⟩
         refine ⟨_, rfl, ?_⟩
         have HR2 := Aside0.mk hr2
         have HB2 := Aside0.mk hb2
         clear hr2 hb2))
    all_goals
      go_wp2
      go_ret
      have hd : Below w.heap.size w W1.drew := HB.out.trans ((below_drew (Below.refl _ _)).mono HB.out.size)
      exact ⟨_, rfl, BR.weaken HR2.out hd.size, hd.trans (HB2.out.mono hd.size)⟩
  by_cases h5 : kk = 5
  · subst h5
    simp only [Int.reduceEq, if_true, if_false, reduceIte] at h
    obtain ⟨q, hq⟩ : ∃ q : Int, (if T.neg x = true then 1 else 0) = q := ⟨_, rfl⟩
    rw [hq] at h
    have hq0 : 0 ≤ q := by rw [← hq]; split <;> omega
    have hq1 : q ≤ 1 := by rw [← hq]; split <;> omega
    have hu : IntKind.u64.wrap (2 + q) = 2 + q := by simp [IntKind.wrap, IntKind.bits, IntKind.signed]; omega
    have hi : IntKind.i64.wrap (2 + q) = 2 + q := by rw [i64_w]; unfold wrap64; omega
    have HN := Aside0.mk (fun W => (major_calls (T.neg x) W))
    rw [hq] at HN
    obtain ⟨xa, xb, hxa, hxb, hlb, rfl⟩ := two_some h
    have HA := Aside0.mk hxa
    have HBB := Aside0.mk hxb
    have HLB := Aside0.mk hlb
    clear h hq hxa hxb hlb HR
    have hdr : Below w.heap.size w W1.drew := HB.out.trans ((below_drew (Below.refl _ _)).mono HB.out.size)
    have HD := Aside0.mk hdr
    clear hdr
    have HXD := Aside0.mk (blk_drew HX.out)
    have HOD := Aside0.mk (blk_drew HO.out)
    go_enter Try.func14, Try.ntmps14
    go_wp2
    go_region_law (first
      | (refine goes_ Try.func30 (by kernel_rfl) rfl #[.bool (T.neg x)] (by rfl) rfl rfl ?ha ?_
         (case ha => simp [Act.eval, Act.put])
         refine (HN.out W1.drew).mono ?_
         rintro e W' ⟨rfl, rfl⟩
         refine ⟨_, rfl, ?_⟩)
      | (refine goes_ Try.func29 (by kernel_rfl) rfl #[.int .i64 6, .int .u64 (2 + q)] (by rfl) rfl rfl ?ha ?_
         (case ha => simp [Act.eval, Act.put])
         refine (HPUT.out 6 (2 + q) xa W1.drew HA.out).mono ?_
         rintro e W2 ⟨v2, rfl, hr2, hb2⟩
         refine ⟨_, rfl, ?_⟩
         have HR2 := Aside0.mk (BR.weaken hr2 HD.out.size)
         have HB2 := Aside0.mk (HD.out.trans (hb2.mono HD.out.size))
         have hx3 : W2.cell? ⟨w.heap.size, 3, none⟩ = some (.string (T.s x)) := (cells5 ((hb2.block _ (blk_lt HXD.out)).trans HXD.out)).2.2.2.1
         have hq3 : W2.cell? ⟨W0.heap.size, 0, none⟩ = some (.bool o) := (blk_cell ((hb2.block _ (blk_lt HOD.out)).trans HOD.out) 0).trans rfl
         obtain ⟨A2, n2, c2, rfl⟩ := slice_of hr2
         clear hr2 hb2)
      | (refine goes_ Try.func31 (by kernel_rfl) rfl #[.int .i64 2, .string (T.s x), .bool o] (by rfl) rfl rfl ?ha ?_
         (case ha => simp [Act.eval, Act.put])
         refine (HTEXT.out 2 (T.s x) o xb W2 HBB.out).mono ?_
         rintro e W3 ⟨v3, rfl, hr3, hb3⟩
         refine ⟨_, rfl, ?_⟩
         have HR3 := Aside0.mk hr3
         have HB3 := Aside0.mk hb3
         obtain ⟨A3, n3, c3, rfl⟩ := slice_of hr3
         obtain rfl : n3 = xb.length := (Kd.R_reads' hr3).1
         clear hr3 hb3)
      | (refine Kd.R_append_rows_step (Kd.int .u8) (w0 := w) (W := W3) w.heap.size (by rfl) (.tmp 40) (.tmp 45) 28 5 (.int .u8 0) 1 rfl Try.underlying28 info5 rfl (by decide) (by omega) (.slice A2 n2 c2) xa xb A3 xb.length c3 (fun _ => True) (fun _ => False) (by simp [Act.eval, Act.put]) (by simp [Act.eval, Act.put]) (Kd.R_below HR2.out HB3.out) ?aR (fun _ _ h => h) (fun _ h => h.elim) (fun _ _ => trivial) (HB2.out.trans (HB3.out.mono HB2.out.size)) (Nat.le_trans HB2.out.size HB3.out.size) ?aL ?_
         (case aR => exact (Kd.R_reads' HR3.out).2.2)
         (case aL => have h := HLB.out; simp only [List.length_append] at h; omega)
         intro v7 W7 hR7 hB7 hg7 hat7
         have HR7 := Aside0.mk hR7
         have HB7 := Aside0.mk hB7
         clear hR7 hB7 hg7 hat7))
    all_goals
      go_wp2
      go_ret
      exact ⟨_, rfl, HR7.out, HB7.out⟩
  by_cases h6 : kk = 6
  · subst h6
    simp only [Int.reduceEq, if_true, if_false, reduceIte] at h
    have HH := Aside0.mk h
    clear h
    go_enter Try.func14, Try.ntmps14
    go_wp2_with (go_at_call 32; go_loud (with_reducible refine (HFLT.out 249 (T.n x) 2 r W1 HH.out).mono ?_); rintro e W2 ⟨v2, rfl, hr2, hb2⟩; have HR2 := Aside0.mk hr2; have HB2 := Aside0.mk hb2; clear hr2 hb2)
    go_ret
    exact ⟨_, rfl, BR.weaken HR2.out HB.out.size, HB.out.trans (HB2.out.mono HB.out.size)⟩
  by_cases h7 : kk = 7
  · subst h7
    simp only [Int.reduceEq, if_true, if_false, reduceIte] at h
    have HH := Aside0.mk h
    clear h
    go_enter Try.func14, Try.ntmps14
    go_wp2_with (go_at_call 32; go_loud (with_reducible refine (HFLT.out 250 (T.n x) 4 r W1 HH.out).mono ?_); rintro e W2 ⟨v2, rfl, hr2, hb2⟩; have HR2 := Aside0.mk hr2; have HB2 := Aside0.mk hb2; clear hr2 hb2)
    go_ret
    exact ⟨_, rfl, BR.weaken HR2.out HB.out.size, HB.out.trans (HB2.out.mono HB.out.size)⟩
  by_cases h8 : kk = 8
  · subst h8
    simp only [Int.reduceEq, if_true, if_false, reduceIte] at h
    have HH := Aside0.mk h
    clear h
    go_enter Try.func14, Try.ntmps14
    go_wp2_with (go_at_call 32; go_loud (with_reducible refine (HFLT.out 251 (T.n x) 8 r W1 HH.out).mono ?_); rintro e W2 ⟨v2, rfl, hr2, hb2⟩; have HR2 := Aside0.mk hr2; have HB2 := Aside0.mk hb2; clear hr2 hb2)
    go_ret
    exact ⟨_, rfl, BR.weaken HR2.out HB.out.size, HB.out.trans (HB2.out.mono HB.out.size)⟩
  by_cases h9 : kk = 9
  · subst h9
    simp only [Int.reduceEq, if_true, if_false, reduceIte] at h
    have HH := Aside0.mk h
    clear h
    go_enter Try.func14, Try.ntmps14
    go_wp2_with (go_at_call 31; go_loud (with_reducible refine (HTEXT.out 2 (T.s x) o r W1 HH.out).mono ?_); rintro e W2 ⟨v2, rfl, hr2, hb2⟩; have HR2 := Aside0.mk hr2; have HB2 := Aside0.mk hb2; clear hr2 hb2)
    go_ret
    exact ⟨_, rfl, BR.weaken HR2.out HB.out.size, HB.out.trans (HB2.out.mono HB.out.size)⟩
  by_cases h10 : kk = 10
  · subst h10
    simp only [Int.reduceEq, if_true, if_false, reduceIte] at h
    have HH := Aside0.mk h
    clear h
    go_enter Try.func14, Try.ntmps14
    go_wp2_with (go_at_call 31; go_loud (with_reducible refine (HTEXT.out 3 (T.s x) o r W1 HH.out).mono ?_); rintro e W2 ⟨v2, rfl, hr2, hb2⟩; have HR2 := Aside0.mk hr2; have HB2 := Aside0.mk hb2; clear hr2 hb2)
    go_ret
    exact ⟨_, rfl, BR.weaken HR2.out HB.out.size, HB.out.trans (HB2.out.mono HB.out.size)⟩
  by_cases h11 : kk = 11
  · subst h11
    simp only [Int.reduceEq, if_true, if_false, reduceIte] at h
    have HK9 := HK.out
    rw [HKK.out] at HK9
    replace HK9 := Aside0.mk HK9
    have HM := Aside0.mk (many_calls T o i s (ritC T o put text flt m) put 4 (by omega) x _ W1 (T.D.K_below HB.out HK9.out) r (fun n r W hn => HPUT.out 4 n r W hn) (fun y cs b W hy hKy hb => HIH.out y cs W b (by have := T.lt x y hy; omega) hKy hb) h)
    clear h
    go_enter Try.func14, Try.ntmps14
    go_wp2_with (go_at_call 33; go_loud (refine HM.out.mono ?_); rintro e W2 ⟨v2, rfl, hr2, hb2⟩; have HR2 := Aside0.mk hr2; have HB2 := Aside0.mk hb2; clear hr2 hb2)
    go_ret
    exact ⟨_, rfl, BR.weaken HR2.out HB.out.size, HB.out.trans (HB2.out.mono HB.out.size)⟩
  by_cases h12 : kk = 12
  · subst h12
    simp only [Int.reduceEq, if_true, if_false, reduceIte] at h
    have HK9 := HK.out
    rw [HKK.out] at HK9
    replace HK9 := Aside0.mk HK9
    have HM := Aside0.mk (many_calls T o i s (ritC T o put text flt m) put 5 (by omega) x _ W1 (T.D.K_below HB.out HK9.out) r (fun n r W hn => HPUT.out 5 n r W hn) (fun y cs b W hy hKy hb => HIH.out y cs W b (by have := T.lt x y hy; omega) hKy hb) h)
    clear h
    go_enter Try.func14, Try.ntmps14
    go_wp2_with (go_at_call 33; go_loud (refine HM.out.mono ?_); rintro e W2 ⟨v2, rfl, hr2, hb2⟩; have HR2 := Aside0.mk hr2; have HB2 := Aside0.mk hb2; clear hr2 hb2)
    go_ret
    exact ⟨_, rfl, BR.weaken HR2.out HB.out.size, HB.out.trans (HB2.out.mono HB.out.size)⟩
  have hq0 : (kk == 0) = false := beq_eq_false_iff_ne.mpr h0
  have hq1 : (kk == 1) = false := beq_eq_false_iff_ne.mpr h1
  have hq2 : (kk == 2) = false := beq_eq_false_iff_ne.mpr h2
  have hq3 : (kk == 3) = false := beq_eq_false_iff_ne.mpr h3
  have hq4 : (kk == 4) = false := beq_eq_false_iff_ne.mpr h4
  have hq5 : (kk == 5) = false := beq_eq_false_iff_ne.mpr h5
  have hq6 : (kk == 6) = false := beq_eq_false_iff_ne.mpr h6
  have hq7 : (kk == 7) = false := beq_eq_false_iff_ne.mpr h7
  have hq8 : (kk == 8) = false := beq_eq_false_iff_ne.mpr h8
  have hq9 : (kk == 9) = false := beq_eq_false_iff_ne.mpr h9
  have hq10 : (kk == 10) = false := beq_eq_false_iff_ne.mpr h10
  have hq11 : (kk == 11) = false := beq_eq_false_iff_ne.mpr h11
  have hq12 : (kk == 12) = false := beq_eq_false_iff_ne.mpr h12
  rw [if_neg h0, if_neg h1, if_neg h2, if_neg h3, if_neg h4, if_neg h5, if_neg h6, if_neg h7, if_neg h8, if_neg h9, if_neg h10, if_neg h11, if_neg h12] at h
  by_cases hlt : 0 < (T.kids x).length
  case neg => rw [if_neg hlt] at h; cases h
  rw [if_pos hlt] at h
  obtain ⟨xa, xb, hxa, hxb, hlb, rfl⟩ := two_some h
  have hd0 : decide ((0 : Nat) < (T.kids x).length) = true := decide_eq_true hlt
  obtain ⟨y, hy⟩ : ∃ y, (T.kids x).getD 0 T.z = y := ⟨_, rfl⟩
  rw [hy] at hxb
  have hmem : y ∈ T.kids x := by rw [← hy, List.getD_eq_getElem?_getD, List.getElem?_eq_getElem hlt]; exact List.getElem_mem hlt
  obtain ⟨ad, A5, c5, e5, hx0, hx1, hx2, hx3, hx4, hKy⟩ := T.at_ HG4.out (0 : Int) (by omega) (by omega)
  cases e5
  simp only [Int.toNat_zero, Nat.zero_mul] at hx0 hx1 hx2 hx3 hx4 hKy
  rw [hy] at hx0 hx1 hx2 hx3 hx4 hKy
  rw [show ad.add 0 = ad from rfl] at hx0 hx1 hx2 hx3 hx4
  have hdr : Below w.heap.size w W1.drew := HB.out.trans ((below_drew (Below.refl _ _)).mono HB.out.size)
  replace hx0 := (hdr.cell (World.block_lt_of_cell? w _ hx0)).trans hx0
  replace hx1 := (hdr.cell (World.block_lt_of_cell? w _ hx1)).trans hx1
  replace hx2 := (hdr.cell (World.block_lt_of_cell? w _ hx2)).trans hx2
  replace hx3 := (hdr.cell (World.block_lt_of_cell? w _ hx3)).trans hx3
  replace hx4 := (hdr.cell (World.block_lt_of_cell? w _ hx4)).trans hx4
  have HC := Aside0.mk (And.intro hx0 (And.intro hx1 (And.intro hx2 (And.intro hx3 hx4))))
  have HA := Aside0.mk hxa
  have HBB := Aside0.mk hxb
  have HLB := Aside0.mk hlb
  have HD := Aside0.mk hdr
  have HKY := Aside0.mk hKy
  have HSZ := Aside0.mk (show T.sz y < m by have := T.lt x y hmem; omega)
  have HXD := Aside0.mk (blk_drew HX.out)
  have HOD := Aside0.mk (blk_drew HO.out)
  clear h hxa hxb hlb HR hdr hKy hmem hy
  go_enter Try.func14, Try.ntmps14
  go_wp2
  go_region_law (first
    | (refine goes_ Try.func29 (by kernel_rfl) rfl #[.int .i64 6, .int .u64 (T.n x)] (by rfl) rfl rfl ?ha ?_
       (case ha => simp [Act.eval, Act.put])
       refine (HPUT.out 6 (T.n x) xa W1.drew HA.out).mono ?_
       rintro e W2 ⟨v2, rfl, hr2, hb2⟩
       refine ⟨_, rfl, ?_⟩
       have HR2 := Aside0.mk (BR.weaken hr2 HD.out.size)
       have HB2 := Aside0.mk (HD.out.trans (hb2.mono HD.out.size))
       have hz4 : W2.cell? ⟨w.heap.size, 4, none⟩ = some (.slice (some ad) (T.kids x).length c4) := (cells5 ((hb2.block _ (blk_lt HXD.out)).trans HXD.out)).2.2.2.2
       have hw2 := (hb2.block _ (blk_lt HOD.out)).trans HOD.out
       have hq0_ : W2.cell? ⟨W0.heap.size, 0, none⟩ = some (.bool o) := (blk_cell hw2 0).trans rfl
       have hq1_ : W2.cell? ⟨W0.heap.size, 1, none⟩ = some (.int .i64 i) := (blk_cell hw2 1).trans rfl
       have hq2_ : W2.cell? ⟨W0.heap.size, 2, none⟩ = some (.bool s) := (blk_cell hw2 2).trans rfl
       obtain ⟨k0, k1, k2, k3, k4⟩ := HC.out
       replace k0 := (hb2.cell (World.block_lt_of_cell? W1.drew _ k0)).trans k0
       replace k1 := (hb2.cell (World.block_lt_of_cell? W1.drew _ k1)).trans k1
       replace k2 := (hb2.cell (World.block_lt_of_cell? W1.drew _ k2)).trans k2
       replace k3 := (hb2.cell (World.block_lt_of_cell? W1.drew _ k3)).trans k3
       replace k4 := (hb2.cell (World.block_lt_of_cell? W1.drew _ k4)).trans k4
       have HITY := Aside0.mk (HIH.out y _ W2 xb HSZ.out (T.D.K_below HB2.out HKY.out) HBB.out)
       obtain ⟨A2, n2, c2, rfl⟩ := slice_of hr2
       clear hr2 hb2 hw2)
    | (refine goes_ Try.func14 (by kernel_rfl) rfl #[.agg #[.int .i64 (T.k y), .bool (T.neg y), .int .u64 (T.n y), .string (T.s y), .slice A5 (T.kids y).length c5], .agg #[.bool o, .int .i64 i, .bool s]] (by rfl) rfl rfl ?ha ?_
       (case ha => simp [Act.eval, Act.put])
       refine HITY.out.mono ?_
       rintro e W3 ⟨v3, rfl, hr3, hb3⟩
       refine ⟨_, rfl, ?_⟩
       have HR3 := Aside0.mk hr3
       have HB3 := Aside0.mk hb3
       obtain ⟨A3, n3, c3, rfl⟩ := slice_of hr3
       obtain rfl : n3 = xb.length := (Kd.R_reads' hr3).1
       clear hr3 hb3)
    | (refine Kd.R_append_rows_step (Kd.int .u8) (w0 := w) (W := W3) w.heap.size (by rfl) (.tmp 88) (.tmp 94) 28 5 (.int .u8 0) 1 rfl Try.underlying28 info5 rfl (by decide) (by omega) (.slice A2 n2 c2) xa xb A3 xb.length c3 (fun _ => True) (fun _ => False) (by simp [Act.eval, Act.put]) (by simp [Act.eval, Act.put]) (Kd.R_below HR2.out HB3.out) ?aR (fun _ _ h => h) (fun _ h => h.elim) (fun _ _ => trivial) (HB2.out.trans (HB3.out.mono HB2.out.size)) (Nat.le_trans HB2.out.size HB3.out.size) ?aL ?_
       (case aR => exact (Kd.R_reads' HR3.out).2.2)
       (case aL => have h := HLB.out; simp only [List.length_append] at h; omega)
       intro v7 W7 hR7 hB7 hg7 hat7
       have HR7 := Aside0.mk hR7
       have HB7 := Aside0.mk hB7
       clear hR7 hB7 hg7 hat7))
  all_goals
    go_wp2
    go_ret
    exact ⟨_, rfl, HR7.out, HB7.out⟩
end
end Go.Proofs.Ytlbdjjiblhdpmaa.Cw
