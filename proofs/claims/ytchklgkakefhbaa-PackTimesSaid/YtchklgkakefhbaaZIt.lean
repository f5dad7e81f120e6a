-- Out of texts of this seat by a program of this session: what the claim does not reach is struck
import Derived.Test.YtchklgkakefhbaaZWr
import Derived.Deep.CutBlock
import Derived.Deep.DeepCutAuto
import Derived.Outline
namespace Go.Proofs.Ytchklgkakefhbaa.Wr
open Go Go.RowKit Go.Shelf Go.Proofs.Ytchklgkakefhbaa.Each Go.Proofs.YtchklgkakefhbaaW.PrintWords Go.Proofs.YtchklgkakefhbaaW.PrintLast
set_option linter.unusedVariables false
set_option linter.unusedSimpArgs false
theorem numR_len (b : Bool) (n : Int) : (numR b n).length ≤ 9 := by
  unfold numR
  have h1 := szR_le n
  have h2 := szR_le (n * 2 % 18446744073709551616)
  (repeat' split) <;> simp only [List.length_cons, List.length_nil, outR_len] <;> omega
theorem extR_len (n : Int) : (extR n).length ≤ 9 := by
  unfold extR
  have h1 := szR_le n
  (repeat' split) <;> simp only [List.length_cons, List.length_nil, outR_len] <;> omega
theorem lenR_len (f n : Int) : (lenR f n).length ≤ 9 := by
  unfold lenR
  split <;> simp only [List.length_cons, outR_len] <;> omega
section
variable {S : Type} (T : Tree S)
def hdr (x : S) : List Int :=
  if T.k x = 0 then [192] else if T.k x = 1 then [(194 + T.n x) % 256] else if T.k x = 4 then numR (T.neg x) (T.n x) else if T.k x = 7 then 202 :: outR (T.n x) 4 else if T.k x = 8 then 203 :: outR (T.n x) 8
  else if T.k x = 9 ∨ T.k x = 10 then headR (T.k x) ((T.s x).size : Int) ++ bytesOf (T.s x) else if T.k x = 14 then extR ((T.s x).size : Int) ++ (T.n x % 256 :: bytesOf (T.s x))
  else if T.k x = 12 then (if ((T.kids x).length : Int) / 2 < 16 then [128 + ((T.kids x).length : Int) / 2] else lenR 222 (((T.kids x).length : Int) / 2))
  else if T.k x = 11 then (if ((T.kids x).length : Int) < 16 then [144 + ((T.kids x).length : Int)] else lenR 220 ((T.kids x).length : Int)) else []
def itm : Nat → S → List Int
  | 0, _ => []
  | m + 1, x => hdr T x ++ ((T.kids x).map (itm m)).flatten
theorem or_144 (n : Int) (h0 : 0 ≤ n) (hn : n < 16) : bits BinOp.or IntKind.u8 144 n = 144 + n := by
  obtain ⟨m, rfl⟩ := Int.eq_ofNat_of_zero_le h0
  have hd : ∀ m : Fin 16, bits BinOp.or IntKind.u8 144 ((m.val : Nat) : Int) = 144 + ((m.val : Nat) : Int) := by decide +kernel
  exact hd ⟨m, by omega⟩
theorem or_128 (n : Int) (h0 : 0 ≤ n) (hn : n < 16) : bits BinOp.or IntKind.u8 128 n = 128 + n := by
  obtain ⟨m, rfl⟩ := Int.eq_ofNat_of_zero_le h0
  have hd : ∀ m : Fin 16, bits BinOp.or IntKind.u8 128 ((m.val : Nat) : Int) = 128 + ((m.val : Nat) : Int) := by decide +kernel
  exact hd ⟨m, by omega⟩
theorem flat_snoc {V : Type} (f : S → List V) (z : S) : ∀ (l : List S) (j : Nat), j < l.length → ((l.take (j + 1)).map f).flatten = ((l.take j).map f).flatten ++ f (l.getD j z)
  | [], j, h => by simp at h
  | y :: ys, 0, _ => by simp
  | y :: ys, j + 1, h => by
    simp only [List.take_succ_cons, List.map_cons, List.flatten_cons]
    rw [flat_snoc f z ys j (by simpa using h)]
    simp
theorem flat_le {V : Type} (f : S → List V) (l : List S) (j : Nat) : ((l.take j).map f).flatten.length ≤ (l.map f).flatten.length := by
  have h : (l.map f).flatten = ((l.take j).map f).flatten ++ ((l.drop j).map f).flatten := by
    rw [← List.flatten_append, ← List.map_append, List.take_append_drop]
  rw [h, List.length_append]; omega
set_option maxRecDepth 100000 in
set_option maxHeartbeats 16000000 in
theorem item_calls (g n0 : Nat) (hg : n0 ≤ g) (w0 : World) (hw0 : w0.heap.size ≤ n0) (ok : S → Prop) (hok : ∀ x, ok x → (0 ≤ T.n x ∧ T.n x ≤ 18446744073709551615 ∧ (T.s x).size ≤ 1099511627776) ∧ ∀ y ∈ T.kids x, ok y) :
    ∀ (m : Nat) (x : S) (cs : List Value) (W : World) (xs : List Int), T.sz x < m → ok x → xs.length + (itm T m x).length ≤ 1099511627700 → T.D.K w0 x cs → Below w0.heap.size w0 W → St g n0 W xs →
    Calls Try.prog 16 #[.pointer (some ⟨g, 0, none⟩), .agg cs.toArray] W fun e W' => e = .returned (.tuple #[]) ∧ St g n0 W' (xs ++ itm T m x) ∧ Ke n0 W W' := by
  intro m
  induction m with
  | zero => intro x cs W xs h; omega
  | succ m ih =>
  intro x cs W xs hsz hx hlen hK hb0 hst
  obtain ⟨⟨hn0, hn1, hs1⟩, hkids⟩ := hok x hx
  have hK' := hK
  obtain ⟨A4, c4, rfl, hc4, g4⟩ := T.openK hK
  clear hK
  obtain ⟨E, hE⟩ : ∃ E, ((T.kids x).map (itm T m)).flatten = E := ⟨_, rfl⟩
  obtain ⟨HD, hHD⟩ : ∃ HD, hdr T x = HD := ⟨_, rfl⟩
  have hev : itm T (m + 1) x = HD ++ E := by rw [← hE, ← hHD]; rfl
  obtain ⟨W1, hW1⟩ : ∃ W1, W.alloc (.cells #[.int .i64 (T.k x), .bool (T.neg x), .int .u64 (T.n x), .string (T.s x), .slice A4 (T.kids x).length c4] 25 (0, 0)) = W1 := ⟨_, rfl⟩
  have hb1 : Below W.heap.size W W1 := by rw [← hW1]; exact below_alloc (Below.refl _ _) _
  have hx1 : W1.heap[W.heap.size]? = some (.cells #[.int .i64 (T.k x), .bool (T.neg x), .int .u64 (T.n x), .string (T.s x), .slice A4 (T.kids x).length c4] 25 (0, 0)) := by rw [← hW1]; exact World.alloc_heap_new W _
  have hst1 : St g n0 W1 xs := hst.below hb1
  have hk1 : Ke n0 W W1 := Ke.of_below hst.size hb1
  have hbe1 : Below w0.heap.size w0 W1 := hb0.trans (hk1.below.mono hw0)
  obtain ⟨b0, b1, b2, b3, b4⟩ := cells5 hx1
  obtain ⟨kk, hkk⟩ : ∃ kk, T.k x = kk := ⟨_, rfl⟩
  have hgl : (T.kids x).length ≤ 9223372036854775807 := g4.2.1
  have HX := Aside0.mk hx1
  have HST := Aside0.mk hst1
  have HK1 := Aside0.mk hk1
  have HB := Aside0.mk hbe1
  have HIH := Aside0.mk ih
  have HLEN := Aside0.mk hlen
  have HE := Aside0.mk hE
  have HHD := Aside0.mk hHD
  have HEV := Aside0.mk hev
  have HK := Aside0.mk hK'
  have HG4 := Aside0.mk g4
  have HKD := Aside0.mk hkids
  have HOK := Aside0.mk hx
  have HKK := Aside0.mk hkk
  have HXL : Aside0 (xs.length + HD.length ≤ 1099511627700) := ⟨by rw [hev] at hlen; simp only [List.length_append] at hlen; omega⟩
  rw [hkk] at b0
  clear hb1 hx1 hst1 hk1 hbe1 ih hlen hE hev hK' g4 hst hb0 hHD hkids hx hok hkk
  go_enter Try.func16, Try.ntmps16
  go_upto_block 0 with fail
  go_cut [] (fun wx => Aside0 (St g n0 wx (xs ++ HD)) ∧ Aside0 (Ke n0 W1 wx))
  case first =>
    by_cases h0 : kk = 0
    · subst h0
      go_wp2_with (go_at_call 22; refine (put_calls g n0 hg _ 0 0 (by omega) W1 xs HST.out (by have h := HXL.out; omega)).mono ?_; rintro e W2 ⟨rfl, hs2, hk2⟩; have HS2 := Aside0.mk hs2; have HK2 := Aside0.mk hk2; clear hs2 hk2)
      go_meet
      have hk := HKK.out
      refine ⟨⟨?_⟩, HK2⟩
      have h9 := HS2.out
      have hd := HHD.out
      rw [← hd]
      have e : hdr T x = [192] := by simp [hdr, hk]
      rw [e]
      simpa [outR] using h9
    · skip
      by_cases h1 : kk = 1
      · subst h1
        go_wp2_with (go_at_call 22; (try rw [show IntKind.u8.wrap (194 + IntKind.u8.wrap (T.n x)) = (194 + T.n x) % 256 by rw [u8_wrap, u8_wrap]; omega]); refine (put_calls g n0 hg _ 0 0 (by omega) W1 xs HST.out (by have h := HXL.out; omega)).mono ?_; rintro e W2 ⟨rfl, hs2, hk2⟩; have HS2 := Aside0.mk hs2; have HK2 := Aside0.mk hk2; clear hs2 hk2)
        go_meet
        have hk := HKK.out
        refine ⟨⟨?_⟩, HK2⟩
        have h9 := HS2.out
        have hd := HHD.out
        rw [← hd]
        have e : hdr T x = [(194 + T.n x) % 256] := by simp [hdr, hk]
        rw [e]
        simpa [outR] using h9
      · skip
        by_cases h4 : kk = 4
        · subst h4
          go_wp2_with (go_at_call 29; refine (number_calls g n0 hg (T.neg x) (T.n x) hn0 hn1 W1 xs HST.out (by have h := HXL.out; omega)).mono ?_; rintro e W2 ⟨rfl, hs2, hk2⟩; have HS2 := Aside0.mk hs2; have HK2 := Aside0.mk hk2; clear hs2 hk2)
          go_meet
          have hk := HKK.out
          refine ⟨⟨?_⟩, HK2⟩
          have h9 := HS2.out
          have hd := HHD.out
          rw [← hd]
          have e : hdr T x = numR (T.neg x) (T.n x) := by simp [hdr, hk]
          rw [e]
          simpa [outR] using h9
        · skip
          by_cases h7 : kk = 7
          · subst h7
            go_wp2_with (go_at_call 22; refine (put_calls g n0 hg _ (T.n x) 4 (by omega) W1 xs HST.out (by have h := HXL.out; omega)).mono ?_; rintro e W2 ⟨rfl, hs2, hk2⟩; have HS2 := Aside0.mk hs2; have HK2 := Aside0.mk hk2; clear hs2 hk2)
            go_meet
            have hk := HKK.out
            refine ⟨⟨?_⟩, HK2⟩
            have h9 := HS2.out
            have hd := HHD.out
            rw [← hd]
            have e : hdr T x = 202 :: outR (T.n x) 4 := by simp [hdr, hk]
            rw [e]
            simpa [outR] using h9
          · skip
            by_cases h8 : kk = 8
            · subst h8
              go_wp2_with (go_at_call 22; refine (put_calls g n0 hg _ (T.n x) 8 (by omega) W1 xs HST.out (by have h := HXL.out; omega)).mono ?_; rintro e W2 ⟨rfl, hs2, hk2⟩; have HS2 := Aside0.mk hs2; have HK2 := Aside0.mk hk2; clear hs2 hk2)
              go_meet
              have hk := HKK.out
              refine ⟨⟨?_⟩, HK2⟩
              have h9 := HS2.out
              have hd := HHD.out
              rw [← hd]
              have e : hdr T x = 203 :: outR (T.n x) 8 := by simp [hdr, hk]
              rw [e]
              simpa [outR] using h9
            · skip
              by_cases h9 : kk = 9
              · subst h9
                have HK9 := HK.out
                rw [HKK.out] at HK9
                replace HK9 := Aside0.mk HK9
                go_wp2_with (go_at_call 30; refine (text_calls T g n0 hg x _ W1 w0 HK9.out xs HST.out (by have h := HXL.out; omega) hs1).mono ?_; rintro e W2 ⟨rfl, hs2, hk2⟩; have HS2 := Aside0.mk hs2; have HK2 := Aside0.mk hk2; clear hs2 hk2)
                go_meet
                have hk := HKK.out
                refine ⟨⟨?_⟩, HK2⟩
                have h9 := HS2.out
                have hd := HHD.out
                rw [← hd]
                have e : hdr T x = headR (T.k x) ((T.s x).size : Int) ++ bytesOf (T.s x) := by simp [hdr, hk]
                rw [e]
                simpa [outR] using h9
              · skip
                by_cases h10 : kk = 10
                · subst h10
                  have HK9 := HK.out
                  rw [HKK.out] at HK9
                  replace HK9 := Aside0.mk HK9
                  go_wp2_with (go_at_call 30; refine (text_calls T g n0 hg x _ W1 w0 HK9.out xs HST.out (by have h := HXL.out; omega) hs1).mono ?_; rintro e W2 ⟨rfl, hs2, hk2⟩; have HS2 := Aside0.mk hs2; have HK2 := Aside0.mk hk2; clear hs2 hk2)
                  go_meet
                  have hk := HKK.out
                  refine ⟨⟨?_⟩, HK2⟩
                  have h9 := HS2.out
                  have hd := HHD.out
                  rw [← hd]
                  have e : hdr T x = headR (T.k x) ((T.s x).size : Int) ++ bytesOf (T.s x) := by simp [hdr, hk]
                  rw [e]
                  simpa [outR] using h9
                · skip
                  by_cases h14 : kk = 14
                  · subst h14
                    have HK9 := HK.out
                    rw [HKK.out] at HK9
                    replace HK9 := Aside0.mk HK9
                    go_wp2_with (go_at_call 31; refine (ext_calls T g n0 hg x _ W1 w0 HK9.out xs HST.out (by have h := HXL.out; omega) hs1).mono ?_; rintro e W2 ⟨rfl, hs2, hk2⟩; have HS2 := Aside0.mk hs2; have HK2 := Aside0.mk hk2; clear hs2 hk2)
                    go_meet
                    have hk := HKK.out
                    refine ⟨⟨?_⟩, HK2⟩
                    have h9 := HS2.out
                    have hd := HHD.out
                    rw [← hd]
                    have e : hdr T x = extR ((T.s x).size : Int) ++ (T.n x % 256 :: bytesOf (T.s x)) := by simp [hdr, hk]
                    rw [e]
                    simpa [outR] using h9
                  · skip
                    by_cases h12 : kk = 12
                    · subst h12
                      obtain ⟨N, hN⟩ : ∃ N, ((T.kids x).length : Int) / 2 = N := ⟨_, rfl⟩
                      have hN0 : 0 ≤ N := by omega
                      have hN1 : N ≤ 9223372036854775807 := by omega
                      by_cases hn : N < 16
                      · have hb : decide (N < 16) = true := decide_eq_true hn
                        have hq : bits BinOp.or IntKind.u8 128 N = 128 + N := or_128 N hN0 hn
                        go_wp2_with (go_at_call 22; (try rw [hN]); (try rw [hq]); refine (put_calls g n0 hg _ 0 0 (by omega) W1 xs HST.out (by have h := HXL.out; omega)).mono ?_; rintro e W2 ⟨rfl, hs2, hk2⟩; have HS2 := Aside0.mk hs2; have HK2 := Aside0.mk hk2; clear hs2 hk2)
                        go_meet
                        have hk := HKK.out
                        refine ⟨⟨?_⟩, HK2⟩
                        have h9 := HS2.out
                        have hd := HHD.out
                        rw [← hd]
                        have e : hdr T x = [128 + N] := by rw [hdr]; simp only [hk, hN, if_pos (show N < 16 by omega)]; simp
                        rw [e]
                        simpa [outR] using h9
                      · have hb : decide (N < 16) = false := decide_eq_false hn
                        go_wp2_with (go_at_call 32; (try rw [hN]); refine (length_calls g n0 hg _ N hN0 hN1 W1 xs HST.out (by have h := HXL.out; omega)).mono ?_; rintro e W2 ⟨rfl, hs2, hk2⟩; have HS2 := Aside0.mk hs2; have HK2 := Aside0.mk hk2; clear hs2 hk2)
                        go_meet
                        have hk := HKK.out
                        refine ⟨⟨?_⟩, HK2⟩
                        have h9 := HS2.out
                        have hd := HHD.out
                        rw [← hd]
                        have e : hdr T x = lenR 222 N := by rw [hdr]; simp only [hk, hN, if_neg (show ¬ N < 16 by omega)]; simp
                        rw [e]
                        simpa [outR] using h9
                    · skip
                      by_cases h11 : kk = 11
                      · subst h11
                        obtain ⟨N, hN⟩ : ∃ N, ((T.kids x).length : Int) = N := ⟨_, rfl⟩
                        have hN0 : 0 ≤ N := by omega
                        have hN1 : N ≤ 9223372036854775807 := by omega
                        by_cases hn : N < 16
                        · have hb : decide (N < 16) = true := decide_eq_true hn
                          have hq : bits BinOp.or IntKind.u8 144 N = 144 + N := or_144 N hN0 hn
                          go_wp2_with (go_at_call 22; (try rw [hN]); (try rw [hq]); refine (put_calls g n0 hg _ 0 0 (by omega) W1 xs HST.out (by have h := HXL.out; omega)).mono ?_; rintro e W2 ⟨rfl, hs2, hk2⟩; have HS2 := Aside0.mk hs2; have HK2 := Aside0.mk hk2; clear hs2 hk2)
                          go_meet
                          have hk := HKK.out
                          refine ⟨⟨?_⟩, HK2⟩
                          have h9 := HS2.out
                          have hd := HHD.out
                          rw [← hd]
                          have e : hdr T x = [144 + N] := by rw [hdr]; simp only [hk, hN, if_pos (show N < 16 by omega)]; simp
                          rw [e]
                          simpa [outR] using h9
                        · have hb : decide (N < 16) = false := decide_eq_false hn
                          go_wp2_with (go_at_call 32; (try rw [hN]); refine (length_calls g n0 hg _ N hN0 hN1 W1 xs HST.out (by have h := HXL.out; omega)).mono ?_; rintro e W2 ⟨rfl, hs2, hk2⟩; have HS2 := Aside0.mk hs2; have HK2 := Aside0.mk hk2; clear hs2 hk2)
                          go_meet
                          have hk := HKK.out
                          refine ⟨⟨?_⟩, HK2⟩
                          have h9 := HS2.out
                          have hd := HHD.out
                          rw [← hd]
                          have e : hdr T x = lenR 220 N := by rw [hdr]; simp only [hk, hN, if_neg (show ¬ N < 16 by omega)]; simp
                          rw [e]
                          simpa [outR] using h9
                      · skip
                        have hq0 : (kk == 0) = false := beq_eq_false_iff_ne.mpr h0
                        have hq1 : (kk == 1) = false := beq_eq_false_iff_ne.mpr h1
                        have hq4 : (kk == 4) = false := beq_eq_false_iff_ne.mpr h4
                        have hq7 : (kk == 7) = false := beq_eq_false_iff_ne.mpr h7
                        have hq8 : (kk == 8) = false := beq_eq_false_iff_ne.mpr h8
                        have hq9 : (kk == 9) = false := beq_eq_false_iff_ne.mpr h9
                        have hq10 : (kk == 10) = false := beq_eq_false_iff_ne.mpr h10
                        have hq14 : (kk == 14) = false := beq_eq_false_iff_ne.mpr h14
                        have hq12 : (kk == 12) = false := beq_eq_false_iff_ne.mpr h12
                        have hq11 : (kk == 11) = false := beq_eq_false_iff_ne.mpr h11
                        have hd := HHD.out
                        have hk := HKK.out
                        have hz : hdr T x = [] := by simp [hdr, hk, *]
                        have HZ := Aside0.mk (show HD = [] by rw [← hd]; exact hz)
                        clear hd hk hz
                        go_wp2
                        go_meet
                        exact ⟨⟨by rw [HZ.out, List.append_nil]; exact HST.out⟩, ⟨Ke.refl _ _⟩⟩
  case rest =>
    obtain ⟨HS0, HKE0⟩ := hcut
    have hx4 : wc.cell? ⟨W.heap.size, 4, none⟩ = some (.slice A4 (T.kids x).length c4) := (cells5 (HKE0.out.cells _ _ _ _ (by decide) (by decide) HX.out)).2.2.2.2
    clear hW1 b0 b1 b2 b3 b4 HKK
    go_wp2
    go_loopw [78] (fun i wr => ∃ j : Nat, i = .int .i64 (j : Int) ∧ j ≤ (T.kids x).length ∧ Aside0 (St g n0 wr (xs ++ HD ++ (((T.kids x).take j).map (itm T m)).flatten)) ∧ Aside0 (Ke n0 W1 wr)) (fun i _ => (T.kids x).length - (intOf i).toNat)
    case atStart => exact ⟨0, rfl, Nat.zero_le _, by simpa using HS0, HKE0⟩
    case round =>
      obtain ⟨j, rfl, hj, HS, HKE⟩ := hrel
      clear HS0 HKE0 hx4
      by_cases hlt : j < (T.kids x).length
      · have hmem : (T.kids x).getD j T.z ∈ T.kids x := by rw [List.getD_eq_getElem?_getD, List.getElem?_eq_getElem hlt]; exact List.getElem_mem hlt
        have hb3 : Below w0.heap.size w0 wr := HB.out.trans (HKE.out.below.mono hw0)
        obtain ⟨ad, A5, c5, e5, hx0, hx1, hx2, hx3, hx4, hKy⟩ := T.at_ HG4.out (j : Int) (by omega) (by omega)
        cases e5
        replace hx0 := (hb3.cell (World.block_lt_of_cell? w0 _ hx0)).trans hx0
        replace hx1 := (hb3.cell (World.block_lt_of_cell? w0 _ hx1)).trans hx1
        replace hx2 := (hb3.cell (World.block_lt_of_cell? w0 _ hx2)).trans hx2
        replace hx3 := (hb3.cell (World.block_lt_of_cell? w0 _ hx3)).trans hx3
        replace hx4 := (hb3.cell (World.block_lt_of_cell? w0 _ hx4)).trans hx4
        simp only [Int.toNat_natCast] at hx0 hx1 hx2 hx3 hx4 hKy
        have hsn := flat_snoc (itm T m) T.z (T.kids x) j hlt
        have hle := flat_le (itm T m) (T.kids x) (j + 1)
        obtain ⟨y, hy⟩ : ∃ y, (T.kids x).getD j T.z = y := ⟨_, rfl⟩
        rw [hy] at hx0 hx1 hx2 hx3 hx4 hKy hmem hsn
        rw [hsn, HE.out, List.length_append] at hle
        have HSZ : Aside0 (T.sz y < m) := ⟨by have := T.lt x y hmem; omega⟩
        have HOY := Aside0.mk (HKD.out y hmem)
        have HLN : Aside0 ((xs ++ HD ++ (((T.kids x).take j).map (itm T m)).flatten).length + (itm T m y).length ≤ 1099511627700) := ⟨by
          have h := HLEN.out
          rw [HEV.out] at h
          simp only [List.length_append] at h ⊢
          omega⟩
        have HKY := Aside0.mk hKy
        have HSN := Aside0.mk hsn
        obtain ⟨W4, hW4⟩ : ∃ W4, wr.alloc (.cells #[.int .i64 (T.k y), .bool (T.neg y), .int .u64 (T.n y), .string (T.s y), .slice A5 (T.kids y).length c5] 25 (0, 0)) = W4 := ⟨_, rfl⟩
        have hb4 : Below wr.heap.size wr W4 := by rw [← hW4]; exact below_alloc (Below.refl _ _) _
        have hbx4 : W4.heap[wr.heap.size]? = some (.cells #[.int .i64 (T.k y), .bool (T.neg y), .int .u64 (T.n y), .string (T.s y), .slice A5 (T.kids y).length c5] 25 (0, 0)) := by rw [← hW4]; exact World.alloc_heap_new wr _
        obtain ⟨d0, d1, d2, d3, d4⟩ := cells5 hbx4
        have HK4 := Aside0.mk (Ke.of_below HS.out.size hb4)
        have HST4 : Aside0 (St g n0 W4 (xs ++ HD ++ (((T.kids x).take j).map (itm T m)).flatten)) := ⟨HS.out.below hb4⟩
        have HB4 := Aside0.mk (hb3.trans (hb4.mono hb3.size))
        have HLT := Aside0.mk hlt
        have hmax : (T.kids x).length ≤ 9223372036854775807 := HG4.out.2.1
        clear hb4 hbx4 hKy hsn hle hmem hb3
        go_wp2_with (go_at_call 16; refine (HIH.out y _ W4 _ HSZ.out HOY.out HLN.out HKY.out HB4.out HST4.out).mono ?_; rintro e W6 ⟨rfl, hs6, hk6⟩; have HS6 := Aside0.mk hs6; have HK6 := Aside0.mk hk6; clear hs6 hk6)
        go_roundw
        case rel => exact ⟨j + 1, by go_num, HLT.out, ⟨by rw [HSN.out]; have h9 := HS6.out; simpa using h9⟩, ⟨HKE.out.trans (HK4.out.trans HK6.out)⟩⟩
        case measure => have hlt_ := HLT.out; simp [intOf]; omega
      · obtain rfl : j = (T.kids x).length := by omega
        go_wp2
        go_end0
        refine ⟨rfl, ?_, HK1.out.trans HKE.out⟩
        have h9 := HS.out
        rw [List.take_length, HE.out] at h9
        rw [HEV.out]
        simpa using h9
end
end Go.Proofs.Ytchklgkakefhbaa.Wr
