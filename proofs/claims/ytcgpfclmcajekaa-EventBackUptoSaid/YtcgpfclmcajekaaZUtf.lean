-- Out of texts of this seat by a program of this session: what the claim does not reach is struck
import Derived.WalkKit
import Derived.Deep.WholeRow
import Derived.Test.YtcgpfclmcajekaaProg
import Derived.Test.YtcgpfclmcajekaaZWMore
import Derived.Test.YtcgpfclmcajekaaZWLast
namespace Go.Proofs.Ytcgpfclmcajekaa.Utf
open Go Go.RowKit Go.Proofs.YtcgpfclmcajekaaW.PrintWords Go.Proofs.YtcgpfclmcajekaaW.PrintLast
set_option linter.unusedVariables false
set_option linter.unusedSimpArgs false
def L (a b n c d : Int) : List Value := [.int .u8 a, .int .u8 b, .int .i64 n, .int .u8 c, .int .u8 d]
def tab : List (Int × Int × Int × Int × Int) := [(0, 0x7F, 1, 0, 0), (0xC2, 0xDF, 2, 0x80, 0xBF), (0xE0, 0xE0, 3, 0xA0, 0xBF), (0xE1, 0xEC, 3, 0x80, 0xBF), (0xED, 0xED, 3, 0x80, 0x9F), (0xEE, 0xEF, 3, 0x80, 0xBF), (0xF0, 0xF0, 4, 0x90, 0xBF), (0xF1, 0xF3, 4, 0x80, 0xBF), (0xF4, 0xF4, 4, 0x80, 0x8F)]
def leadsV : Array Value := #[.int .u8 0, .int .u8 127, .int .i64 1, .int .u8 0, .int .u8 0, .int .u8 194, .int .u8 223, .int .i64 2, .int .u8 128, .int .u8 191, .int .u8 224, .int .u8 224, .int .i64 3, .int .u8 160, .int .u8 191, .int .u8 225, .int .u8 236, .int .i64 3, .int .u8 128, .int .u8 191, .int .u8 237, .int .u8 237, .int .i64 3, .int .u8 128, .int .u8 159, .int .u8 238, .int .u8 239, .int .i64 3, .int .u8 128, .int .u8 191, .int .u8 240, .int .u8 240, .int .i64 4, .int .u8 144, .int .u8 191, .int .u8 241, .int .u8 243, .int .i64 4, .int .u8 128, .int .u8 191, .int .u8 244, .int .u8 244, .int .i64 4, .int .u8 128, .int .u8 143]
def zerosV : Array Value := #[.int .u8 0, .int .u8 0, .int .i64 0, .int .u8 0, .int .u8 0, .int .u8 0, .int .u8 0, .int .i64 0, .int .u8 0, .int .u8 0, .int .u8 0, .int .u8 0, .int .i64 0, .int .u8 0, .int .u8 0, .int .u8 0, .int .u8 0, .int .i64 0, .int .u8 0, .int .u8 0, .int .u8 0, .int .u8 0, .int .i64 0, .int .u8 0, .int .u8 0, .int .u8 0, .int .u8 0, .int .i64 0, .int .u8 0, .int .u8 0, .int .u8 0, .int .u8 0, .int .i64 0, .int .u8 0, .int .u8 0, .int .u8 0, .int .u8 0, .int .i64 0, .int .u8 0, .int .u8 0, .int .u8 0, .int .u8 0, .int .i64 0, .int .u8 0, .int .u8 0]
theorem store_leads (w : World) : (Instr.storeAt 91 (.pointer (some ⟨w.heap.size, 0, none⟩)) (.agg leadsV)).run Try.prog (w.alloc (.cells zerosV 91)) = .ok () (w.alloc (.cells leadsV 91)) :=
  run_storeAt_new w 91 zerosV leadsV (by kernel_rfl) rfl (by kernel_rfl)
set_option maxRecDepth 100000 in
set_option maxHeartbeats 4000000 in
theorem leads_calls (w : World) : Calls Try.prog 60 #[] w fun e w' => e = .returned (.agg leadsV) ∧ Below w.heap.size w w' := by
  have hst := store_leads w
  go_enter Try.func60, Try.ntmps60
  go_wp2_with ((with_reducible refine gate_store (t := 91) (p := 0) rfl ?_); refine store_event (t := 91) (p := 0) (v := .tmp 10) (w1 := w.alloc (.cells leadsV 91)) rfl rfl rfl ?hr ?_; (case hr => (unfold execOp; simp only [Act.eval, Sem.run_bind]; exact (congrArg (fun r => Result.andThen r _) hst))); intro w5 hw5)
  subst hw5
  refine bodyPost_ret (results_cell_row rfl _ _ w.heap.size 91 leadsV (0, 0) _ rfl (blk_new w _) Try.underlying91 rfl (by kernel_rfl)) rfl ⟨rfl, below_alloc (Below.refl _ _) _⟩
def rowFrom (c : Int) : List (Int × Int × Int × Int × Int) → Int × Int × Int × Int × Int
  | [] => (0, 0, 0, 0, 0)
  | r :: l => if r.1 ≤ c ∧ c ≤ r.2.1 then r else rowFrom c l
def rowF (c : Int) : Int × Int × Int × Int × Int := rowFrom c tab
theorem cells5 {W : World} {g t : Nat} {a b c d e : Value} (h : W.heap[g]? = some (.cells #[a, b, c, d, e] t (0, 0))) :
    W.cell? ⟨g, 0, none⟩ = some a ∧ W.cell? ⟨g, 1, none⟩ = some b ∧ W.cell? ⟨g, 2, none⟩ = some c ∧ W.cell? ⟨g, 3, none⟩ = some d ∧ W.cell? ⟨g, 4, none⟩ = some e :=
  ⟨(blk_cell h 0).trans rfl, (blk_cell h 1).trans rfl, (blk_cell h 2).trans rfl, (blk_cell h 3).trans rfl, (blk_cell h 4).trans rfl⟩
theorem index_at : ∀ j : Nat, j < 9 → ∀ w, (Instr.index 91 (.agg leadsV) (.int .i64 (j : Int))).run Try.prog w = .ok (.agg #[.int .u8 (tab.getD j (0, 0, 0, 0, 0)).1, .int .u8 (tab.getD j (0, 0, 0, 0, 0)).2.1, .int .i64 (tab.getD j (0, 0, 0, 0, 0)).2.2.1, .int .u8 (tab.getD j (0, 0, 0, 0, 0)).2.2.2.1, .int .u8 (tab.getD j (0, 0, 0, 0, 0)).2.2.2.2]) w
  | 0, _ => fun _ => by kernel_rfl
  | 1, _ => fun _ => by kernel_rfl
  | 2, _ => fun _ => by kernel_rfl
  | 3, _ => fun _ => by kernel_rfl
  | 4, _ => fun _ => by kernel_rfl
  | 5, _ => fun _ => by kernel_rfl
  | 6, _ => fun _ => by kernel_rfl
  | 7, _ => fun _ => by kernel_rfl
  | 8, _ => fun _ => by kernel_rfl
  | n + 9, h => absurd h (by omega)
theorem rowFrom_drop (c : Int) (j : Nat) (h : j < 9) : rowFrom c (tab.drop j) = if (tab.getD j (0, 0, 0, 0, 0)).1 ≤ c ∧ c ≤ (tab.getD j (0, 0, 0, 0, 0)).2.1 then tab.getD j (0, 0, 0, 0, 0) else rowFrom c (tab.drop (j + 1)) := by
  rw [List.drop_eq_getElem_cons (show j < tab.length from h)]
  simp only [rowFrom, List.getD_eq_getElem?_getD, List.getElem?_eq_getElem (show j < tab.length from h), Option.getD_some]
set_option maxRecDepth 100000 in
set_option maxHeartbeats 4000000 in
theorem row_calls (c : Int) (w : World) : Calls Try.prog 58 #[.int .u8 c] w fun e w' => e = .returned (.agg #[.int .u8 (rowF c).1, .int .u8 (rowF c).2.1, .int .i64 (rowF c).2.2.1, .int .u8 (rowF c).2.2.2.1, .int .u8 (rowF c).2.2.2.2]) ∧ Below w.heap.size w w' := by
  go_enter Try.func58, Try.ntmps58
  go_wp2_with (go_at_call 60; refine (leads_calls _).mono ?_; rintro e W1 ⟨rfl, hb1⟩)
  obtain ⟨W0, hW0⟩ : ∃ W0, w.alloc (.cells #[.int .u8 0, .int .u8 0, .int .i64 0, .int .u8 0, .int .u8 0] 88) = W0 := ⟨_, rfl⟩
  rw [hW0] at hb1
  have HR := Aside0.mk (show W1.heap[w.heap.size]? = some (.cells #[.int .u8 0, .int .u8 0, .int .i64 0, .int .u8 0, .int .u8 0] 88 (0, 0)) from (hb1.block _ (by rw [← hW0, World.size_alloc]; omega)).trans (by rw [← hW0]; exact blk_new w _))
  have HB := Aside0.mk (show Below w.heap.size w W1 from (show Below w.heap.size w W0 by rw [← hW0]; exact below_alloc (Below.refl _ _) _).trans (hb1.mono (by rw [← hW0, World.size_alloc]; omega)))
  clear hb1 hW0
  go_loopw [6] (fun i wr => ∃ j : Nat, i = .int .i64 (j : Int) ∧ j ≤ 9 ∧ Aside0 (rowF c = rowFrom c (tab.drop j)) ∧ Aside0 (wr.heap[w.heap.size]? = some (.cells #[.int .u8 0, .int .u8 0, .int .i64 0, .int .u8 0, .int .u8 0] 88 (0, 0))) ∧ Aside0 (Below w.heap.size w wr)) (fun i _ => 9 - (intOf i).toNat)
  case atStart => exact ⟨0, rfl, by omega, ⟨rfl⟩, HR, HB⟩
  case round =>
    clear HR HB
    obtain ⟨j, rfl, hj, HE, HR, HB⟩ := hrel
    have hr0 := (cells5 HR.out)
    obtain ⟨z0, z1, z2, z3, z4⟩ := hr0
    have y0 := blk_frozen HR.out 0
    have y1 := blk_frozen HR.out 1
    have y2 := blk_frozen HR.out 2
    have y3 := blk_frozen HR.out 3
    have y4 := blk_frozen HR.out 4
    by_cases hlt : j < 9
    · have hix := index_at j hlt
      have hdr := rowFrom_drop c j hlt
      obtain ⟨⟨a, b, n, x, y⟩, ht⟩ : ∃ t, tab.getD j (0, 0, 0, 0, 0) = t := ⟨_, rfl⟩
      rw [ht] at hix hdr
      simp only at hix hdr
      have HD := Aside0.mk hdr
      clear ht hdr
      have hsz := blk_lt HR.out
      obtain ⟨W2, hW2⟩ : ∃ W2, wr.alloc (.cells #[.int .u8 a, .int .u8 b, .int .i64 n, .int .u8 x, .int .u8 y] 88 (0, 0)) = W2 := ⟨_, rfl⟩
      have hb2 : Below w.heap.size w W2 := by rw [← hW2]; exact below_alloc HB.out _
      obtain ⟨d0, d1, d2, d3, d4⟩ := cells5 (show W2.heap[wr.heap.size]? = some (.cells #[.int .u8 a, .int .u8 b, .int .i64 n, .int .u8 x, .int .u8 y] 88 (0, 0)) by rw [← hW2]; exact blk_new wr _)
      have HR2 := Aside0.mk (show W2.heap[w.heap.size]? = some (.cells #[.int .u8 0, .int .u8 0, .int .i64 0, .int .u8 0, .int .u8 0] 88 (0, 0)) by rw [← hW2]; exact blk_alloc HR.out _)
      obtain ⟨z0', z1', z2', z3', z4'⟩ := cells5 HR2.out
      have x0 := blk_frozen HR2.out 0
      have x1 := blk_frozen HR2.out 1
      have x2 := blk_frozen HR2.out 2
      have x3 := blk_frozen HR2.out 3
      have x4 := blk_frozen HR2.out 4
      have HB2 := Aside0.mk hb2
      clear hb2
      by_cases h1 : a ≤ c
      · have hb1 : decide (a ≤ c) = true := decide_eq_true h1
        by_cases h2 : c ≤ b
        · have hb2 : decide (c ≤ b) = true := decide_eq_true h2
          go_wp2
          have h5 := blk_set (blk_set (blk_set (blk_set (blk_set HR2.out 0 (.int .u8 a)) 1 (.int .u8 b)) 2 (.int .i64 n)) 3 (.int .u8 x)) 4 (.int .u8 y)
          simp only [List.setIfInBounds_toArray, List.set_cons_zero, List.set_cons_succ] at h5
          refine bodyPost_ret (results_cell_row rfl _ _ w.heap.size 88 _ (0, 0) _ rfl h5 Try.underlying88 rfl (by kernel_rfl)) rfl ⟨?_, ?_⟩
          · rw [HE.out, HD.out, if_pos ⟨h1, h2⟩]
          · exact ((((HB2.out.setCell (p := ⟨w.heap.size, 0, none⟩) (Nat.le_refl _) _).setCell (p := ⟨w.heap.size, 1, none⟩) (Nat.le_refl _) _).setCell (p := ⟨w.heap.size, 2, none⟩) (Nat.le_refl _) _).setCell (p := ⟨w.heap.size, 3, none⟩) (Nat.le_refl _) _).setCell (p := ⟨w.heap.size, 4, none⟩) (Nat.le_refl _) _
        · have hb2 : decide (c ≤ b) = false := decide_eq_false h2
          have HE2 := Aside0.mk (show rowF c = rowFrom c (tab.drop (j + 1)) by rw [HE.out, HD.out, if_neg (fun h => h2 h.2)])
          have HLT := Aside0.mk hlt
          go_wp2
          go_roundw
          case rel => exact ⟨j + 1, by go_num, HLT.out, HE2, HR2, HB2⟩
          case measure => have := HLT.out; simp [intOf]; omega
      · have hb1 : decide (a ≤ c) = false := decide_eq_false h1
        have HE2 := Aside0.mk (show rowF c = rowFrom c (tab.drop (j + 1)) by rw [HE.out, HD.out, if_neg (fun h => h1 h.1)])
        have HLT := Aside0.mk hlt
        go_wp2
        go_roundw
        case rel => exact ⟨j + 1, by go_num, HLT.out, HE2, HR2, HB2⟩
        case measure => have := HLT.out; simp [intOf]; omega
    · obtain rfl : j = 9 := by omega
      go_wp2
      have h5 := blk_set (blk_set (blk_set (blk_set (blk_set HR.out 0 (.int .u8 0)) 1 (.int .u8 0)) 2 (.int .i64 0)) 3 (.int .u8 0)) 4 (.int .u8 0)
      simp only [List.setIfInBounds_toArray, List.set_cons_zero, List.set_cons_succ] at h5
      refine bodyPost_ret (results_cell_row rfl _ _ w.heap.size 88 _ (0, 0) _ rfl h5 Try.underlying88 rfl (by kernel_rfl)) rfl ⟨?_, ?_⟩
      · rw [HE.out]; rfl
      · exact ((((HB.out.setCell (p := ⟨w.heap.size, 0, none⟩) (Nat.le_refl _) _).setCell (p := ⟨w.heap.size, 1, none⟩) (Nat.le_refl _) _).setCell (p := ⟨w.heap.size, 2, none⟩) (Nat.le_refl _) _).setCell (p := ⟨w.heap.size, 3, none⟩) (Nat.le_refl _) _).setCell (p := ⟨w.heap.size, 4, none⟩) (Nat.le_refl _) _
def stepF (s : Int × Int × Int) (c room : Int) : Bool × Int × Int × Int :=
  if 0 < s.1 then (if c < s.2.1 ∨ s.2.2 < c then (false, s) else (true, s.1 - 1, 128, 191))
  else if (rowF c).2.2.1 = 0 ∨ (0 ≤ room ∧ room < (rowF c).2.2.1 - 1) then (false, s) else (true, (rowF c).2.2.1 - 1, (rowF c).2.2.2.1, (rowF c).2.2.2.2)
theorem rowFrom_n (c : Int) : ∀ l : List (Int × Int × Int × Int × Int), (∀ r ∈ l, 0 ≤ r.2.2.1 ∧ r.2.2.1 ≤ 4) → 0 ≤ (rowFrom c l).2.2.1 ∧ (rowFrom c l).2.2.1 ≤ 4
  | [], _ => by simp [rowFrom]
  | r :: l, h => by
    simp only [rowFrom]
    by_cases hc : r.1 ≤ c ∧ c ≤ r.2.1
    · rw [if_pos hc]; exact h r (by simp)
    · rw [if_neg hc]; exact rowFrom_n c l (fun x hx => h x (by simp [hx]))
theorem rowF_n (c : Int) : 0 ≤ (rowF c).2.2.1 ∧ (rowF c).2.2.1 ≤ 4 := rowFrom_n c tab (by decide)
theorem stepF_n (s : Int × Int × Int) (c room : Int) (h0 : 0 ≤ s.1) (h3 : s.1 ≤ 3) : 0 ≤ (stepF s c room).2.1 ∧ (stepF s c room).2.1 ≤ 3 := by
  have hn := rowF_n c
  unfold stepF
  by_cases h : 0 < s.1
  · rw [if_pos h]
    by_cases h1 : c < s.2.1 ∨ s.2.2 < c
    · rw [if_pos h1]; exact ⟨h0, h3⟩
    · rw [if_neg h1]; simp only; omega
  · rw [if_neg h]
    by_cases h1 : (rowF c).2.2.1 = 0 ∨ (0 ≤ room ∧ room < (rowF c).2.2.1 - 1)
    · rw [if_pos h1]; exact ⟨h0, h3⟩
    · rw [if_neg h1]; simp only; omega
theorem cells3 {W : World} {g t : Nat} {a b c : Value} (h : W.heap[g]? = some (.cells #[a, b, c] t (0, 0))) :
    W.cell? ⟨g, 0, none⟩ = some a ∧ W.cell? ⟨g, 1, none⟩ = some b ∧ W.cell? ⟨g, 2, none⟩ = some c := ⟨(blk_cell h 0).trans rfl, (blk_cell h 1).trans rfl, (blk_cell h 2).trans rfl⟩
theorem put3 {W : World} {g t : Nat} {a b c : Value} (h : W.heap[g]? = some (.cells #[a, b, c] t (0, 0))) (x y z : Value) :
    (((W.setCell ⟨g, 0, none⟩ x).setCell ⟨g, 1, none⟩ y).setCell ⟨g, 2, none⟩ z).heap[g]? = some (.cells #[x, y, z] t (0, 0)) := by
  have h5 := blk_set (blk_set (blk_set h 0 x) 1 y) 2 z
  simpa only [List.setIfInBounds_toArray, List.set_cons_zero, List.set_cons_succ] using h5
set_option maxRecDepth 100000 in
set_option maxHeartbeats 4000000 in
theorem step_calls (g : Nat) (s0 s1 s2 c room : Int) (w : World) (hg : w.heap[g]? = some (.cells #[.int .i64 s0, .int .u8 s1, .int .u8 s2] 82 (0, 0))) (h0 : 0 ≤ s0) (h3 : s0 ≤ 3) :
    Calls Try.prog 56 #[.pointer (some ⟨g, 0, none⟩), .int .u8 c, .int .i64 room] w fun e w' => e = .returned (.bool (stepF (s0, s1, s2) c room).1) ∧
      w'.heap[g]? = some (.cells #[.int .i64 (stepF (s0, s1, s2) c room).2.1, .int .u8 (stepF (s0, s1, s2) c room).2.2.1, .int .u8 (stepF (s0, s1, s2) c room).2.2.2] 82 (0, 0)) ∧ Below g w w' := by
  obtain ⟨c0, c1, c2⟩ := cells3 hg
  have f0 := blk_frozen hg 0
  have f1 := blk_frozen hg 1
  have f2 := blk_frozen hg 2
  have HG := Aside0.mk hg
  have hlt : g < w.heap.size := blk_lt hg
  clear hg
  by_cases h : 0 < s0
  · have hb : decide (0 < s0) = true := decide_eq_true h
    by_cases h1 : c < s1
    · have hb1 : decide (c < s1) = true := decide_eq_true h1
      have HS := Aside0.mk (show stepF (s0, s1, s2) c room = (false, s0, s1, s2) by unfold stepF; rw [if_pos h, if_pos (.inl h1)])
      go_enter Try.func56, Try.ntmps56
      go_wp2
      go_ret
      rw [HS.out]
      exact ⟨rfl, HG.out, Below.refl _ _⟩
    · have hb1 : decide (c < s1) = false := decide_eq_false h1
      by_cases h2 : s2 < c
      · have hb2 : decide (s2 < c) = true := decide_eq_true h2
        have HS := Aside0.mk (show stepF (s0, s1, s2) c room = (false, s0, s1, s2) by unfold stepF; rw [if_pos h, if_pos (.inr h2)])
        go_enter Try.func56, Try.ntmps56
        go_wp2
        go_ret
        rw [HS.out]
        exact ⟨rfl, HG.out, Below.refl _ _⟩
      · have hb2 : decide (s2 < c) = false := decide_eq_false h2
        have HS := Aside0.mk (show stepF (s0, s1, s2) c room = (true, s0 - 1, 128, 191) by unfold stepF; rw [if_pos h, if_neg (by simp only; omega)])
        go_enter Try.func56, Try.ntmps56
        go_wp2
        go_ret
        rw [HS.out]
        exact ⟨rfl, put3 HG.out _ _ _, (((Below.refl _ _).setCell (p := ⟨g, 0, none⟩) (Nat.le_refl _) _).setCell (p := ⟨g, 1, none⟩) (Nat.le_refl _) _).setCell (p := ⟨g, 2, none⟩) (Nat.le_refl _) _⟩
  · have hb : decide (0 < s0) = false := decide_eq_false h
    have hrc := row_calls c w
    have hn := rowF_n c
    have hsf : stepF (s0, s1, s2) c room = if (rowF c).2.2.1 = 0 ∨ (0 ≤ room ∧ room < (rowF c).2.2.1 - 1) then (false, s0, s1, s2) else (true, (rowF c).2.2.1 - 1, (rowF c).2.2.2.1, (rowF c).2.2.2.2) := by unfold stepF; rw [if_neg h]
    obtain ⟨⟨r0, r1, n, r3, r4⟩, hr⟩ : ∃ r, rowF c = r := ⟨_, rfl⟩
    rw [hr] at hrc hn hsf
    simp only at hrc hn hsf
    obtain ⟨hn0, hn4⟩ := hn
    have HC := Aside0.mk hrc
    clear hr hrc
    by_cases z : n = 0
    · have HS := Aside0.mk (show stepF (s0, s1, s2) c room = (false, s0, s1, s2) by rw [hsf, if_pos (.inl z)])
      subst z
      clear hsf
      go_enter Try.func56, Try.ntmps56
      go_wp2_with (go_at_call 58; refine HC.out.mono ?_; rintro e W1 ⟨rfl, hb1⟩; have HG1 := Aside0.mk ((hb1.block _ hlt).trans HG.out); have HB1 := Aside0.mk (hb1.mono (Nat.le_of_lt hlt)); have hlt1 : g < W1.heap.size := Nat.lt_of_lt_of_le hlt hb1.size; clear hb1)
      go_ret
      rw [HS.out]
      exact ⟨rfl, blk_alloc HG1.out _, HB1.out.alloc (Nat.le_of_lt hlt1) _⟩
    · have hz : (n == 0) = false := beq_eq_false_iff_ne.mpr z
      by_cases hrm : 0 ≤ room
      · have hb1 : decide (0 ≤ room) = true := decide_eq_true hrm
        by_cases h2 : room < n - 1
        · have hb2 : decide (room < n - 1) = true := decide_eq_true h2
          have HS := Aside0.mk (show stepF (s0, s1, s2) c room = (false, s0, s1, s2) by rw [hsf, if_pos (.inr ⟨hrm, h2⟩)])
          clear hsf
          go_enter Try.func56, Try.ntmps56
          go_wp2_with (go_at_call 58; refine HC.out.mono ?_; rintro e W1 ⟨rfl, hb1⟩; have HG1 := Aside0.mk ((hb1.block _ hlt).trans HG.out); have HB1 := Aside0.mk (hb1.mono (Nat.le_of_lt hlt)); have hlt1 : g < W1.heap.size := Nat.lt_of_lt_of_le hlt hb1.size; clear hb1)
          go_ret
          rw [HS.out]
          exact ⟨rfl, blk_alloc HG1.out _, HB1.out.alloc (Nat.le_of_lt hlt1) _⟩
        · have hb2 : decide (room < n - 1) = false := decide_eq_false h2
          have HS := Aside0.mk (show stepF (s0, s1, s2) c room = (true, n - 1, r3, r4) by rw [hsf, if_neg (by omega)])
          clear hsf
          go_enter Try.func56, Try.ntmps56
          go_wp2_with (go_at_call 58; refine HC.out.mono ?_; rintro e W1 ⟨rfl, hb1⟩; have HG1 := Aside0.mk ((hb1.block _ hlt).trans HG.out); have HB1 := Aside0.mk (hb1.mono (Nat.le_of_lt hlt)); have hlt1 : g < W1.heap.size := Nat.lt_of_lt_of_le hlt hb1.size; have hg1 := blk_alloc HG1.out (.cells #[.int .u8 r0, .int .u8 r1, .int .i64 n, .int .u8 r3, .int .u8 r4] 88); have hr1 := blk_new W1 (.cells #[.int .u8 r0, .int .u8 r1, .int .i64 n, .int .u8 r3, .int .u8 r4] 88); have hba := HB1.out.alloc (Nat.le_of_lt hlt1) (.cells #[.int .u8 r0, .int .u8 r1, .int .i64 n, .int .u8 r3, .int .u8 r4] 88); obtain ⟨W2, hW2⟩ : ∃ W2, W1.alloc (.cells #[.int .u8 r0, .int .u8 r1, .int .i64 n, .int .u8 r3, .int .u8 r4] 88) = W2 := ⟨_, rfl⟩; rw [hW2] at hg1 hr1 hba; obtain ⟨c0', c1', c2'⟩ := cells3 hg1; obtain ⟨d0', d1', d2', d3', d4'⟩ := cells5 hr1; have f0' := blk_frozen hg1 0; have f1' := blk_frozen hg1 1; have f2' := blk_frozen hg1 2; have HG2 := Aside0.mk hg1; have HBA := Aside0.mk hba; clear hb1 hg1 hr1 hba)
          go_ret
          rw [HS.out]
          exact ⟨rfl, put3 HG2.out _ _ _, ((HBA.out.setCell (p := ⟨g, 0, none⟩) (Nat.le_refl _) _).setCell (p := ⟨g, 1, none⟩) (Nat.le_refl _) _).setCell (p := ⟨g, 2, none⟩) (Nat.le_refl _) _⟩
      · have hb1 : decide (0 ≤ room) = false := decide_eq_false hrm
        have HS := Aside0.mk (show stepF (s0, s1, s2) c room = (true, n - 1, r3, r4) by rw [hsf, if_neg (by omega)])
        clear hsf
        go_enter Try.func56, Try.ntmps56
        go_wp2_with (go_at_call 58; refine HC.out.mono ?_; rintro e W1 ⟨rfl, hb1⟩; have HG1 := Aside0.mk ((hb1.block _ hlt).trans HG.out); have HB1 := Aside0.mk (hb1.mono (Nat.le_of_lt hlt)); have hlt1 : g < W1.heap.size := Nat.lt_of_lt_of_le hlt hb1.size; have hg1 := blk_alloc HG1.out (.cells #[.int .u8 r0, .int .u8 r1, .int .i64 n, .int .u8 r3, .int .u8 r4] 88); have hr1 := blk_new W1 (.cells #[.int .u8 r0, .int .u8 r1, .int .i64 n, .int .u8 r3, .int .u8 r4] 88); have hba := HB1.out.alloc (Nat.le_of_lt hlt1) (.cells #[.int .u8 r0, .int .u8 r1, .int .i64 n, .int .u8 r3, .int .u8 r4] 88); obtain ⟨W2, hW2⟩ : ∃ W2, W1.alloc (.cells #[.int .u8 r0, .int .u8 r1, .int .i64 n, .int .u8 r3, .int .u8 r4] 88) = W2 := ⟨_, rfl⟩; rw [hW2] at hg1 hr1 hba; obtain ⟨c0', c1', c2'⟩ := cells3 hg1; obtain ⟨d0', d1', d2', d3', d4'⟩ := cells5 hr1; have f0' := blk_frozen hg1 0; have f1' := blk_frozen hg1 1; have f2' := blk_frozen hg1 2; have HG2 := Aside0.mk hg1; have HBA := Aside0.mk hba; clear hb1 hg1 hr1 hba)
        go_ret
        rw [HS.out]
        exact ⟨rfl, put3 HG2.out _ _ _, ((HBA.out.setCell (p := ⟨g, 0, none⟩) (Nat.le_refl _) _).setCell (p := ⟨g, 1, none⟩) (Nat.le_refl _) _).setCell (p := ⟨g, 2, none⟩) (Nat.le_refl _) _⟩
def scanF (a : ByteArray) : Nat → Nat → Int × Int × Int → Int × Int
  | 0, _, s => if 0 < s.1 then ((a.size : Int), 3) else ((a.size : Int), 0)
  | d + 1, j, s => if (stepF s (bt a (j : Int)) (-1)).1 = true then scanF a d (j + 1) (stepF s (bt a (j : Int)) (-1)).2 else ((j : Int), 4)
def checkF (a : ByteArray) : Int × Int := scanF a a.size 0 (0, 0, 0)
set_option maxRecDepth 100000 in
set_option maxHeartbeats 4000000 in
theorem check_calls (a : ByteArray) (w : World) (ha : a.size ≤ 140737488351232) :
    Calls Try.prog 50 #[.string a] w fun e w' => e = .returned (.tuple #[.int .i64 (checkF a).1, .int .i64 (checkF a).2]) ∧ Below w.heap.size w w' := by
  obtain ⟨W1, hW1⟩ : ∃ W1, w.alloc (.cells #[.int .i64 0, .int .u8 0, .int .u8 0] 82 (0, 0)) = W1 := ⟨_, rfl⟩
  have HB := Aside0.mk (show Below w.heap.size w W1 by rw [← hW1]; exact below_alloc (Below.refl _ _) _)
  have HG := Aside0.mk (show W1.heap[w.heap.size]? = some (.cells #[.int .i64 0, .int .u8 0, .int .u8 0] 82 (0, 0)) by rw [← hW1]; exact blk_new w _)
  go_enter Try.func50, Try.ntmps50
  go_wp2
  go_loopw [8] (fun i wr => ∃ (j d : Nat) (s0 s1 s2 : Int), i = .int .i64 (j : Int) ∧ j + d = a.size ∧ 0 ≤ s0 ∧ s0 ≤ 3 ∧ Aside0 (checkF a = scanF a d j (s0, s1, s2)) ∧ Aside0 (wr.heap[w.heap.size]? = some (.cells #[.int .i64 s0, .int .u8 s1, .int .u8 s2] 82 (0, 0))) ∧ Aside0 (Below w.heap.size w wr)) (fun i _ => a.size - (intOf i).toNat)
  case atStart => exact ⟨0, a.size, 0, 0, 0, rfl, by omega, by omega, by omega, ⟨rfl⟩, HG, HB⟩
  case round =>
    clear HB HG hW1
    obtain ⟨j, d, s0, s1, s2, rfl, hj, h0, h3, HE, HG, HB⟩ := hrel
    cases d with
    | zero =>
      obtain rfl : j = a.size := by omega
      have hc0 := (cells3 HG.out).1
      by_cases hs : 0 < s0
      · have hsb : decide (0 < s0) = true := decide_eq_true hs
        have HR := Aside0.mk (show checkF a = ((a.size : Int), 3) by rw [HE.out]; exact if_pos hs)
        clear hs
        go_wp2
        go_ret2
        rw [HR.out]
        exact ⟨rfl, HB.out⟩
      · have hsb : decide (0 < s0) = false := decide_eq_false hs
        have HR := Aside0.mk (show checkF a = ((a.size : Int), 0) by rw [HE.out]; exact if_neg hs)
        clear hs
        go_wp2
        go_ret2
        rw [HR.out]
        exact ⟨rfl, HB.out⟩
    | succ d =>
      have hlt : j < a.size := by omega
      have HS := Aside0.mk (step_calls w.heap.size s0 s1 s2 (bt a (j : Int)) (-1) wr HG.out h0 h3)
      have hn := stepF_n (s0, s1, s2) (bt a (j : Int)) (-1) h0 h3
      have he : checkF a = if (stepF (s0, s1, s2) (bt a (j : Int)) (-1)).1 = true then scanF a d (j + 1) (stepF (s0, s1, s2) (bt a (j : Int)) (-1)).2 else ((j : Int), 4) := HE.out
      obtain ⟨⟨b, t0, t1, t2⟩, hst⟩ : ∃ r, stepF (s0, s1, s2) (bt a (j : Int)) (-1) = r := ⟨_, rfl⟩
      rw [hst] at HS hn he
      simp only at HS hn he
      have e : bt a (j : Int) = ((a[j]'hlt).toNat : Int) := by simp [bt, hlt]
      rw [e] at HS
      have HN := Aside0.mk hn
      have HE2 := Aside0.mk he
      have HLT := Aside0.mk hlt
      have HJ := Aside0.mk hj
      clear hst hn he e hj
      cases b
      all_goals
        go_wp2_with (go_at_call 56; refine HS.out.mono ?_; rintro e W3 ⟨rfl, hg3, hb3⟩; have HG3 := Aside0.mk hg3; have HB3 := Aside0.mk (HB.out.trans hb3); clear hg3 hb3)
      · go_ret2
        rw [HE2.out, if_neg (by simp)]
        exact ⟨rfl, HB3.out⟩
      · go_roundw
        case rel => exact ⟨j + 1, d, t0, t1, t2, by go_num, by have := HJ.out; omega, HN.out.1, HN.out.2, ⟨by rw [HE2.out]; simp⟩, HG3, HB3⟩
        case measure => have := HLT.out; simp [intOf]; omega
end Go.Proofs.Ytcgpfclmcajekaa.Utf
