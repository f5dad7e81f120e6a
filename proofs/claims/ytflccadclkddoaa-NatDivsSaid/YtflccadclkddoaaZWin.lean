-- Out of texts of this seat by a program of this session: what the claim does not reach is struck
import Derived.Test.YtflccadclkddoaaProg
import Derived.Test.YtflccadclkddoaaZWMore
import Derived.Test.YtflccadclkddoaaZWAt
import Derived.Laws.Slices
namespace Go.Proofs.Ytflccadclkddoaa.Win
open Go Go.RowKit Go.Proofs.YtflccadclkddoaaW.PrintWords Go.Proofs.YtflccadclkddoaaW.PrintLast Go.Proofs.YtflccadclkddoaaW.PrintMore
set_option linter.unusedVariables false
theorem info52 : (Try.prog.info? 52).map (fun i => (i.zero, i.size, i.bytes)) = some (some (.int .u32 0), 1, 4) := by kernel_rfl
def WR (pre post : List Int) (off cc : Nat) (w : World) (base : Nat) (ok : Nat → Prop) (v : Value) (xs : List Int) : Prop :=
  (∀ k, v.ownBlock = some k → ok k) ∧ pre.length = off ∧ ∃ g c, v = .slice (some ⟨g, off, none⟩) xs.length c ∧ xs.length ≤ c ∧ (Kd.int .u32).R 52 w base ok (.slice (some ⟨g, 0, none⟩) (pre ++ xs ++ post).length cc) (pre ++ xs ++ post)
section
variable {pre post xs : List Int} {off cc base n c g m : Nat} {w w' : World} {ok ok' : Nat → Prop} {v : Value} {A : Option Addr}
theorem WR_mono (h : WR pre post off cc w base ok v xs) (hok : ∀ k, ok k → ok' k) : WR pre post off cc w base ok' v xs :=
  ⟨fun k hk => hok k (h.1 k hk), h.2.1, let ⟨g, c, h1, h2, h3⟩ := h.2.2; ⟨g, c, h1, h2, Kd.R_mono h3 hok⟩⟩
theorem WR_imp (h : WR pre post off cc w base ok v xs) (hi : ∀ v' ys, (Kd.int .u32).R 52 w base ok v' ys → (Kd.int .u32).R 52 w' base ok v' ys) : WR pre post off cc w' base ok v xs :=
  ⟨h.1, h.2.1, let ⟨g, c, h1, h2, h3⟩ := h.2.2; ⟨g, c, h1, h2, hi _ _ h3⟩⟩
theorem WR_alloc (h : WR pre post off cc w base ok v xs) (o : Obj) : WR pre post off cc (w.alloc o) base ok v xs := WR_imp h (fun _ _ k => Kd.R_alloc k o)
theorem WR_drew (h : WR pre post off cc w base ok v xs) : WR pre post off cc w.drew base ok v xs := WR_imp h (fun _ _ k => Kd.R_drew k)
theorem WR_drewN (h : WR pre post off cc w base ok v xs) (m : Nat) : WR pre post off cc (w.drewN m) base ok v xs := WR_imp h (fun _ _ k => Kd.R_drewN k m)
theorem WR_at (hq : w.drewN m = w') (h : WR pre post off cc w base ok v xs) : WR pre post off cc w' base ok v xs := by subst hq; exact WR_drewN h m
theorem WR_form (h : WR pre post off cc w base ok v xs) (hp : 0 < xs.length) : ∃ g cap, v = .slice (some ⟨g, off, none⟩) xs.length cap ∧ base ≤ g ∧ g < w.heap.size ∧ ∃ cells, w.heap[g]? = some (.cells cells 52 (0, 0)) := by
  obtain ⟨g, c, h1, h2, h3⟩ := h.2.2
  obtain ⟨g', c', e, h4, h5, h6⟩ := Kd.R_form h3 (by simp; omega)
  injection e with e _ _
  injection e with e
  injection e with e _ _
  subst e
  exact ⟨g, c, h1, h4, h5, h6⟩
theorem WR_form2 (h : WR pre post off cc w base ok (.slice (some ⟨g, off, none⟩) n c) xs) (hp : 0 < xs.length) : base ≤ g ∧ g < w.heap.size ∧ ∃ cells, w.heap[g]? = some (.cells cells 52 (0, 0)) := by
  obtain ⟨g', c', e, h4, h5, h6⟩ := WR_form h hp
  injection e with e _ _
  injection e with e
  injection e with e _ _
  subst e
  exact ⟨h4, h5, h6⟩
theorem rd_mid (i : Nat) (hi : i < xs.length) : (pre ++ xs ++ post).getD (pre.length + i) 0 = xs.getD i 0 := by
  simp only [List.getD_eq_getElem?_getD]
  rw [List.append_assoc, List.getElem?_append_right (by omega), Nat.add_sub_cancel_left, List.getElem?_append_left hi]
theorem WR_celln (d : Int) (h : WR pre post off cc w base ok (.slice (some ⟨g, off, none⟩) n c) xs) (i : Int) (h0 : 0 ≤ i) (hi : i < n) : w.cell? ⟨g, off + i.toNat, none⟩ = some (.int .u32 (rdOf d xs i)) ∧ w.frozen? ⟨g, off + i.toNat, none⟩ = false := by
  obtain ⟨h1, rfl, g', c', e, h2, h3⟩ := h
  injection e with e en _
  injection e with e
  injection e with e _ _
  subst e
  subst en
  obtain ⟨q1, q2⟩ := Kd.R_celln d h3 ((pre.length + i.toNat : Nat) : Int) (by omega) (by simp; omega)
  rw [Int.toNat_natCast] at q1 q2
  refine ⟨q1.trans ?_, q2⟩
  unfold rdOf
  rw [Int.toNat_natCast]
  simp only [List.getD_eq_getElem?_getD]
  rw [List.append_assoc, List.getElem?_append_right (by omega), Nat.add_sub_cancel_left, List.getElem?_append_left (by omega)]
theorem set_mid (i : Nat) (x : Int) (hi : i < xs.length) : (pre ++ xs ++ post).set (pre.length + i) x = pre ++ xs.set i x ++ post := by
  rw [List.append_assoc, List.set_append_right _ _ (by omega), Nat.add_sub_cancel_left, List.set_append_left _ _ hi, List.append_assoc]
theorem WR_putg (h : WR pre post off cc w base ok (.slice (some ⟨g, off, none⟩) n c) xs) (i : Int) (h0 : 0 ≤ i) (hi : i < n) (x : Int) :
    WR pre post off cc (w.setCell ⟨g, off + i.toNat, none⟩ (.int .u32 x)) base ok (.slice (some ⟨g, off, none⟩) n c) (xs.set i.toNat x) ∧ w.grownBy (w.setCell ⟨g, off + i.toNat, none⟩ (.int .u32 x)) (some g) := by
  obtain ⟨h1, rfl, g', c', e, h2, h3⟩ := h
  injection e with e en ec
  injection e with e
  injection e with e _ _
  subst e; subst en; subst ec
  obtain ⟨q1, q2⟩ := Kd.R_putg h3 ((pre.length + i.toNat : Nat) : Int) x
  rw [Int.toNat_natCast] at q1 q2
  refine ⟨⟨h1, rfl, g, c, by rw [List.length_set], by rw [List.length_set]; exact h2, ?_⟩, q2⟩
  rw [set_mid _ _ (by omega)] at q1
  have e1 : (pre ++ xs.set i.toNat x ++ post).length = (pre ++ xs ++ post).length := by simp
  rw [e1]
  exact q1
theorem WR_reads' (h : WR pre post off cc w base ok (.slice A n c) xs) : n = xs.length ∧ n ≤ c ∧ (Kd.int .u32).C w A xs.length xs := by
  obtain ⟨h1, rfl, g', c', e, h2, h3⟩ := h
  injection e with e en ec
  subst e; subst en; subst ec
  refine ⟨rfl, h2, ?_⟩
  have hmax := Kd.C_max (Kd.R_reads' h3).2.2
  simp only [List.length_append] at hmax
  refine Kd.C_of_reads (enc := Value.int .u32) (h1 := fun _ => rfl) (d := (0 : Int)) ⟨rfl, by omega, fun hp => ⟨_, rfl, fun j hj => ?_⟩⟩
  obtain ⟨q1, _⟩ := Kd.R_celln (0 : Int) h3 ((pre.length + j : Nat) : Int) (by omega) (by simp; omega)
  rw [Int.toNat_natCast] at q1
  rw [add_at]
  refine q1.trans ?_
  unfold rdOf
  rw [Int.toNat_natCast, rd_mid j hj]
def cutV : Value → Int → Int → Value
  | .slice (some ⟨g, _, _⟩) _ c, a, b => .slice (some ⟨g, a.toNat, none⟩) (b.toNat - a.toNat) (c - a.toNat)
  | v, _, _ => v
theorem run_cutV (h : (Kd.int .u32).R 52 w base ok (.slice A n c) xs) (a b : Int) (h0 : 0 ≤ a) (h1 : a < b) (h2 : b ≤ xs.length) :
    ∀ W : World, (Instr.slice 22 (.slice A n c) (some (.int .i64 a)) (some (.int .i64 b)) none).run Try.prog W = .ok (cutV (.slice A n c) a b) W := by
  intro W
  obtain ⟨hn, hc, _⟩ := Kd.R_reads' h
  obtain ⟨g, c', e, _⟩ := Kd.R_form h (by omega)
  injection e with e _ ec
  subst e
  obtain ⟨i0, hi, hz0, hz1, hz2⟩ := info_parts info52
  have hel : Try.prog.elem 22 = 52 := by simp [Program.elem, Try.underlying22]
  have hu : Try.prog.underlying 22 = some (.slice (Try.prog.elem 22)) := by rw [hel]; exact Try.underlying22
  rw [run_slice_lh W 22 (some ⟨g, 0, none⟩) n c hu .i64 .i64 a b h0 (by omega) (by omega), hel]
  simp [sizeOf, typeInfo, hi, hz1, sliced, Result.andThen, cutV, add_at]
  omega
theorem WR_of_R (h : (Kd.int .u32).R 52 w base ok (.slice A n c) xs) (a b : Int) (h0 : 0 ≤ a) (h1 : a < b) (h2 : b ≤ xs.length) :
    WR (xs.take a.toNat) (xs.drop b.toNat) a.toNat c w base ok (cutV (.slice A n c) a b) ((xs.take b.toNat).drop a.toNat) := by
  obtain ⟨hn, hc, _⟩ := Kd.R_reads' h
  obtain ⟨g, c', e, _⟩ := Kd.R_form h (by omega)
  injection e with e _ ec
  subst e
  have hl : ((xs.take b.toNat).drop a.toNat).length = b.toNat - a.toNat := by rw [List.length_drop, List.length_take]; omega
  have hx : xs.take a.toNat ++ (xs.take b.toNat).drop a.toNat ++ xs.drop b.toNat = xs := by
    have : xs.take a.toNat = (xs.take b.toNat).take a.toNat := by rw [List.take_take, Nat.min_eq_left (by omega)]
    rw [this, List.take_append_drop, List.take_append_drop]
  refine ⟨fun k hk => h.1 k hk, by rw [List.length_take]; omega, g, c - a.toNat, by rw [hl]; rfl, by rw [hl]; omega, ?_⟩
  rw [hx, ← hn]
  exact h
theorem R_of_WR {ys : List Int} (h0 : (Kd.int .u32).R 52 w base ok v xs) (a b : Int) (ha : 0 ≤ a) (h1 : a < b) (h2 : b ≤ xs.length) {cc : Nat} (hv : ∃ A, v = .slice A xs.length cc) (hl : ys.length = ((xs.take b.toNat).drop a.toNat).length)
    (h : WR (xs.take a.toNat) (xs.drop b.toNat) a.toNat cc w' base ok' (cutV v a b) ys) : (Kd.int .u32).R 52 w' base ok' v (xs.take a.toNat ++ ys ++ xs.drop b.toNat) := by
  obtain ⟨A, rfl⟩ := hv
  obtain ⟨g, c', e, _⟩ := Kd.R_form h0 (by omega)
  injection e with e _ ec
  subst e
  obtain ⟨_, _, g', c'', e, _, h3⟩ := h
  simp only [cutV] at e
  injection e with e _ _
  injection e with e
  injection e with e _ _
  subst e
  have hn : (xs.take a.toNat ++ ys ++ xs.drop b.toNat).length = xs.length := by
    simp only [List.length_append, hl, List.length_drop, List.length_take]
    omega
  rw [hn] at h3
  exact h3
end
end Go.Proofs.Ytflccadclkddoaa.Win
