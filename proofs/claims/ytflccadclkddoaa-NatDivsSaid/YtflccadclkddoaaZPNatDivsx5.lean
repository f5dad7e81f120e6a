-- Out of texts of this seat by a program of this session: what the claim does not reach is struck
import Derived.Test.YtflccadclkddoaaZPNatDivsx0
import Derived.Test.YtflccadclkddoaaZPNatDivsx1
namespace Go.Proofs.Ytflccadclkddoaa.PNatDivs
open Go.RowKit Go.Proofs.YtflccadclkddoaaW.PrintWords Go.Proofs.YtflccadclkddoaaW.PrintLast Go.Proofs.YtflccadclkddoaaW.PrintMore
attribute [local go_sem] max2_int min2_int max_two min_two max_three min_three max_four min_four
set_option linter.unusedVariables false
set_option linter.unusedSimpArgs false
mutual
def nat_digitw.j2 : Nat → List Int → List Int → Int → Int → Option (Int × List Int)
  | 0, _, _, _, _ => none
  | k + 1, x0, x1, x5, x7 => nat_digitw.l1 k x0 x1 x5 x7 0 0 (x0.length : Int) 0
def nat_digitw.l1 : Nat → List Int → List Int → Int → Int → Int → Int → Int → Int → Option (Int × List Int)
  | 0, _, _, _, _, _, _, _, _ => none
  | k + 1, x0, x1, x5, x7, x9, x10, x82, x83 => if x83 < x82 then (if x83 < x5 then (if 0 ≤ x83 then (if x83 < (x1.length : Int) then (if x83 < (x0.length : Int) then (nat_digitw.l1 k (x0.set (x83 : Int).toNat ((IntKind.u64.wrap ((IntKind.u64.wrap ((IntKind.u64.wrap (rd x0 x83)) - (Go.bits .and .u64 (IntKind.u64.wrap (x9 + (IntKind.u64.wrap (x7 * (IntKind.u64.wrap (rd x1 x83)))))) 4294967295))) - x10)) % 4294967296)) x1 x5 x7 ((IntKind.u64.wrap (x9 + (IntKind.u64.wrap (x7 * (IntKind.u64.wrap (rd x1 x83)))))) / 4294967296) ((IntKind.u64.wrap ((IntKind.u64.wrap ((IntKind.u64.wrap (rd x0 x83)) - (Go.bits .and .u64 (IntKind.u64.wrap (x9 + (IntKind.u64.wrap (x7 * (IntKind.u64.wrap (rd x1 x83)))))) 4294967295))) - x10)) / 9223372036854775808) x82 (wrap64 (x83 + 1))) else (none)) else (none)) else (none)) else (if 0 ≤ x83 then (if x83 < (x0.length : Int) then (nat_digitw.l1 k (x0.set (x83 : Int).toNat ((IntKind.u64.wrap ((IntKind.u64.wrap ((IntKind.u64.wrap (rd x0 x83)) - (Go.bits .and .u64 x9 4294967295))) - x10)) % 4294967296)) x1 x5 x7 (x9 / 4294967296) ((IntKind.u64.wrap ((IntKind.u64.wrap ((IntKind.u64.wrap (rd x0 x83)) - (Go.bits .and .u64 x9 4294967295))) - x10)) / 9223372036854775808) x82 (wrap64 (x83 + 1))) else (none)) else (none))) else (if x10 = 0 then (some ((x7) % 4294967296, x0)) else (nat_digitw.l2 k x0 x1 x5 x7 x9 (x0.length : Int) 0))
def nat_digitw.l2 : Nat → List Int → List Int → Int → Int → Int → Int → Int → Option (Int × List Int)
  | 0, _, _, _, _, _, _, _ => none
  | k + 1, x0, x1, x5, x7, x9, x123, x124 => if x124 < x123 then (if 0 ≤ x124 then (if x124 < (x0.length : Int) then (if x124 < x5 then (if x124 < (x1.length : Int) then ((nat_low_uint64.f (IntKind.u64.wrap ((IntKind.u64.wrap (x9 + (IntKind.u64.wrap (rd x0 x124)))) + (IntKind.u64.wrap (rd x1 x124))))).bind fun bt280 => (nat_digitw.l2 k (x0.set (x124 : Int).toNat bt280.1) x1 x5 x7 bt280.2 x123 (wrap64 (x124 + 1)))) else (none)) else ((nat_low_uint64.f (IntKind.u64.wrap (x9 + (IntKind.u64.wrap (rd x0 x124))))).bind fun bt283 => (nat_digitw.l2 k (x0.set (x124 : Int).toNat bt283.1) x1 x5 x7 bt283.2 x123 (wrap64 (x124 + 1))))) else (none)) else (none)) else (some ((IntKind.u64.wrap (x7 - 1)) % 4294967296, x0))
def nat_digitw.l0 : Nat → List Int → List Int → Int → Int → Int → Option (Int × List Int)
  | 0, _, _, _, _, _ => none
  | k + 1, x0, x1, x5, x7, x8 => if (x7 / 4294967296) > 0 then (nat_digitw.j1 k x0 x1 x5 x7 x8 true) else (if 0 ≤ (wrap64 (x5 - 2)) then (if (wrap64 (x5 - 2)) < (x1.length : Int) then (if (wrap64 (x5 - 2)) < (x0.length : Int) then (nat_digitw.j1 k x0 x1 x5 x7 x8 (decide ((IntKind.u64.wrap (x7 * (IntKind.u64.wrap (rd x1 (wrap64 (x5 - 2)))))) > (Go.bits .or .u64 (IntKind.u64.wrap (x8 * 4294967296)) (IntKind.u64.wrap (rd x0 (wrap64 (x5 - 2)))))))) else (none)) else (none)) else (none))
def nat_digitw.j1 : Nat → List Int → List Int → Int → Int → Int → Bool → Option (Int × List Int)
  | 0, _, _, _, _, _, _ => none
  | k + 1, x0, x1, x5, x7, x8, x67 => if x67 = true then (if 0 ≤ (wrap64 (x5 - 1)) then (if (wrap64 (x5 - 1)) < (x1.length : Int) then (if ((IntKind.u64.wrap (x8 + (IntKind.u64.wrap (rd x1 (wrap64 (x5 - 1)))))) / 4294967296) > 0 then (nat_digitw.j2 k x0 x1 x5 (IntKind.u64.wrap (x7 - 1))) else (nat_digitw.l0 k x0 x1 x5 (IntKind.u64.wrap (x7 - 1)) (IntKind.u64.wrap (x8 + (IntKind.u64.wrap (rd x1 (wrap64 (x5 - 1)))))))) else (none)) else (none)) else (nat_digitw.j2 k x0 x1 x5 x7)
end
def nat_digitw.f (k : Nat) (l0 : List Int) (l1 : List Int) : Option (Int × List Int) := if 0 ≤ (l1.length : Int) then (if (l1.length : Int) < (l0.length : Int) then (if 0 ≤ (wrap64 ((l1.length : Int) - 1)) then (if (wrap64 ((l1.length : Int) - 1)) < (l0.length : Int) then (if (wrap64 ((l1.length : Int) - 1)) < (l1.length : Int) then (if (IntKind.u64.wrap (rd l1 (wrap64 ((l1.length : Int) - 1)))) = 0 then (none) else (nat_digitw.l0 k l0 l1 (l1.length : Int) (IntKind.u64.wrap (Int.tdiv (Go.bits .or .u64 (IntKind.u64.wrap ((IntKind.u64.wrap (rd l0 (l1.length : Int))) * 4294967296)) (IntKind.u64.wrap (rd l0 (wrap64 ((l1.length : Int) - 1))))) (IntKind.u64.wrap (rd l1 (wrap64 ((l1.length : Int) - 1)))))) (Int.tmod (Go.bits .or .u64 (IntKind.u64.wrap ((IntKind.u64.wrap (rd l0 (l1.length : Int))) * 4294967296)) (IntKind.u64.wrap (rd l0 (wrap64 ((l1.length : Int) - 1))))) (IntKind.u64.wrap (rd l1 (wrap64 ((l1.length : Int) - 1))))))) else (none)) else (none)) else (none)) else (none)) else (none)
theorem nat_digitw.mono_l : ∀ k, (∀ y0 y1 y2 y3, LeO (nat_digitw.j2 k y0 y1 y2 y3) (nat_digitw.j2 (k + 1) y0 y1 y2 y3)) ∧ (∀ y0 y1 y2 y3 y4 y5 y6 y7, LeO (nat_digitw.l1 k y0 y1 y2 y3 y4 y5 y6 y7) (nat_digitw.l1 (k + 1) y0 y1 y2 y3 y4 y5 y6 y7)) ∧ (∀ y0 y1 y2 y3 y4 y5 y6, LeO (nat_digitw.l2 k y0 y1 y2 y3 y4 y5 y6) (nat_digitw.l2 (k + 1) y0 y1 y2 y3 y4 y5 y6)) ∧ (∀ y0 y1 y2 y3 y4, LeO (nat_digitw.l0 k y0 y1 y2 y3 y4) (nat_digitw.l0 (k + 1) y0 y1 y2 y3 y4)) ∧ (∀ y0 y1 y2 y3 y4 y5, LeO (nat_digitw.j1 k y0 y1 y2 y3 y4 y5) (nat_digitw.j1 (k + 1) y0 y1 y2 y3 y4 y5))
  | 0 => ⟨fun _ _ _ _ r h => by simp [nat_digitw.j2] at h, fun _ _ _ _ _ _ _ _ r h => by simp [nat_digitw.l1] at h, fun _ _ _ _ _ _ _ r h => by simp [nat_digitw.l2] at h, fun _ _ _ _ _ r h => by simp [nat_digitw.l0] at h, fun _ _ _ _ _ _ r h => by simp [nat_digitw.j1] at h⟩
  | k + 1 => by
    obtain ⟨ih0, ih1, ih2, ih3, ih4⟩ := nat_digitw.mono_l k
    refine ⟨?_, ?_, ?_, ?_, ?_⟩
    · intro y0 y1 y2 y3
      unfold nat_digitw.j2
      repeat' first
      | (with_reducible exact ih0 _ _ _ _)
      | (with_reducible exact ih1 _ _ _ _ _ _ _ _)
      | (with_reducible exact ih2 _ _ _ _ _ _ _)
      | (with_reducible exact ih3 _ _ _ _ _)
      | (with_reducible exact ih4 _ _ _ _ _ _)
      | (with_reducible exact LeO.refl _)
      | (with_reducible exact LeO.none _)
      | (with_reducible refine LeO.ite ?_ ?_)
      | (with_reducible refine LeO.bind ?_ (fun _ => ?_))
      | exact ih0 _ _ _ _
      | exact ih1 _ _ _ _ _ _ _ _
      | exact ih2 _ _ _ _ _ _ _
      | exact ih3 _ _ _ _ _
      | exact ih4 _ _ _ _ _ _
      | exact LeO.none _
      | refine LeO.ite ?_ ?_
      | refine LeO.bind ?_ (fun _ => ?_)
    · intro y0 y1 y2 y3 y4 y5 y6 y7
      unfold nat_digitw.l1
      repeat' first
      | (with_reducible exact ih0 _ _ _ _)
      | (with_reducible exact ih1 _ _ _ _ _ _ _ _)
      | (with_reducible exact ih2 _ _ _ _ _ _ _)
      | (with_reducible exact ih3 _ _ _ _ _)
      | (with_reducible exact ih4 _ _ _ _ _ _)
      | (with_reducible exact LeO.refl _)
      | (with_reducible exact LeO.none _)
      | (with_reducible refine LeO.ite ?_ ?_)
      | (with_reducible refine LeO.bind ?_ (fun _ => ?_))
      | exact ih0 _ _ _ _
      | exact ih1 _ _ _ _ _ _ _ _
      | exact ih2 _ _ _ _ _ _ _
      | exact ih3 _ _ _ _ _
      | exact ih4 _ _ _ _ _ _
      | exact LeO.none _
      | refine LeO.ite ?_ ?_
      | refine LeO.bind ?_ (fun _ => ?_)
    · intro y0 y1 y2 y3 y4 y5 y6
      unfold nat_digitw.l2
      repeat' first
      | (with_reducible exact ih0 _ _ _ _)
      | (with_reducible exact ih1 _ _ _ _ _ _ _ _)
      | (with_reducible exact ih2 _ _ _ _ _ _ _)
      | (with_reducible exact ih3 _ _ _ _ _)
      | (with_reducible exact ih4 _ _ _ _ _ _)
      | (with_reducible exact LeO.refl _)
      | (with_reducible exact LeO.none _)
      | (with_reducible refine LeO.ite ?_ ?_)
      | (with_reducible refine LeO.bind ?_ (fun _ => ?_))
      | exact ih0 _ _ _ _
      | exact ih1 _ _ _ _ _ _ _ _
      | exact ih2 _ _ _ _ _ _ _
      | exact ih3 _ _ _ _ _
      | exact ih4 _ _ _ _ _ _
      | exact LeO.none _
      | refine LeO.ite ?_ ?_
      | refine LeO.bind ?_ (fun _ => ?_)
    · intro y0 y1 y2 y3 y4
      unfold nat_digitw.l0
      repeat' first
      | (with_reducible exact ih0 _ _ _ _)
      | (with_reducible exact ih1 _ _ _ _ _ _ _ _)
      | (with_reducible exact ih2 _ _ _ _ _ _ _)
      | (with_reducible exact ih3 _ _ _ _ _)
      | (with_reducible exact ih4 _ _ _ _ _ _)
      | (with_reducible exact LeO.refl _)
      | (with_reducible exact LeO.none _)
      | (with_reducible refine LeO.ite ?_ ?_)
      | (with_reducible refine LeO.bind ?_ (fun _ => ?_))
      | exact ih0 _ _ _ _
      | exact ih1 _ _ _ _ _ _ _ _
      | exact ih2 _ _ _ _ _ _ _
      | exact ih3 _ _ _ _ _
      | exact ih4 _ _ _ _ _ _
      | exact LeO.none _
      | refine LeO.ite ?_ ?_
      | refine LeO.bind ?_ (fun _ => ?_)
    · intro y0 y1 y2 y3 y4 y5
      unfold nat_digitw.j1
      repeat' first
      | (with_reducible exact ih0 _ _ _ _)
      | (with_reducible exact ih1 _ _ _ _ _ _ _ _)
      | (with_reducible exact ih2 _ _ _ _ _ _ _)
      | (with_reducible exact ih3 _ _ _ _ _)
      | (with_reducible exact ih4 _ _ _ _ _ _)
      | (with_reducible exact LeO.refl _)
      | (with_reducible exact LeO.none _)
      | (with_reducible refine LeO.ite ?_ ?_)
      | (with_reducible refine LeO.bind ?_ (fun _ => ?_))
      | exact ih0 _ _ _ _
      | exact ih1 _ _ _ _ _ _ _ _
      | exact ih2 _ _ _ _ _ _ _
      | exact ih3 _ _ _ _ _
      | exact ih4 _ _ _ _ _ _
      | exact LeO.none _
      | refine LeO.ite ?_ ?_
      | refine LeO.bind ?_ (fun _ => ?_)
theorem nat_digitw.mono : ∀ a0 a1 k, LeO (nat_digitw.f k a0 a1) (nat_digitw.f (k + 1) a0 a1) := by
  intro a0 a1 k
  obtain ⟨ih0, ih1, ih2, ih3, ih4⟩ := nat_digitw.mono_l k
  unfold nat_digitw.f
  repeat' first
      | (with_reducible exact ih0 _ _ _ _)
      | (with_reducible exact ih1 _ _ _ _ _ _ _ _)
      | (with_reducible exact ih2 _ _ _ _ _ _ _)
      | (with_reducible exact ih3 _ _ _ _ _)
      | (with_reducible exact ih4 _ _ _ _ _ _)
      | (with_reducible exact LeO.refl _)
      | (with_reducible exact LeO.none _)
      | (with_reducible refine LeO.ite ?_ ?_)
      | (with_reducible refine LeO.bind ?_ (fun _ => ?_))
      | exact ih0 _ _ _ _
      | exact ih1 _ _ _ _ _ _ _ _
      | exact ih2 _ _ _ _ _ _ _
      | exact ih3 _ _ _ _ _
      | exact ih4 _ _ _ _ _ _
      | exact LeO.none _
      | refine LeO.ite ?_ ?_
      | refine LeO.bind ?_ (fun _ => ?_)
set_option maxHeartbeats 8000000 in
set_option maxRecDepth 100000 in
theorem nat_digitw.calls (pre_ post_ : List Int) (off_ cc_ : Nat) (k : Nat) (P0_ : Nat → Prop) (u9000_ : Value) (l0 : List Int) (A1 : Option Addr) (c1 : Nat) (l1 : List Int) (r1 : Int) (r2 : List Int) (w0 w : World) (hB : Below w0.heap.size w0 w) (ho0 : Win.WR pre_ post_ off_ cc_ w w0.heap.size P0_ u9000_ l0) (hr1 : ∀ W_, Kept w W_ (fun k_ => P0_ k_) → Kd.C (Kd.int .u32) W_ A1 l1.length l1) (hc1 : l1.length ≤ c1) (h : nat_digitw.f k l0 l1 = some (r1, r2)) :
    Calls Try.prog 60 #[u9000_, .slice A1 l1.length c1] w fun e w' => e = .returned (.int .u32 r1) ∧ Win.WR pre_ post_ off_ cc_ w' w0.heap.size (fun k_ => (P0_ k_ ∨ w.heap.size ≤ k_)) u9000_ r2 ∧ Below w0.heap.size w0 w' ∧ Kept w w' (fun k_ => P0_ k_) := by
  have HO0 := Aside0.mk (show Win.WR pre_ post_ off_ cc_ w w0.heap.size (fun k_ => (P0_ k_ ∨ w.heap.size ≤ k_)) u9000_ l0 from Win.WR_mono ho0 (fun k_ hk => (.inl hk)))
  have HR1 := Aside0.mk hr1
  have HC1 := Aside0.mk hc1
  clear hr1 hc1
  have HK := Aside0.mk (Kept.refl w (fun k_ => P0_ k_))
  have HW0 := Aside0.mk hB.size
  have HB := Aside0.mk hB
  clear hB
  have H : (if 0 ≤ (l1.length : Int) then (if (l1.length : Int) < (l0.length : Int) then (if 0 ≤ (wrap64 ((l1.length : Int) - 1)) then (if (wrap64 ((l1.length : Int) - 1)) < (l0.length : Int) then (if (wrap64 ((l1.length : Int) - 1)) < (l1.length : Int) then (if (IntKind.u64.wrap (rd l1 (wrap64 ((l1.length : Int) - 1)))) = 0 then (none) else (nat_digitw.l0 k l0 l1 (l1.length : Int) (IntKind.u64.wrap (Int.tdiv (Go.bits .or .u64 (IntKind.u64.wrap ((IntKind.u64.wrap (rd l0 (l1.length : Int))) * 4294967296)) (IntKind.u64.wrap (rd l0 (wrap64 ((l1.length : Int) - 1))))) (IntKind.u64.wrap (rd l1 (wrap64 ((l1.length : Int) - 1)))))) (Int.tmod (Go.bits .or .u64 (IntKind.u64.wrap ((IntKind.u64.wrap (rd l0 (l1.length : Int))) * 4294967296)) (IntKind.u64.wrap (rd l0 (wrap64 ((l1.length : Int) - 1))))) (IntKind.u64.wrap (rd l1 (wrap64 ((l1.length : Int) - 1))))))) else (none)) else (none)) else (none)) else (none)) else (none)) = some (r1, r2) := h
  clear h
  by_cases c3 : 0 ≤ (l1.length : Int)
  · rw [if_pos c3] at H
    have c3b0 : decide (0 ≤ (l1.length : Int)) = true := decide_eq_true c3
    have c3b1 : decide (0 ≤ l1.length) = true := decide_eq_true (by omega)
    clear c3
    by_cases c4 : (l1.length : Int) < (l0.length : Int)
    · rw [if_pos c4] at H
      have c4b0 : decide ((l1.length : Int) < (l0.length : Int)) = true := decide_eq_true c4
      have c4b1 : decide (l1.length < l0.length) = true := decide_eq_true (Int.ofNat_lt.mp c4)
      clear c4
      obtain ⟨ji5, hji5⟩ : ∃ j_ : Int, (wrap64 ((l1.length : Int) - 1)) = j_ := ⟨_, rfl⟩
      replace H : (if 0 ≤ (ji5) then (if (ji5) < (l0.length : Int) then (if (ji5) < (l1.length : Int) then (if (IntKind.u64.wrap (rd l1 (ji5))) = 0 then (none) else (nat_digitw.l0 k l0 l1 (l1.length : Int) (IntKind.u64.wrap (Int.tdiv (Go.bits .or .u64 (IntKind.u64.wrap ((IntKind.u64.wrap (rd l0 (l1.length : Int))) * 4294967296)) (IntKind.u64.wrap (rd l0 (ji5)))) (IntKind.u64.wrap (rd l1 (ji5))))) (Int.tmod (Go.bits .or .u64 (IntKind.u64.wrap ((IntKind.u64.wrap (rd l0 (l1.length : Int))) * 4294967296)) (IntKind.u64.wrap (rd l0 (ji5)))) (IntKind.u64.wrap (rd l1 (ji5)))))) else (none)) else (none)) else (none)) = some (r1, r2) := by first | (rw [hji5] at H; exact H) | (simp only [hji5] at H ⊢; exact H)
      have hji5w : (IntKind.i64.wrap ((l1.length : Int) - 1)) = ji5 := (i64_w _).trans hji5
      by_cases c6 : 0 ≤ (ji5)
      · rw [if_pos c6] at H
        have c6b0 : decide (0 ≤ (ji5)) = true := decide_eq_true c6
        clear c6
        by_cases c7 : (ji5) < (l0.length : Int)
        · rw [if_pos c7] at H
          have c7b0 : decide ((ji5) < (l0.length : Int)) = true := decide_eq_true c7
          clear c7
          by_cases c8 : (ji5) < (l1.length : Int)
          · rw [if_pos c8] at H
            have c8b0 : decide ((ji5) < (l1.length : Int)) = true := decide_eq_true c8
            clear c8
            by_cases c9 : (IntKind.u64.wrap (rd l1 (ji5))) = 0
            · rw [if_pos c9] at H
              exact absurd H (by simp)
            · rw [if_neg c9] at H
              have c9b0 : ((IntKind.u64.wrap (rd l1 (ji5))) == 0) = false := beq_eq_false_iff_ne.mpr c9
              have c9b1 : ((IntKind.u64.wrap (rd l1 (ji5))) != 0) = true := bne_iff_ne.mpr c9
              have HC10 := Aside0.mk H
              clear H
              obtain ⟨gq_, co11, eo11, -, -, -⟩ := Win.WR_form HO0.out (by have := of_decide_eq_true (show decide ((l1.length : Int) < (l0.length : Int)) = true by assumption); omega)
              subst eo11
              have p266 : 0 ≤ ((l1.length : Int) : Int) := of_decide_eq_true (by first | (with_reducible assumption) | assumption)
              have q266 : (l1.length : Int) < (l0.length : Int) := of_decide_eq_true (by first | (with_reducible assumption) | assumption)
              obtain ⟨ad266, e266, hx266_0⟩ := Kd.at_int (Win.WR_reads' HO0.out).2.2 (l1.length : Int) p266 q266
              cases e266
              (try simp only [add_at] at hx266_0)
              (try simp only [Go.IntWalk.toNatUp] at hx266_0)
              replace p266 := eq_true p266
              replace q266 := eq_true q266
              have p267 : 0 ≤ ((ji5) : Int) := of_decide_eq_true (by first | (with_reducible assumption) | assumption)
              have q267 : (ji5) < (l0.length : Int) := of_decide_eq_true (by first | (with_reducible assumption) | assumption)
              obtain ⟨ad267, e267, hx267_0⟩ := Kd.at_int (Win.WR_reads' HO0.out).2.2 (ji5) p267 q267
              obtain rfl : (⟨gq_, off_, none⟩ : Addr) = ad267 := (by injection e267)
              (try simp only [add_at] at hx267_0)
              replace p267 := eq_true p267
              replace q267 := eq_true q267
              have p268 : 0 ≤ ((ji5) : Int) := of_decide_eq_true (by first | (with_reducible assumption) | assumption)
              have q268 : (ji5) < (l1.length : Int) := of_decide_eq_true (by first | (with_reducible assumption) | assumption)
              obtain ⟨ad268, e268, hx268_0⟩ := Kd.at_int (Kd.C_kept_now HR1.out HK.out) (ji5) p268 q268
              cases e268
              replace p268 := eq_true p268
              replace q268 := eq_true q268
              have p269 : 0 ≤ ((ji5) : Int) := of_decide_eq_true (by first | (with_reducible assumption) | assumption)
              have q269 : (ji5) < (l1.length : Int) := of_decide_eq_true (by first | (with_reducible assumption) | assumption)
              obtain ⟨ad269, e269, hx269_0⟩ := Kd.at_int (Kd.C_kept_now HR1.out HK.out) (ji5) p269 q269
              obtain rfl : ad268 = ad269 := (by injection e269)
              replace p269 := eq_true p269
              replace q269 := eq_true q269
              go_enter Try.func60, Try.ntmps60
              go_upto_block 0 with (fail)
              repeat (go_quiet (fail); go_upto_block 0 with (fail))
              go_cut [7] (fun v7 wc => ∃ (kq : Nat) (x7_9 : Int), v7 = .int .u64 x7_9 ∧ Aside0 (nat_digitw.j2 kq l0 l1 (l1.length : Int) x7_9 = some (r1, r2)) ∧ Aside0 (kq ≤ k) ∧ Aside0 (Win.WR pre_ post_ off_ cc_ wc w0.heap.size (fun k_ => (P0_ k_ ∨ w.heap.size ≤ k_)) (.slice (some (⟨gq_, off_, none⟩ : Addr)) l0.length co11) l0) ∧ Aside0 (Kept w wc (fun k_ => P0_ k_)) ∧ Aside0 (Below w0.heap.size w0 wc))
              case first =>
                have H := HC10.out
                clear HC10
                have H' := Aside0.mk H
                clear H
                go_wp2
                repeat (go_quiet (fail); try go_wp2)
                go_loopg [7, 8] k (fun kq v7 v8 w' => ∃ (x7_1 : Int) (x8_1 : Int), v7 = .int .u64 x7_1 ∧ v8 = .int .u64 x8_1 ∧ Aside0 (nat_digitw.l0 kq l0 l1 (l1.length : Int) x7_1 x8_1 = some (r1, r2)) ∧ Aside0 (kq ≤ k) ∧ Aside0 (Win.WR pre_ post_ off_ cc_ w' w0.heap.size (fun k_ => (P0_ k_ ∨ w.heap.size ≤ k_)) (.slice (some (⟨gq_, off_, none⟩ : Addr)) l0.length co11) l0) ∧ Aside0 (Kept w w' (fun k_ => P0_ k_)) ∧ Aside0 (Below w0.heap.size w0 w'))
                case atStart => exact ⟨(IntKind.u64.wrap (Int.tdiv (Go.bits .or .u64 (IntKind.u64.wrap ((IntKind.u64.wrap (rd l0 (l1.length : Int))) * 4294967296)) (IntKind.u64.wrap (rd l0 (ji5)))) (IntKind.u64.wrap (rd l1 (ji5))))), (Int.tmod (Go.bits .or .u64 (IntKind.u64.wrap ((IntKind.u64.wrap (rd l0 (l1.length : Int))) * 4294967296)) (IntKind.u64.wrap (rd l0 (ji5)))) (IntKind.u64.wrap (rd l1 (ji5)))), (by first | rfl | (simp; done) | (simp only [← hji5] <;> (first | rfl | simp)) | (simp [*]; done)), (by first | rfl | (simp; done) | (simp only [← hji5] <;> (first | rfl | simp)) | (simp [*]; done)), H', ⟨Nat.le_refl _⟩, ⟨by (with_reducible repeat (first | apply Win.WR_alloc | apply Win.WR_drewN | apply Win.WR_drew)); exact HO0.out⟩, ⟨by repeat (first | (with_reducible first | exact HK.out | apply Kept.alloc | apply Kept.drewN | apply Kept.drew) | exact HK.out)⟩, ⟨by repeat (first | (with_reducible first | exact HB.out | apply below_alloc | apply pw_below_drewN | apply below_drew1) | exact HB.out)⟩⟩
                case round =>
                  clear H'
                  try clear c1
                  try clear p2
                  try clear q2
                  try clear hx2
                  try clear c3
                  try clear c3b0
                  try clear c3b1
                  try clear c4
                  try clear c4b0
                  try clear c4b1
                  try clear c6
                  try clear c6b0
                  try clear p6
                  try clear c7
                  try clear c7b0
                  try clear c8
                  try clear c8b0
                  try clear c9
                  try clear c9b0
                  try clear c9b1
                  try clear hx266_0
                  try clear hx267_0
                  try clear hx268_0
                  try clear hx269_0
                  try clear p266
                  try clear p267
                  try clear p268
                  try clear p269
                  try clear q266
                  try clear q267
                  try clear q268
                  try clear q269
                  obtain ⟨x7_1, x8_1, rfl, rfl, HA, HK1, HO_0, HK, HB⟩ := hrel
                  cases gk with
                  | zero => exact absurd HA.out (by simp [nat_digitw.l0])
                  | succ k1 =>
                    have H := HA.out
                    clear HA
                    simp only [nat_digitw.l0] at H
                    have HC12 := Aside0.mk H
                    clear H
                    go_upto_region 4 with (fail)
                    repeat (go_quiet (fail); go_upto_region 4 with (fail))
                    go_cut [67] (fun v67 wc => ∃ (kq : Nat) (x67_11 : Bool), v67 = .bool x67_11 ∧ Aside0 (nat_digitw.j1 kq l0 l1 (l1.length : Int) x7_1 x8_1 x67_11 = some (r1, r2)) ∧ Aside0 (kq ≤ k1) ∧ Aside0 (Win.WR pre_ post_ off_ cc_ wc w0.heap.size (fun k_ => (P0_ k_ ∨ w.heap.size ≤ k_)) (.slice (some (⟨gq_, off_, none⟩ : Addr)) l0.length co11) l0) ∧ Aside0 (Kept w wc (fun k_ => P0_ k_)) ∧ Aside0 (Below w0.heap.size w0 wc))
                    case first =>
                      have H := HC12.out
                      clear HC12
                      by_cases c13 : (x7_1 / 4294967296) > 0
                      · rw [if_pos c13] at H
                        have c13b0 : decide (0 < (x7_1 / 4294967296)) = true := decide_eq_true c13
                        clear c13
                        (first | rw [c13b0] | (simp only [i64_w, i32_w]; rw [c13b0]) | skip)
                        have H' := Aside0.mk H
                        clear H
                        go_wp2
                        repeat (go_quiet (fail); try go_wp2)
                        go_meet
                        case rel => exact ⟨_, (true), (by first | rfl | (simp; done) | (simp [*]; done) | (simp [*] <;> decide +kernel)), H', ⟨by have := HK1.out; first | omega | exact Nat.le_refl _⟩, ⟨by (with_reducible repeat (first | apply Win.WR_alloc | apply Win.WR_drewN | apply Win.WR_drew)); exact HO_0.out⟩, ⟨by repeat (first | (with_reducible first | exact HK.out | apply Kept.alloc | apply Kept.drewN | apply Kept.drew) | exact HK.out)⟩, ⟨by repeat (first | (with_reducible first | exact HB.out | apply below_alloc | apply pw_below_drewN | apply below_drew1) | exact HB.out)⟩⟩
                      · rw [if_neg c13] at H
                        have c13b0 : decide (0 < (x7_1 / 4294967296)) = false := decide_eq_false c13
                        clear c13
                        (first | rw [c13b0] | (simp only [i64_w, i32_w]; rw [c13b0]) | skip)
                        obtain ⟨ji14, hji14⟩ : ∃ j_ : Int, (wrap64 ((l1.length : Int) - 2)) = j_ := ⟨_, rfl⟩
                        replace H : (if 0 ≤ (ji14) then (if (ji14) < (l1.length : Int) then (if (ji14) < (l0.length : Int) then (nat_digitw.j1 k1 l0 l1 (l1.length : Int) x7_1 x8_1 (decide ((IntKind.u64.wrap (x7_1 * (IntKind.u64.wrap (rd l1 (ji14))))) > (Go.bits .or .u64 (IntKind.u64.wrap (x8_1 * 4294967296)) (IntKind.u64.wrap (rd l0 (ji14))))))) else (none)) else (none)) else (none)) = some (r1, r2) := by first | (rw [hji14] at H; exact H) | (simp only [hji14] at H ⊢; exact H)
                        have hji14w : (IntKind.i64.wrap ((l1.length : Int) - 2)) = ji14 := (i64_w _).trans hji14
                        by_cases c15 : 0 ≤ (ji14)
                        · rw [if_pos c15] at H
                          have c15b0 : decide (0 ≤ (ji14)) = true := decide_eq_true c15
                          clear c15
                          by_cases c16 : (ji14) < (l1.length : Int)
                          · rw [if_pos c16] at H
                            have c16b0 : decide ((ji14) < (l1.length : Int)) = true := decide_eq_true c16
                            clear c16
                            by_cases c17 : (ji14) < (l0.length : Int)
                            · rw [if_pos c17] at H
                              have c17b0 : decide ((ji14) < (l0.length : Int)) = true := decide_eq_true c17
                              clear c17
                              have H' := Aside0.mk H
                              clear H
                              have p270 : 0 ≤ ((ji14) : Int) := of_decide_eq_true (by first | (with_reducible assumption) | assumption)
                              have q270 : (ji14) < (l1.length : Int) := of_decide_eq_true (by first | (with_reducible assumption) | assumption)
                              obtain ⟨ad270, e270, hx270_0⟩ := Kd.at_int (Kd.C_kept_now HR1.out HK.out) (ji14) p270 q270
                              obtain rfl : ad268 = ad270 := (by injection e270)
                              replace p270 := eq_true p270
                              replace q270 := eq_true q270
                              have p271 : 0 ≤ ((ji14) : Int) := of_decide_eq_true (by first | (with_reducible assumption) | assumption)
                              have q271 : (ji14) < (l0.length : Int) := of_decide_eq_true (by first | (with_reducible assumption) | assumption)
                              obtain ⟨ad271, e271, hx271_0⟩ := Kd.at_int (Win.WR_reads' HO_0.out).2.2 (ji14) p271 q271
                              obtain rfl : (⟨gq_, off_, none⟩ : Addr) = ad271 := (by injection e271)
                              (try simp only [add_at] at hx271_0)
                              replace p271 := eq_true p271
                              replace q271 := eq_true q271
                              go_wp2
                              repeat (go_quiet (fail); try go_wp2)
                              go_meet
                              case rel => exact ⟨_, (decide ((IntKind.u64.wrap (x7_1 * (IntKind.u64.wrap (rd l1 (ji14))))) > (Go.bits .or .u64 (IntKind.u64.wrap (x8_1 * 4294967296)) (IntKind.u64.wrap (rd l0 (ji14)))))), (by first | rfl | (simp; done) | (simp only [← hji14] <;> (first | rfl | simp)) | (simp [*]; done)), H', ⟨by have := HK1.out; first | omega | exact Nat.le_refl _⟩, ⟨by (with_reducible repeat (first | apply Win.WR_alloc | apply Win.WR_drewN | apply Win.WR_drew)); exact HO_0.out⟩, ⟨by repeat (first | (with_reducible first | exact HK.out | apply Kept.alloc | apply Kept.drewN | apply Kept.drew) | exact HK.out)⟩, ⟨by repeat (first | (with_reducible first | exact HB.out | apply below_alloc | apply pw_below_drewN | apply below_drew1) | exact HB.out)⟩⟩
                            · rw [if_neg c17] at H
                              exact absurd H (by simp)
                          · rw [if_neg c16] at H
                            exact absurd H (by simp)
                        · rw [if_neg c15] at H
                          exact absurd H (by simp)
                    case rest =>
                      clear HC12
                      try clear c1
                      try clear p2
                      try clear q2
                      try clear hx2
                      try clear c3
                      try clear c3b0
                      try clear c3b1
                      try clear c4
                      try clear c4b0
                      try clear c4b1
                      try clear c6
                      try clear c6b0
                      try clear p6
                      try clear c7
                      try clear c7b0
                      try clear c8
                      try clear c8b0
                      try clear c9
                      try clear c9b0
                      try clear c9b1
                      try clear c13
                      try clear c13b0
                      try clear c15
                      try clear c15b0
                      try clear c16
                      try clear c16b0
                      try clear c17
                      try clear c17b0
                      try clear hx266_0
                      try clear hx267_0
                      try clear hx268_0
                      try clear hx269_0
                      try clear hx270_0
                      try clear hx271_0
                      try clear p2
                      try clear p266
                      try clear p267
                      try clear p268
                      try clear p269
                      try clear p270
                      try clear p271
                      try clear p6
                      try clear q2
                      try clear q266
                      try clear q267
                      try clear q268
                      try clear q269
                      try clear q270
                      try clear q271
                      obtain ⟨kq, x67_11, rfl, HA, HJ11, HO_0, HK, HB⟩ := hcut
                      cases kq with
                      | zero => exact absurd HA.out (by simp [nat_digitw.j1])
                      | succ kj11 =>
                        have H := HA.out
                        clear HA
                        simp only [nat_digitw.j1] at H
                        by_cases c18 : x67_11 = true
                        · subst c18
                          have H1 : (if 0 ≤ (wrap64 ((l1.length : Int) - 1)) then (if (wrap64 ((l1.length : Int) - 1)) < (l1.length : Int) then (if ((IntKind.u64.wrap (x8_1 + (IntKind.u64.wrap (rd l1 (wrap64 ((l1.length : Int) - 1)))))) / 4294967296) > 0 then (nat_digitw.j2 kj11 l0 l1 (l1.length : Int) (IntKind.u64.wrap (x7_1 - 1))) else (nat_digitw.l0 kj11 l0 l1 (l1.length : Int) (IntKind.u64.wrap (x7_1 - 1)) (IntKind.u64.wrap (x8_1 + (IntKind.u64.wrap (rd l1 (wrap64 ((l1.length : Int) - 1)))))))) else (none)) else (none)) = some (r1, r2) := by rw [if_pos rfl] at H; exact H
                          clear H
                          have H := H1
                          clear H1
                          obtain ⟨ji19, hji19⟩ : ∃ j_ : Int, (wrap64 ((l1.length : Int) - 1)) = j_ := ⟨_, rfl⟩
                          replace H : (if 0 ≤ (ji19) then (if (ji19) < (l1.length : Int) then (if ((IntKind.u64.wrap (x8_1 + (IntKind.u64.wrap (rd l1 (ji19))))) / 4294967296) > 0 then (nat_digitw.j2 kj11 l0 l1 (l1.length : Int) (IntKind.u64.wrap (x7_1 - 1))) else (nat_digitw.l0 kj11 l0 l1 (l1.length : Int) (IntKind.u64.wrap (x7_1 - 1)) (IntKind.u64.wrap (x8_1 + (IntKind.u64.wrap (rd l1 (ji19))))))) else (none)) else (none)) = some (r1, r2) := by first | (rw [hji19] at H; exact H) | (simp only [hji19] at H ⊢; exact H)
                          have hji19w : (IntKind.i64.wrap ((l1.length : Int) - 1)) = ji19 := (i64_w _).trans hji19
                          (try clear hji5w)
                          by_cases c20 : 0 ≤ (ji19)
                          · rw [if_pos c20] at H
                            have c20b0 : decide (0 ≤ (ji19)) = true := decide_eq_true c20
                            clear c20
                            by_cases c21 : (ji19) < (l1.length : Int)
                            · rw [if_pos c21] at H
                              have c21b0 : decide ((ji19) < (l1.length : Int)) = true := decide_eq_true c21
                              clear c21
                              by_cases c22 : ((IntKind.u64.wrap (x8_1 + (IntKind.u64.wrap (rd l1 (ji19))))) / 4294967296) > 0
                              · rw [if_pos c22] at H
                                have c22b0 : decide (0 < ((IntKind.u64.wrap (x8_1 + (IntKind.u64.wrap (rd l1 (ji19))))) / 4294967296)) = true := decide_eq_true c22
                                clear c22
                                have H' := Aside0.mk H
                                clear H
                                have p272 : 0 ≤ ((ji19) : Int) := of_decide_eq_true (by first | (with_reducible assumption) | assumption)
                                have q272 : (ji19) < (l1.length : Int) := of_decide_eq_true (by first | (with_reducible assumption) | assumption)
                                obtain ⟨ad272, e272, hx272_0⟩ := Kd.at_int (Kd.C_kept_now HR1.out HK.out) (ji19) p272 q272
                                obtain rfl : ad268 = ad272 := (by injection e272)
                                replace p272 := eq_true p272
                                replace q272 := eq_true q272
                                go_wp2
                                repeat (go_quiet (fail); try go_wp2)
                                go_meet
                                case rel => exact ⟨_, (IntKind.u64.wrap (x7_1 - 1)), (by first | rfl | (simp; done) | (simp [*]; done) | (simp [*] <;> decide +kernel)), H', ⟨by have := HK1.out; have := HJ11.out; first | omega | exact Nat.le_refl _⟩, ⟨by (with_reducible repeat (first | apply Win.WR_alloc | apply Win.WR_drewN | apply Win.WR_drew)); exact HO_0.out⟩, ⟨by repeat (first | (with_reducible first | exact HK.out | apply Kept.alloc | apply Kept.drewN | apply Kept.drew) | exact HK.out)⟩, ⟨by repeat (first | (with_reducible first | exact HB.out | apply below_alloc | apply pw_below_drewN | apply below_drew1) | exact HB.out)⟩⟩
                              · rw [if_neg c22] at H
                                have c22b0 : decide (0 < ((IntKind.u64.wrap (x8_1 + (IntKind.u64.wrap (rd l1 (ji19))))) / 4294967296)) = false := decide_eq_false c22
                                clear c22
                                have H' := Aside0.mk H
                                clear H
                                have p272 : 0 ≤ ((ji19) : Int) := of_decide_eq_true (by first | (with_reducible assumption) | assumption)
                                have q272 : (ji19) < (l1.length : Int) := of_decide_eq_true (by first | (with_reducible assumption) | assumption)
                                obtain ⟨ad272, e272, hx272_0⟩ := Kd.at_int (Kd.C_kept_now HR1.out HK.out) (ji19) p272 q272
                                obtain rfl : ad268 = ad272 := (by injection e272)
                                replace p272 := eq_true p272
                                replace q272 := eq_true q272
                                go_wp2
                                repeat (go_quiet (fail); try go_wp2)
                                go_roundg kj11
                                case measure => have := HK1.out; have := HJ11.out; omega
                                case rel => exact ⟨(IntKind.u64.wrap (x7_1 - 1)), (IntKind.u64.wrap (x8_1 + (IntKind.u64.wrap (rd l1 (ji19))))), (by first | rfl | (simp; done) | (simp [*]; done) | (simp [*] <;> decide +kernel)), (by first | rfl | (simp; done) | (simp only [← hji19] <;> (first | rfl | simp)) | (simp [*]; done)), H', ⟨by have := HK1.out; have := HJ11.out; omega⟩, ⟨by (with_reducible repeat (first | apply Win.WR_alloc | apply Win.WR_drewN | apply Win.WR_drew)); exact HO_0.out⟩, ⟨by repeat (first | (with_reducible first | exact HK.out | apply Kept.alloc | apply Kept.drewN | apply Kept.drew) | exact HK.out)⟩, ⟨by repeat (first | (with_reducible first | exact HB.out | apply below_alloc | apply pw_below_drewN | apply below_drew1) | exact HB.out)⟩⟩
                            · rw [if_neg c21] at H
                              exact absurd H (by simp)
                          · rw [if_neg c20] at H
                            exact absurd H (by simp)
                        · replace c18 := Bool.eq_false_iff.mpr c18
                          subst c18
                          have H1 : (nat_digitw.j2 kj11 l0 l1 (l1.length : Int) x7_1) = some (r1, r2) := by rw [if_neg (show ¬ (false = true) by decide)] at H; exact H
                          clear H
                          have H := H1
                          clear H1
                          have H' := Aside0.mk H
                          clear H
                          go_wp2
                          repeat (go_quiet (fail); try go_wp2)
                          go_meet
                          case rel => exact ⟨_, (x7_1), (by first | rfl | (simp; done) | (simp [*]; done) | (simp [*] <;> decide +kernel)), H', ⟨by have := HK1.out; have := HJ11.out; first | omega | exact Nat.le_refl _⟩, ⟨by (with_reducible repeat (first | apply Win.WR_alloc | apply Win.WR_drewN | apply Win.WR_drew)); exact HO_0.out⟩, ⟨by repeat (first | (with_reducible first | exact HK.out | apply Kept.alloc | apply Kept.drewN | apply Kept.drew) | exact HK.out)⟩, ⟨by repeat (first | (with_reducible first | exact HB.out | apply below_alloc | apply pw_below_drewN | apply below_drew1) | exact HB.out)⟩⟩
              case rest =>
                clear HC10
                try clear c1
                try clear c2
                try clear p2
                try clear q2
                try clear hx2
                try clear c3
                try clear c3b0
                try clear c3b1
                try clear c4
                try clear c4b0
                try clear c4b1
                try clear c6
                try clear c6b0
                try clear p6
                try clear c7
                try clear c7b0
                try clear c8
                try clear c8b0
                try clear c9
                try clear c9b0
                try clear c9b1
                try clear c13
                try clear c13b0
                try clear c15
                try clear c15b0
                try clear c16
                try clear c16b0
                try clear c17
                try clear c17b0
                try clear c18
                try clear c20
                try clear c20b0
                try clear c21
                try clear c21b0
                try clear c22
                try clear c22b0
                try clear hx266_0
                try clear hx267_0
                try clear hx268_0
                try clear hx269_0
                try clear hx270_0
                try clear hx271_0
                try clear hx272_0
                try clear p2
                try clear p266
                try clear p267
                try clear p268
                try clear p269
                try clear p270
                try clear p271
                try clear p272
                try clear p6
                try clear q2
                try clear q266
                try clear q267
                try clear q268
                try clear q269
                try clear q270
                try clear q271
                try clear q272
                obtain ⟨kq, x7_9, rfl, HA, HJ9, HO_0, HK, HB⟩ := hcut
                cases kq with
                | zero => exact absurd HA.out (by simp [nat_digitw.j2])
                | succ kj9 =>
                  have H := HA.out
                  clear HA
                  simp only [nat_digitw.j2] at H
                  have H' := Aside0.mk H
                  clear H
                  go_wp2
                  repeat (go_quiet (fail); try go_wp2)
                  go_loopg [9, 10, 83] kj9 (fun kq v9 v10 v83 w' => ∃ (x0_2 : List Int) (x9_2 : Int) (x10_2 : Int) (x83_2 : Int), v9 = .int .u64 x9_2 ∧ v10 = .int .u64 x10_2 ∧ v83 = .int .i64 x83_2 ∧ Aside0 (nat_digitw.l1 kq x0_2 l1 (l1.length : Int) x7_9 x9_2 x10_2 (l0.length : Int) x83_2 = some (r1, r2)) ∧ Aside0 (kq ≤ kj9) ∧ Aside0 (Win.WR pre_ post_ off_ cc_ w' w0.heap.size (fun k_ => (P0_ k_ ∨ w.heap.size ≤ k_)) (.slice (some (⟨gq_, off_, none⟩ : Addr)) l0.length co11) x0_2) ∧ Aside0 (Kept w w' (fun k_ => P0_ k_)) ∧ Aside0 (Below w0.heap.size w0 w'))
                  case atStart => exact ⟨(l0), (0), (0), (0), (by first | rfl | (simp; done) | (simp [*]; done) | (simp [*] <;> decide +kernel)), (by first | rfl | (simp; done) | (simp [*]; done) | (simp [*] <;> decide +kernel)), (by first | rfl | (simp; done) | (simp [*]; done) | (simp [*] <;> decide +kernel)), H', ⟨Nat.le_refl _⟩, ⟨by (with_reducible repeat (first | apply Win.WR_alloc | apply Win.WR_drewN | apply Win.WR_drew)); exact HO_0.out⟩, ⟨by repeat (first | (with_reducible first | exact HK.out | apply Kept.alloc | apply Kept.drewN | apply Kept.drew) | exact HK.out)⟩, ⟨by repeat (first | (with_reducible first | exact HB.out | apply below_alloc | apply pw_below_drewN | apply below_drew1) | exact HB.out)⟩⟩
                  case round =>
                    clear H'
                    try clear c1
                    try clear c2
                    try clear p2
                    try clear q2
                    try clear hx2
                    try clear c3
                    try clear c3b0
                    try clear c3b1
                    try clear c4
                    try clear c4b0
                    try clear c4b1
                    try clear c6
                    try clear c6b0
                    try clear p6
                    try clear c7
                    try clear c7b0
                    try clear c8
                    try clear c8b0
                    try clear c9
                    try clear c9b0
                    try clear c9b1
                    try clear c13
                    try clear c13b0
                    try clear c15
                    try clear c15b0
                    try clear c16
                    try clear c16b0
                    try clear c17
                    try clear c17b0
                    try clear c18
                    try clear c20
                    try clear c20b0
                    try clear c21
                    try clear c21b0
                    try clear c22
                    try clear c22b0
                    try clear hx266_0
                    try clear hx267_0
                    try clear hx268_0
                    try clear hx269_0
                    try clear hx270_0
                    try clear hx271_0
                    try clear hx272_0
                    try clear p2
                    try clear p266
                    try clear p267
                    try clear p268
                    try clear p269
                    try clear p270
                    try clear p271
                    try clear p272
                    try clear p6
                    try clear q2
                    try clear q266
                    try clear q267
                    try clear q268
                    try clear q269
                    try clear q270
                    try clear q271
                    try clear q272
                    obtain ⟨x0_2, x9_2, x10_2, x83_2, rfl, rfl, rfl, HA, HK2, HO_0, HK, HB⟩ := hrel
                    have hl0_2 := (Win.WR_reads' HO_0.out).1
                    rw [hl0_2] at HO_0
                    (try simp only [hl0_2])
                    cases gk with
                    | zero => exact absurd HA.out (by simp [nat_digitw.l1])
                    | succ k2 =>
                      have H := HA.out
                      clear HA
                      simp only [nat_digitw.l1] at H
                      by_cases c23 : x83_2 < (l0.length : Int)
                      · rw [if_pos c23] at H
                        have c23b0 : decide (x83_2 < (l0.length : Int)) = true := decide_eq_true c23
                        (try (have c23z0 := c23b0; simp only [hl0_2] at c23z0))
                        clear c23
                        by_cases c24 : x83_2 < (l1.length : Int)
                        · rw [if_pos c24] at H
                          have c24b0 : decide (x83_2 < (l1.length : Int)) = true := decide_eq_true c24
                          (try (have c24z0 := c24b0; simp only [hl0_2] at c24z0))
                          clear c24
                          by_cases c25 : 0 ≤ x83_2
                          · rw [if_pos c25] at H
                            have c25b0 : decide (0 ≤ x83_2) = true := decide_eq_true c25
                            clear c25
                            by_cases c26 : x83_2 < (l1.length : Int)
                            · rw [if_pos c26] at H
                              have c26b0 : decide (x83_2 < (l1.length : Int)) = true := decide_eq_true c26
                              (try (have c26z0 := c26b0; simp only [hl0_2] at c26z0))
                              clear c26
                              by_cases c27 : x83_2 < (x0_2.length : Int)
                              · rw [if_pos c27] at H
                                have c27b0 : decide (x83_2 < (x0_2.length : Int)) = true := decide_eq_true c27
                                (try (have c27z0 := c27b0; simp only [hl0_2] at c27z0))
                                clear c27
                                obtain ⟨y275, hy275⟩ : ∃ y_ : List Int, y_ = (x0_2.set (x83_2 : Int).toNat ((IntKind.u64.wrap ((IntKind.u64.wrap ((IntKind.u64.wrap (rd x0_2 x83_2)) - (Go.bits .and .u64 (IntKind.u64.wrap (x9_2 + (IntKind.u64.wrap (x7_9 * (IntKind.u64.wrap (rd l1 x83_2)))))) 4294967295))) - x10_2)) % 4294967296)) := ⟨_, rfl⟩
                                replace H : (nat_digitw.l1 k2 y275 l1 (l1.length : Int) x7_9 ((IntKind.u64.wrap (x9_2 + (IntKind.u64.wrap (x7_9 * (IntKind.u64.wrap (rd l1 x83_2)))))) / 4294967296) ((IntKind.u64.wrap ((IntKind.u64.wrap ((IntKind.u64.wrap (rd x0_2 x83_2)) - (Go.bits .and .u64 (IntKind.u64.wrap (x9_2 + (IntKind.u64.wrap (x7_9 * (IntKind.u64.wrap (rd l1 x83_2)))))) 4294967295))) - x10_2)) / 9223372036854775808) (l0.length : Int) (wrap64 (x83_2 + 1))) = some (r1, r2) := by first | (rw [hy275]; with_reducible exact H) | (have H2_ := (Option.bind_some _ _).symm.trans H; rw [hy275]; with_reducible exact H2_) | (have H2_ := (Option.bind_some _ _).symm.trans H; with_reducible exact H2_) | with_reducible exact H | (rw [hy275]; exact H) | exact H
                                have Ny275 := Aside0.mk hy275
                                clear hy275
                                have H' := Aside0.mk H
                                clear H
                                have p273 : 0 ≤ (x83_2 : Int) := of_decide_eq_true (by first | (with_reducible assumption) | assumption)
                                have q273 : x83_2 < (l1.length : Int) := of_decide_eq_true (by first | (with_reducible assumption) | assumption)
                                obtain ⟨ad273, e273, hx273_0⟩ := Kd.at_int (Kd.C_kept_now HR1.out HK.out) x83_2 p273 q273
                                obtain rfl : ad268 = ad273 := (by injection e273)
                                replace p273 := eq_true p273
                                replace q273 := eq_true q273
                                have p274 : 0 ≤ (x83_2 : Int) := of_decide_eq_true (by first | (with_reducible assumption) | assumption)
                                have q274 : x83_2 < (x0_2.length : Int) := of_decide_eq_true (by first | (with_reducible assumption) | assumption)
                                obtain ⟨ad274, e274, hx274_0⟩ := Kd.at_int (Win.WR_reads' HO_0.out).2.2 x83_2 p274 q274
                                obtain rfl : (⟨gq_, off_, none⟩ : Addr) = ad274 := (by injection e274)
                                (try simp only [add_at] at hx274_0)
                                replace p274 := eq_true p274
                                replace q274 := eq_true q274
                                have p28 : 0 ≤ (x83_2 : Int) := of_decide_eq_true (by first | (with_reducible assumption) | assumption)
                                have q28 : (x83_2 : Int) < ((x0_2.length : Int) : Int) := of_decide_eq_true (by first | (with_reducible assumption) | assumption)
                                obtain ⟨gb28, gl28, cl28, HG28⟩ := Win.WR_form2 HO_0.out (by omega)
                                have GB28 := Aside0.mk gb28
                                have GG28 := Aside0.mk HG28
                                clear gb28 gl28 HG28
                                have HMgo28 := Aside0.mk (show (P0_ gq_ ∨ w.heap.size ≤ gq_) from (HO_0.out.1 _ rfl))
                                (first | simp only [add_at] at hx266_0 | skip)
                                (first | simp only [add_at] at hx267_0 | skip)
                                (first | simp only [add_at] at hx271_0 | skip)
                                (first | simp only [add_at] at hx274_0 | skip)
                                obtain ⟨hx28_0, hf28_0⟩ := Win.WR_celln 0 HO_0.out (x83_2 : Int) p28 q28
                                replace p28 := eq_true p28
                                replace q28 := eq_true q28
                                have HP29 := Win.WR_putg HO_0.out (x83_2 : Int) (of_decide_eq_true (by first | (with_reducible assumption) | assumption)) (of_decide_eq_true (by first | (with_reducible assumption) | assumption)) ((IntKind.u64.wrap ((IntKind.u64.wrap ((IntKind.u64.wrap (rd x0_2 x83_2)) - (Go.bits .and .u64 (IntKind.u64.wrap (x9_2 + (IntKind.u64.wrap (x7_9 * (IntKind.u64.wrap (rd l1 x83_2)))))) 4294967295))) - x10_2)) % 4294967296)
                                go_wp2_with (first | ((with_reducible refine gate_store (t := 52) (p := 112) rfl ?_); (try (rw [drewN_self wr]; generalize hq_ : World.drewN wr _ = wr; have n0_ := Aside0.mk (Win.WR_at hq_ HO_0.out); have n1_ := Aside0.mk (kept_at hq_ HK.out); have n2_ := Aside0.mk (below_at hq_ HB.out); clear hq_ HO_0 HK HB; have HO_0 := n0_; have HK := n1_; have HB := n2_; clear n0_ n1_ n2_; (try (have HP29 := Win.WR_putg HO_0.out (x83_2 : Int) (of_decide_eq_true (by first | (with_reducible assumption) | assumption)) (of_decide_eq_true (by first | (with_reducible assumption) | assumption)) ((IntKind.u64.wrap ((IntKind.u64.wrap ((IntKind.u64.wrap (rd x0_2 x83_2)) - (Go.bits .and .u64 (IntKind.u64.wrap (x9_2 + (IntKind.u64.wrap (x7_9 * (IntKind.u64.wrap (rd l1 x83_2)))))) 4294967295))) - x10_2)) % 4294967296))))); refine store_event (t := 52) (p := 112) (v := ?vo_w30) (w1 := (wr.setCell ⟨gq_, off_ + (x83_2 : Int).toNat, none⟩ (.int .u32 ((IntKind.u64.wrap ((IntKind.u64.wrap ((IntKind.u64.wrap (rd x0_2 x83_2)) - (Go.bits .and .u64 (IntKind.u64.wrap (x9_2 + (IntKind.u64.wrap (x7_9 * (IntKind.u64.wrap (rd l1 x83_2)))))) 4294967295))) - x10_2)) % 4294967296)))) ?hg ?ho ?hn ?hr ?_; (case ho => rfl); (case hg => rfl); (case hn => rfl); (case hr => first | (go_simp; done) | (go_simp; rfl)); intro w30 hw; have hg : wr.grownBy w30 (some gq_) := (by rw [hw]; exact HP29.2); have hp_ : Win.WR pre_ post_ off_ cc_ w30 w0.heap.size (fun k_ => (P0_ k_ ∨ w.heap.size ≤ k_)) (.slice (some ⟨gq_, off_, none⟩) x0_2.length co11) y275 := (by rw [hw, Ny275.out]; exact HP29.1); clear HP29; have n0_ := Aside0.mk (hp_); have n1_ := Aside0.mk ((by rw [hw]; exact below_set (HB.out) GB28.out : Below w0.heap.size w0 w30)); have n2_ := Aside0.mk (Kept.of_grown (S := (fun k_ => P0_ k_)) hg (by repeat (first | (with_reducible first | exact HK.out | apply Kept.alloc | apply Kept.drewN | apply Kept.drew) | exact HK.out)) (fun k_ e_ => (HO_0.out.1 k_ e_))); clear HO_0; clear HB; clear HK; have HO_0 := n0_; have HB := n1_; have HK := n2_; clear n0_ n1_ n2_; clear hg hw hp_))
                                repeat (go_quiet (first | ((with_reducible refine gate_store (t := 52) (p := 112) rfl ?_); (try (rw [drewN_self wr]; generalize hq_ : World.drewN wr _ = wr; have n0_ := Aside0.mk (Win.WR_at hq_ HO_0.out); have n1_ := Aside0.mk (kept_at hq_ HK.out); have n2_ := Aside0.mk (below_at hq_ HB.out); clear hq_ HO_0 HK HB; have HO_0 := n0_; have HK := n1_; have HB := n2_; clear n0_ n1_ n2_; (try (have HP29 := Win.WR_putg HO_0.out (x83_2 : Int) (of_decide_eq_true (by first | (with_reducible assumption) | assumption)) (of_decide_eq_true (by first | (with_reducible assumption) | assumption)) ((IntKind.u64.wrap ((IntKind.u64.wrap ((IntKind.u64.wrap (rd x0_2 x83_2)) - (Go.bits .and .u64 (IntKind.u64.wrap (x9_2 + (IntKind.u64.wrap (x7_9 * (IntKind.u64.wrap (rd l1 x83_2)))))) 4294967295))) - x10_2)) % 4294967296))))); refine store_event (t := 52) (p := 112) (v := ?vo_w30) (w1 := (wr.setCell ⟨gq_, off_ + (x83_2 : Int).toNat, none⟩ (.int .u32 ((IntKind.u64.wrap ((IntKind.u64.wrap ((IntKind.u64.wrap (rd x0_2 x83_2)) - (Go.bits .and .u64 (IntKind.u64.wrap (x9_2 + (IntKind.u64.wrap (x7_9 * (IntKind.u64.wrap (rd l1 x83_2)))))) 4294967295))) - x10_2)) % 4294967296)))) ?hg ?ho ?hn ?hr ?_; (case ho => rfl); (case hg => rfl); (case hn => rfl); (case hr => first | (go_simp; done) | (go_simp; rfl)); intro w30 hw; have hg : wr.grownBy w30 (some gq_) := (by rw [hw]; exact HP29.2); have hp_ : Win.WR pre_ post_ off_ cc_ w30 w0.heap.size (fun k_ => (P0_ k_ ∨ w.heap.size ≤ k_)) (.slice (some ⟨gq_, off_, none⟩) x0_2.length co11) y275 := (by rw [hw, Ny275.out]; exact HP29.1); clear HP29; have n0_ := Aside0.mk (hp_); have n1_ := Aside0.mk ((by rw [hw]; exact below_set (HB.out) GB28.out : Below w0.heap.size w0 w30)); have n2_ := Aside0.mk (Kept.of_grown (S := (fun k_ => P0_ k_)) hg (by repeat (first | (with_reducible first | exact HK.out | apply Kept.alloc | apply Kept.drewN | apply Kept.drew) | exact HK.out)) (fun k_ e_ => (HO_0.out.1 k_ e_))); clear HO_0; clear HB; clear HK; have HO_0 := n0_; have HB := n1_; have HK := n2_; clear n0_ n1_ n2_; clear hg hw hp_)); try go_wp2_with (first | ((with_reducible refine gate_store (t := 52) (p := 112) rfl ?_); (try (rw [drewN_self wr]; generalize hq_ : World.drewN wr _ = wr; have n0_ := Aside0.mk (Win.WR_at hq_ HO_0.out); have n1_ := Aside0.mk (kept_at hq_ HK.out); have n2_ := Aside0.mk (below_at hq_ HB.out); clear hq_ HO_0 HK HB; have HO_0 := n0_; have HK := n1_; have HB := n2_; clear n0_ n1_ n2_; (try (have HP29 := Win.WR_putg HO_0.out (x83_2 : Int) (of_decide_eq_true (by first | (with_reducible assumption) | assumption)) (of_decide_eq_true (by first | (with_reducible assumption) | assumption)) ((IntKind.u64.wrap ((IntKind.u64.wrap ((IntKind.u64.wrap (rd x0_2 x83_2)) - (Go.bits .and .u64 (IntKind.u64.wrap (x9_2 + (IntKind.u64.wrap (x7_9 * (IntKind.u64.wrap (rd l1 x83_2)))))) 4294967295))) - x10_2)) % 4294967296))))); refine store_event (t := 52) (p := 112) (v := ?vo_w30) (w1 := (wr.setCell ⟨gq_, off_ + (x83_2 : Int).toNat, none⟩ (.int .u32 ((IntKind.u64.wrap ((IntKind.u64.wrap ((IntKind.u64.wrap (rd x0_2 x83_2)) - (Go.bits .and .u64 (IntKind.u64.wrap (x9_2 + (IntKind.u64.wrap (x7_9 * (IntKind.u64.wrap (rd l1 x83_2)))))) 4294967295))) - x10_2)) % 4294967296)))) ?hg ?ho ?hn ?hr ?_; (case ho => rfl); (case hg => rfl); (case hn => rfl); (case hr => first | (go_simp; done) | (go_simp; rfl)); intro w30 hw; have hg : wr.grownBy w30 (some gq_) := (by rw [hw]; exact HP29.2); have hp_ : Win.WR pre_ post_ off_ cc_ w30 w0.heap.size (fun k_ => (P0_ k_ ∨ w.heap.size ≤ k_)) (.slice (some ⟨gq_, off_, none⟩) x0_2.length co11) y275 := (by rw [hw, Ny275.out]; exact HP29.1); clear HP29; have n0_ := Aside0.mk (hp_); have n1_ := Aside0.mk ((by rw [hw]; exact below_set (HB.out) GB28.out : Below w0.heap.size w0 w30)); have n2_ := Aside0.mk (Kept.of_grown (S := (fun k_ => P0_ k_)) hg (by repeat (first | (with_reducible first | exact HK.out | apply Kept.alloc | apply Kept.drewN | apply Kept.drew) | exact HK.out)) (fun k_ e_ => (HO_0.out.1 k_ e_))); clear HO_0; clear HB; clear HK; have HO_0 := n0_; have HB := n1_; have HK := n2_; clear n0_ n1_ n2_; clear hg hw hp_)))
                                (try simp only [← hl0_2])
                                go_roundg k2
                                case measure => have := HJ9.out; have := HK2.out; omega
                                case rel => exact ⟨(y275), ((IntKind.u64.wrap (x9_2 + (IntKind.u64.wrap (x7_9 * (IntKind.u64.wrap (rd l1 x83_2)))))) / 4294967296), ((IntKind.u64.wrap ((IntKind.u64.wrap ((IntKind.u64.wrap (rd x0_2 x83_2)) - (Go.bits .and .u64 (IntKind.u64.wrap (x9_2 + (IntKind.u64.wrap (x7_9 * (IntKind.u64.wrap (rd l1 x83_2)))))) 4294967295))) - x10_2)) / 9223372036854775808), (wrap64 (x83_2 + 1)), (by first | rfl | (simp; done) | (simp [*]; done) | (simp [*] <;> decide +kernel)), (by first | rfl | (simp; done) | (simp [*]; done) | (simp [*] <;> decide +kernel)), (by first | rfl | (simp; done) | (simp [*]; done) | (simp [*] <;> decide +kernel)), H', ⟨by have := HJ9.out; have := HK2.out; omega⟩, ⟨by (try simp only [hl0_2]); (with_reducible repeat (first | apply Win.WR_alloc | apply Win.WR_drewN | apply Win.WR_drew)); exact HO_0.out⟩, ⟨by repeat (first | (with_reducible first | exact HK.out | apply Kept.alloc | apply Kept.drewN | apply Kept.drew) | exact HK.out)⟩, ⟨by repeat (first | (with_reducible first | exact HB.out | apply below_alloc | apply pw_below_drewN | apply below_drew1) | exact HB.out)⟩⟩
                              · rw [if_neg c27] at H
                                exact absurd H (by simp)
                            · rw [if_neg c26] at H
                              exact absurd H (by simp)
                          · rw [if_neg c25] at H
                            exact absurd H (by simp)
                        · rw [if_neg c24] at H
                          have c24b0 : decide (x83_2 < (l1.length : Int)) = false := decide_eq_false c24
                          (try (have c24z0 := c24b0; simp only [hl0_2] at c24z0))
                          clear c24
                          by_cases c31 : 0 ≤ x83_2
                          · rw [if_pos c31] at H
                            have c31b0 : decide (0 ≤ x83_2) = true := decide_eq_true c31
                            clear c31
                            by_cases c32 : x83_2 < (x0_2.length : Int)
                            · rw [if_pos c32] at H
                              have c32b0 : decide (x83_2 < (x0_2.length : Int)) = true := decide_eq_true c32
                              (try (have c32z0 := c32b0; simp only [hl0_2] at c32z0))
                              clear c32
                              obtain ⟨y277, hy277⟩ : ∃ y_ : List Int, y_ = (x0_2.set (x83_2 : Int).toNat ((IntKind.u64.wrap ((IntKind.u64.wrap ((IntKind.u64.wrap (rd x0_2 x83_2)) - (Go.bits .and .u64 x9_2 4294967295))) - x10_2)) % 4294967296)) := ⟨_, rfl⟩
                              replace H : (nat_digitw.l1 k2 y277 l1 (l1.length : Int) x7_9 (x9_2 / 4294967296) ((IntKind.u64.wrap ((IntKind.u64.wrap ((IntKind.u64.wrap (rd x0_2 x83_2)) - (Go.bits .and .u64 x9_2 4294967295))) - x10_2)) / 9223372036854775808) (l0.length : Int) (wrap64 (x83_2 + 1))) = some (r1, r2) := by first | (rw [hy277]; with_reducible exact H) | (have H2_ := (Option.bind_some _ _).symm.trans H; rw [hy277]; with_reducible exact H2_) | (have H2_ := (Option.bind_some _ _).symm.trans H; with_reducible exact H2_) | with_reducible exact H | (rw [hy277]; exact H) | exact H
                              have Ny277 := Aside0.mk hy277
                              clear hy277
                              have H' := Aside0.mk H
                              clear H
                              have p276 : 0 ≤ (x83_2 : Int) := of_decide_eq_true (by first | (with_reducible assumption) | assumption)
                              have q276 : x83_2 < (x0_2.length : Int) := of_decide_eq_true (by first | (with_reducible assumption) | assumption)
                              obtain ⟨ad276, e276, hx276_0⟩ := Kd.at_int (Win.WR_reads' HO_0.out).2.2 x83_2 p276 q276
                              obtain rfl : (⟨gq_, off_, none⟩ : Addr) = ad276 := (by injection e276)
                              (try simp only [add_at] at hx276_0)
                              replace p276 := eq_true p276
                              replace q276 := eq_true q276
                              have p33 : 0 ≤ (x83_2 : Int) := of_decide_eq_true (by first | (with_reducible assumption) | assumption)
                              have q33 : (x83_2 : Int) < ((x0_2.length : Int) : Int) := of_decide_eq_true (by first | (with_reducible assumption) | assumption)
                              obtain ⟨gb33, gl33, cl33, HG33⟩ := Win.WR_form2 HO_0.out (by omega)
                              have GB33 := Aside0.mk gb33
                              have GG33 := Aside0.mk HG33
                              clear gb33 gl33 HG33
                              have HMgo33 := Aside0.mk (show (P0_ gq_ ∨ w.heap.size ≤ gq_) from (HO_0.out.1 _ rfl))
                              (first | simp only [add_at] at hx276_0 | skip)
                              obtain ⟨hx33_0, hf33_0⟩ := Win.WR_celln 0 HO_0.out (x83_2 : Int) p33 q33
                              replace p33 := eq_true p33
                              replace q33 := eq_true q33
                              have HP34 := Win.WR_putg HO_0.out (x83_2 : Int) (of_decide_eq_true (by first | (with_reducible assumption) | assumption)) (of_decide_eq_true (by first | (with_reducible assumption) | assumption)) ((IntKind.u64.wrap ((IntKind.u64.wrap ((IntKind.u64.wrap (rd x0_2 x83_2)) - (Go.bits .and .u64 x9_2 4294967295))) - x10_2)) % 4294967296)
                              go_wp2_with (first | ((with_reducible refine gate_store (t := 52) (p := 112) rfl ?_); (try (rw [drewN_self wr]; generalize hq_ : World.drewN wr _ = wr; have n0_ := Aside0.mk (Win.WR_at hq_ HO_0.out); have n1_ := Aside0.mk (kept_at hq_ HK.out); have n2_ := Aside0.mk (below_at hq_ HB.out); clear hq_ HO_0 HK HB; have HO_0 := n0_; have HK := n1_; have HB := n2_; clear n0_ n1_ n2_; (try (have HP34 := Win.WR_putg HO_0.out (x83_2 : Int) (of_decide_eq_true (by first | (with_reducible assumption) | assumption)) (of_decide_eq_true (by first | (with_reducible assumption) | assumption)) ((IntKind.u64.wrap ((IntKind.u64.wrap ((IntKind.u64.wrap (rd x0_2 x83_2)) - (Go.bits .and .u64 x9_2 4294967295))) - x10_2)) % 4294967296))))); refine store_event (t := 52) (p := 112) (v := ?vo_w35) (w1 := (wr.setCell ⟨gq_, off_ + (x83_2 : Int).toNat, none⟩ (.int .u32 ((IntKind.u64.wrap ((IntKind.u64.wrap ((IntKind.u64.wrap (rd x0_2 x83_2)) - (Go.bits .and .u64 x9_2 4294967295))) - x10_2)) % 4294967296)))) ?hg ?ho ?hn ?hr ?_; (case ho => rfl); (case hg => rfl); (case hn => rfl); (case hr => first | (go_simp; done) | (go_simp; rfl)); intro w35 hw; have hg : wr.grownBy w35 (some gq_) := (by rw [hw]; exact HP34.2); have hp_ : Win.WR pre_ post_ off_ cc_ w35 w0.heap.size (fun k_ => (P0_ k_ ∨ w.heap.size ≤ k_)) (.slice (some ⟨gq_, off_, none⟩) x0_2.length co11) y277 := (by rw [hw, Ny277.out]; exact HP34.1); clear HP34; have n0_ := Aside0.mk (hp_); have n1_ := Aside0.mk ((by rw [hw]; exact below_set (HB.out) GB33.out : Below w0.heap.size w0 w35)); have n2_ := Aside0.mk (Kept.of_grown (S := (fun k_ => P0_ k_)) hg (by repeat (first | (with_reducible first | exact HK.out | apply Kept.alloc | apply Kept.drewN | apply Kept.drew) | exact HK.out)) (fun k_ e_ => (HO_0.out.1 k_ e_))); clear HO_0; clear HB; clear HK; have HO_0 := n0_; have HB := n1_; have HK := n2_; clear n0_ n1_ n2_; clear hg hw hp_))
                              repeat (go_quiet (first | ((with_reducible refine gate_store (t := 52) (p := 112) rfl ?_); (try (rw [drewN_self wr]; generalize hq_ : World.drewN wr _ = wr; have n0_ := Aside0.mk (Win.WR_at hq_ HO_0.out); have n1_ := Aside0.mk (kept_at hq_ HK.out); have n2_ := Aside0.mk (below_at hq_ HB.out); clear hq_ HO_0 HK HB; have HO_0 := n0_; have HK := n1_; have HB := n2_; clear n0_ n1_ n2_; (try (have HP34 := Win.WR_putg HO_0.out (x83_2 : Int) (of_decide_eq_true (by first | (with_reducible assumption) | assumption)) (of_decide_eq_true (by first | (with_reducible assumption) | assumption)) ((IntKind.u64.wrap ((IntKind.u64.wrap ((IntKind.u64.wrap (rd x0_2 x83_2)) - (Go.bits .and .u64 x9_2 4294967295))) - x10_2)) % 4294967296))))); refine store_event (t := 52) (p := 112) (v := ?vo_w35) (w1 := (wr.setCell ⟨gq_, off_ + (x83_2 : Int).toNat, none⟩ (.int .u32 ((IntKind.u64.wrap ((IntKind.u64.wrap ((IntKind.u64.wrap (rd x0_2 x83_2)) - (Go.bits .and .u64 x9_2 4294967295))) - x10_2)) % 4294967296)))) ?hg ?ho ?hn ?hr ?_; (case ho => rfl); (case hg => rfl); (case hn => rfl); (case hr => first | (go_simp; done) | (go_simp; rfl)); intro w35 hw; have hg : wr.grownBy w35 (some gq_) := (by rw [hw]; exact HP34.2); have hp_ : Win.WR pre_ post_ off_ cc_ w35 w0.heap.size (fun k_ => (P0_ k_ ∨ w.heap.size ≤ k_)) (.slice (some ⟨gq_, off_, none⟩) x0_2.length co11) y277 := (by rw [hw, Ny277.out]; exact HP34.1); clear HP34; have n0_ := Aside0.mk (hp_); have n1_ := Aside0.mk ((by rw [hw]; exact below_set (HB.out) GB33.out : Below w0.heap.size w0 w35)); have n2_ := Aside0.mk (Kept.of_grown (S := (fun k_ => P0_ k_)) hg (by repeat (first | (with_reducible first | exact HK.out | apply Kept.alloc | apply Kept.drewN | apply Kept.drew) | exact HK.out)) (fun k_ e_ => (HO_0.out.1 k_ e_))); clear HO_0; clear HB; clear HK; have HO_0 := n0_; have HB := n1_; have HK := n2_; clear n0_ n1_ n2_; clear hg hw hp_)); try go_wp2_with (first | ((with_reducible refine gate_store (t := 52) (p := 112) rfl ?_); (try (rw [drewN_self wr]; generalize hq_ : World.drewN wr _ = wr; have n0_ := Aside0.mk (Win.WR_at hq_ HO_0.out); have n1_ := Aside0.mk (kept_at hq_ HK.out); have n2_ := Aside0.mk (below_at hq_ HB.out); clear hq_ HO_0 HK HB; have HO_0 := n0_; have HK := n1_; have HB := n2_; clear n0_ n1_ n2_; (try (have HP34 := Win.WR_putg HO_0.out (x83_2 : Int) (of_decide_eq_true (by first | (with_reducible assumption) | assumption)) (of_decide_eq_true (by first | (with_reducible assumption) | assumption)) ((IntKind.u64.wrap ((IntKind.u64.wrap ((IntKind.u64.wrap (rd x0_2 x83_2)) - (Go.bits .and .u64 x9_2 4294967295))) - x10_2)) % 4294967296))))); refine store_event (t := 52) (p := 112) (v := ?vo_w35) (w1 := (wr.setCell ⟨gq_, off_ + (x83_2 : Int).toNat, none⟩ (.int .u32 ((IntKind.u64.wrap ((IntKind.u64.wrap ((IntKind.u64.wrap (rd x0_2 x83_2)) - (Go.bits .and .u64 x9_2 4294967295))) - x10_2)) % 4294967296)))) ?hg ?ho ?hn ?hr ?_; (case ho => rfl); (case hg => rfl); (case hn => rfl); (case hr => first | (go_simp; done) | (go_simp; rfl)); intro w35 hw; have hg : wr.grownBy w35 (some gq_) := (by rw [hw]; exact HP34.2); have hp_ : Win.WR pre_ post_ off_ cc_ w35 w0.heap.size (fun k_ => (P0_ k_ ∨ w.heap.size ≤ k_)) (.slice (some ⟨gq_, off_, none⟩) x0_2.length co11) y277 := (by rw [hw, Ny277.out]; exact HP34.1); clear HP34; have n0_ := Aside0.mk (hp_); have n1_ := Aside0.mk ((by rw [hw]; exact below_set (HB.out) GB33.out : Below w0.heap.size w0 w35)); have n2_ := Aside0.mk (Kept.of_grown (S := (fun k_ => P0_ k_)) hg (by repeat (first | (with_reducible first | exact HK.out | apply Kept.alloc | apply Kept.drewN | apply Kept.drew) | exact HK.out)) (fun k_ e_ => (HO_0.out.1 k_ e_))); clear HO_0; clear HB; clear HK; have HO_0 := n0_; have HB := n1_; have HK := n2_; clear n0_ n1_ n2_; clear hg hw hp_)))
                              (try simp only [← hl0_2])
                              go_roundg k2
                              case measure => have := HJ9.out; have := HK2.out; omega
                              case rel => exact ⟨(y277), (x9_2 / 4294967296), ((IntKind.u64.wrap ((IntKind.u64.wrap ((IntKind.u64.wrap (rd x0_2 x83_2)) - (Go.bits .and .u64 x9_2 4294967295))) - x10_2)) / 9223372036854775808), (wrap64 (x83_2 + 1)), (by first | rfl | (simp; done) | (simp [*]; done) | (simp [*] <;> decide +kernel)), (by first | rfl | (simp; done) | (simp [*]; done) | (simp [*] <;> decide +kernel)), (by first | rfl | (simp; done) | (simp [*]; done) | (simp [*] <;> decide +kernel)), H', ⟨by have := HJ9.out; have := HK2.out; omega⟩, ⟨by (try simp only [hl0_2]); (with_reducible repeat (first | apply Win.WR_alloc | apply Win.WR_drewN | apply Win.WR_drew)); exact HO_0.out⟩, ⟨by repeat (first | (with_reducible first | exact HK.out | apply Kept.alloc | apply Kept.drewN | apply Kept.drew) | exact HK.out)⟩, ⟨by repeat (first | (with_reducible first | exact HB.out | apply below_alloc | apply pw_below_drewN | apply below_drew1) | exact HB.out)⟩⟩
                            · rw [if_neg c32] at H
                              exact absurd H (by simp)
                          · rw [if_neg c31] at H
                            exact absurd H (by simp)
                      · rw [if_neg c23] at H
                        have c23b0 : decide (x83_2 < (l0.length : Int)) = false := decide_eq_false c23
                        (try (have c23z0 := c23b0; simp only [hl0_2] at c23z0))
                        clear c23
                        by_cases c36 : x10_2 = 0
                        · rw [if_pos c36] at H
                          have c36b0 : (x10_2 == 0) = true := beq_iff_eq.mpr c36
                          have c36b1 : (x10_2 != 0) = false := bne_eq_false_iff_eq.mpr c36
                          clear c36
                          simp only [Option.some.injEq, Prod.mk.injEq] at H
                          obtain ⟨rfl, rfl⟩ := H
                          go_wp2
                          repeat (go_quiet (fail); try go_wp2)
                          go_ret
                          exact ⟨by first | rfl | (simp [errW_none, errW_some] <;> rfl) | (simp only [← hji5]; first | rfl | (simp [errW_none, errW_some] <;> rfl)) | (simp [*, errW_none, errW_some] <;> rfl), (by first | exact (by (with_reducible repeat (first | apply Win.WR_alloc | apply Win.WR_drewN | apply Win.WR_drew)); exact HO_0.out) | (simp only [hl0_2]; exact (by (with_reducible repeat (first | apply Win.WR_alloc | apply Win.WR_drewN | apply Win.WR_drew)); exact HO_0.out))), by repeat (first | (with_reducible first | exact HB.out | apply below_alloc | apply pw_below_drewN | apply below_drew1) | exact HB.out), by repeat (first | (with_reducible first | exact HK.out | apply Kept.alloc | apply Kept.drewN | apply Kept.drew) | exact HK.out)⟩
                        · rw [if_neg c36] at H
                          have c36b0 : (x10_2 == 0) = false := beq_eq_false_iff_ne.mpr c36
                          have c36b1 : (x10_2 != 0) = true := bne_iff_ne.mpr c36
                          have H' := Aside0.mk H
                          clear H
                          go_wp2
                          repeat (go_quiet (fail); try go_wp2)
                          go_loopg [9, 124] k2 (fun kq v9 v124 w' => ∃ (x0_3 : List Int) (x9_3 : Int) (x124_3 : Int), v9 = .int .u64 x9_3 ∧ v124 = .int .i64 x124_3 ∧ Aside0 (nat_digitw.l2 kq x0_3 l1 (l1.length : Int) x7_9 x9_3 (x0_2.length : Int) x124_3 = some (r1, r2)) ∧ Aside0 (kq ≤ k2) ∧ Aside0 (Win.WR pre_ post_ off_ cc_ w' w0.heap.size (fun k_ => (P0_ k_ ∨ w.heap.size ≤ k_)) (.slice (some (⟨gq_, off_, none⟩ : Addr)) x0_2.length co11) x0_3) ∧ Aside0 (Kept w w' (fun k_ => P0_ k_)) ∧ Aside0 (Below w0.heap.size w0 w'))
                          case atStart => exact ⟨(x0_2), (x9_2), (0), (by first | rfl | (simp; done) | (simp [*]; done) | (simp [*] <;> decide +kernel)), (by first | rfl | (simp; done) | (simp [*]; done) | (simp [*] <;> decide +kernel)), H', ⟨Nat.le_refl _⟩, ⟨by (try simp only [hl0_2]); (with_reducible repeat (first | apply Win.WR_alloc | apply Win.WR_drewN | apply Win.WR_drew)); exact HO_0.out⟩, ⟨by repeat (first | (with_reducible first | exact HK.out | apply Kept.alloc | apply Kept.drewN | apply Kept.drew) | exact HK.out)⟩, ⟨by repeat (first | (with_reducible first | exact HB.out | apply below_alloc | apply pw_below_drewN | apply below_drew1) | exact HB.out)⟩⟩
                          case round =>
                            clear H'
                            try clear c1
                            try clear c2
                            try clear p2
                            try clear q2
                            try clear hx2
                            try clear hf2
                            try clear c3
                            try clear c3b0
                            try clear c3b1
                            try clear p3
                            try clear q3
                            try clear hx3
                            try clear hf3
                            try clear c4
                            try clear c4b0
                            try clear c4b1
                            try clear c6
                            try clear c6b0
                            try clear p6
                            try clear c7
                            try clear c7b0
                            try clear c8
                            try clear c8b0
                            try clear c9
                            try clear c9b0
                            try clear c9b1
                            try clear c13
                            try clear c13b0
                            try clear c15
                            try clear c15b0
                            try clear c16
                            try clear c16b0
                            try clear c17
                            try clear c17b0
                            try clear c18
                            try clear c20
                            try clear c20b0
                            try clear c21
                            try clear c21b0
                            try clear c22
                            try clear c22b0
                            try clear c23
                            try clear c23b0
                            try clear c24
                            try clear c24b0
                            try clear c25
                            try clear c25b0
                            try clear c26
                            try clear c26b0
                            try clear p26
                            try clear q26
                            try clear hx26
                            try clear c27
                            try clear c27b0
                            try clear p27
                            try clear q27
                            try clear hx27
                            try clear p28
                            try clear q28
                            try clear hx28
                            try clear hf28
                            try clear c31
                            try clear c31b0
                            try clear c32
                            try clear c32b0
                            try clear p33
                            try clear q33
                            try clear hx33
                            try clear hf33
                            try clear c36
                            try clear c36b0
                            try clear c36b1
                            try clear hx266_0
                            try clear hx267_0
                            try clear hx268_0
                            try clear hx269_0
                            try clear hx270_0
                            try clear hx271_0
                            try clear hx272_0
                            try clear hx273_0
                            try clear hx274_0
                            try clear hx276_0
                            try clear hx28_0
                            try clear hx33_0
                            try clear p2
                            try clear p266
                            try clear p267
                            try clear p268
                            try clear p269
                            try clear p270
                            try clear p271
                            try clear p272
                            try clear p273
                            try clear p274
                            try clear p276
                            try clear p28
                            try clear p33
                            try clear p6
                            try clear q2
                            try clear q266
                            try clear q267
                            try clear q268
                            try clear q269
                            try clear q270
                            try clear q271
                            try clear q272
                            try clear q273
                            try clear q274
                            try clear q276
                            try clear q28
                            try clear q33
                            obtain ⟨x0_3, x9_3, x124_3, rfl, rfl, HA, HK3, HO_0, HK, HB⟩ := hrel
                            have hl0_3 := (Win.WR_reads' HO_0.out).1
                            rw [hl0_3] at HO_0
                            (try simp only [hl0_3])
                            cases gk with
                            | zero => exact absurd HA.out (by simp [nat_digitw.l2])
                            | succ k3 =>
                              have H := HA.out
                              clear HA
                              simp only [nat_digitw.l2] at H
                              by_cases c37 : x124_3 < (x0_2.length : Int)
                              · rw [if_pos c37] at H
                                have c37b0 : decide (x124_3 < (x0_2.length : Int)) = true := decide_eq_true c37
                                (try (have c37z0 := c37b0; simp only [hl0_2] at c37z0))
                                (try (have c37z1 := c37b0; simp only [hl0_3] at c37z1))
                                clear c37
                                by_cases c38 : 0 ≤ x124_3
                                · rw [if_pos c38] at H
                                  have c38b0 : decide (0 ≤ x124_3) = true := decide_eq_true c38
                                  clear c38
                                  by_cases c39 : x124_3 < (x0_3.length : Int)
                                  · rw [if_pos c39] at H
                                    have c39b0 : decide (x124_3 < (x0_3.length : Int)) = true := decide_eq_true c39
                                    (try (have c39z0 := c39b0; simp only [hl0_2] at c39z0))
                                    (try (have c39z1 := c39b0; simp only [hl0_3] at c39z1))
                                    clear c39
                                    by_cases c40 : x124_3 < (l1.length : Int)
                                    · rw [if_pos c40] at H
                                      have c40b0 : decide (x124_3 < (l1.length : Int)) = true := decide_eq_true c40
                                      (try (have c40z0 := c40b0; simp only [hl0_2] at c40z0))
                                      (try (have c40z1 := c40b0; simp only [hl0_3] at c40z1))
                                      clear c40
                                      by_cases c41 : x124_3 < (l1.length : Int)
                                      · rw [if_pos c41] at H
                                        have c41b0 : decide (x124_3 < (l1.length : Int)) = true := decide_eq_true c41
                                        (try (have c41z0 := c41b0; simp only [hl0_2] at c41z0))
                                        (try (have c41z1 := c41b0; simp only [hl0_3] at c41z1))
                                        clear c41
                                        replace H := Option.bind_eq_some_iff.mp H
                                        obtain ⟨⟨t280, t281⟩, A420, H⟩ := H
                                        replace H : (nat_digitw.l2 k3 (x0_3.set (x124_3 : Int).toNat t280) l1 (l1.length : Int) x7_9 t281 (x0_2.length : Int) (wrap64 (x124_3 + 1))) = some (r1, r2) := H
                                        have A42 := Aside0.mk A420
                                        clear A420
                                        obtain ⟨y282, hy282⟩ : ∃ y_ : List Int, y_ = (x0_3.set (x124_3 : Int).toNat t280) := ⟨_, rfl⟩
                                        replace H : (nat_digitw.l2 k3 y282 l1 (l1.length : Int) x7_9 t281 (x0_2.length : Int) (wrap64 (x124_3 + 1))) = some (r1, r2) := by first | (rw [hy282]; with_reducible exact H) | (have H2_ := (Option.bind_some _ _).symm.trans H; rw [hy282]; with_reducible exact H2_) | (have H2_ := (Option.bind_some _ _).symm.trans H; with_reducible exact H2_) | with_reducible exact H | (rw [hy282]; exact H) | exact H
                                        have Ny282 := Aside0.mk hy282
                                        clear hy282
                                        have H' := Aside0.mk H
                                        clear H
                                        have p278 : 0 ≤ (x124_3 : Int) := of_decide_eq_true (by first | (with_reducible assumption) | assumption)
                                        have q278 : x124_3 < (x0_3.length : Int) := of_decide_eq_true (by first | (with_reducible assumption) | assumption)
                                        obtain ⟨ad278, e278, hx278_0⟩ := Kd.at_int (Win.WR_reads' HO_0.out).2.2 x124_3 p278 q278
                                        obtain rfl : (⟨gq_, off_, none⟩ : Addr) = ad278 := (by injection e278)
                                        (try simp only [add_at] at hx278_0)
                                        replace p278 := eq_true p278
                                        replace q278 := eq_true q278
                                        have p279 : 0 ≤ (x124_3 : Int) := of_decide_eq_true (by first | (with_reducible assumption) | assumption)
                                        have q279 : x124_3 < (l1.length : Int) := of_decide_eq_true (by first | (with_reducible assumption) | assumption)
                                        obtain ⟨ad279, e279, hx279_0⟩ := Kd.at_int (Kd.C_kept_now HR1.out HK.out) x124_3 p279 q279
                                        obtain rfl : ad268 = ad279 := (by injection e279)
                                        replace p279 := eq_true p279
                                        replace q279 := eq_true q279
                                        go_wp2_with (first | (go_at_call 44; (with_reducible refine (nat_low_uint64.calls (IntKind.u64.wrap ((IntKind.u64.wrap (x9_3 + (IntKind.u64.wrap (rd x0_3 x124_3)))) + (IntKind.u64.wrap (rd l1 x124_3)))) t280 t281 _ A42.out).mono ?_); rintro e w' ⟨rfl, ⟨nd, rfl⟩⟩; (try first | exact ⟨rfl, _, World.drewN_drewN _ _ _⟩ | exact ⟨rfl, _, Eq.trans (World.drewN_drewN _ _ _) (congrArg (World.drewN _) (Nat.add_assoc _ _ _))⟩); have p43 : 0 ≤ (x124_3 : Int) := of_decide_eq_true (by first | (with_reducible assumption) | assumption); have q43 : (x124_3 : Int) < ((x0_3.length : Int) : Int) := of_decide_eq_true (by first | (with_reducible assumption) | assumption); obtain ⟨gb43, gl43, cl43, HG43⟩ := Win.WR_form2 HO_0.out (by omega); have GB43 := Aside0.mk gb43; have GG43 := Aside0.mk HG43; clear gb43 gl43 HG43; have HMgo43 := Aside0.mk (show (P0_ gq_ ∨ w.heap.size ≤ gq_) from (HO_0.out.1 _ rfl)); (first | simp only [add_at] at hx278_0 | skip); obtain ⟨hx43_0, hf43_0⟩ := Win.WR_celln 0 HO_0.out (x124_3 : Int) p43 q43; replace p43 := eq_true p43; replace q43 := eq_true q43; obtain ⟨hy44_, hz44_⟩ := Win.WR_celln 0 HO_0.out (x124_3 : Int) (of_decide_eq_true (by first | (with_reducible assumption) | assumption)) (of_decide_eq_true (by first | (with_reducible assumption) | assumption)); have HP44 := Win.WR_putg HO_0.out (x124_3 : Int) (of_decide_eq_true (by first | (with_reducible assumption) | assumption)) (of_decide_eq_true (by first | (with_reducible assumption) | assumption)) t280) | ((with_reducible refine gate_store (t := 52) (p := 151) rfl ?_); (try (rw [drewN_self wr]; generalize hq_ : World.drewN wr _ = wr; have n0_ := Aside0.mk (Win.WR_at hq_ HO_0.out); have n1_ := Aside0.mk (kept_at hq_ HK.out); have n2_ := Aside0.mk (below_at hq_ HB.out); clear hq_ HO_0 HK HB; have HO_0 := n0_; have HK := n1_; have HB := n2_; clear n0_ n1_ n2_; (try (obtain ⟨hy44_, hz44_⟩ := Win.WR_celln 0 HO_0.out (x124_3 : Int) (of_decide_eq_true (by first | (with_reducible assumption) | assumption)) (of_decide_eq_true (by first | (with_reducible assumption) | assumption)))); (try (have HP44 := Win.WR_putg HO_0.out (x124_3 : Int) (of_decide_eq_true (by first | (with_reducible assumption) | assumption)) (of_decide_eq_true (by first | (with_reducible assumption) | assumption)) t280)))); refine store_event (t := 52) (p := 151) (v := ?vo_w45) (w1 := (wr.setCell ⟨gq_, off_ + (x124_3 : Int).toNat, none⟩ (.int .u32 t280))) ?hg ?ho ?hn ?hr ?_; (case ho => rfl); (case hg => rfl); (case hn => rfl); (case hr => first | (go_simp; done) | (go_simp; rfl)); intro w45 hw; have hg : wr.grownBy w45 (some gq_) := (by rw [hw]; exact HP44.2); have hp_ : Win.WR pre_ post_ off_ cc_ w45 w0.heap.size (fun k_ => (P0_ k_ ∨ w.heap.size ≤ k_)) (.slice (some ⟨gq_, off_, none⟩) x0_3.length co11) y282 := (by rw [hw, Ny282.out]; exact HP44.1); clear HP44; have n0_ := Aside0.mk (hp_); have n1_ := Aside0.mk ((by rw [hw]; exact below_set (HB.out) GB43.out : Below w0.heap.size w0 w45)); have n2_ := Aside0.mk (Kept.of_grown (S := (fun k_ => P0_ k_)) hg (by repeat (first | (with_reducible first | exact HK.out | apply Kept.alloc | apply Kept.drewN | apply Kept.drew) | exact HK.out)) (fun k_ e_ => (HO_0.out.1 k_ e_))); clear HO_0; clear HB; clear HK; have HO_0 := n0_; have HB := n1_; have HK := n2_; clear n0_ n1_ n2_; clear hg hw hp_))
                                        repeat (go_quiet (first | (go_at_call 44; (with_reducible refine (nat_low_uint64.calls (IntKind.u64.wrap ((IntKind.u64.wrap (x9_3 + (IntKind.u64.wrap (rd x0_3 x124_3)))) + (IntKind.u64.wrap (rd l1 x124_3)))) t280 t281 _ A42.out).mono ?_); rintro e w' ⟨rfl, ⟨nd, rfl⟩⟩; (try first | exact ⟨rfl, _, World.drewN_drewN _ _ _⟩ | exact ⟨rfl, _, Eq.trans (World.drewN_drewN _ _ _) (congrArg (World.drewN _) (Nat.add_assoc _ _ _))⟩); have p43 : 0 ≤ (x124_3 : Int) := of_decide_eq_true (by first | (with_reducible assumption) | assumption); have q43 : (x124_3 : Int) < ((x0_3.length : Int) : Int) := of_decide_eq_true (by first | (with_reducible assumption) | assumption); obtain ⟨gb43, gl43, cl43, HG43⟩ := Win.WR_form2 HO_0.out (by omega); have GB43 := Aside0.mk gb43; have GG43 := Aside0.mk HG43; clear gb43 gl43 HG43; have HMgo43 := Aside0.mk (show (P0_ gq_ ∨ w.heap.size ≤ gq_) from (HO_0.out.1 _ rfl)); (first | simp only [add_at] at hx278_0 | skip); obtain ⟨hx43_0, hf43_0⟩ := Win.WR_celln 0 HO_0.out (x124_3 : Int) p43 q43; replace p43 := eq_true p43; replace q43 := eq_true q43; obtain ⟨hy44_, hz44_⟩ := Win.WR_celln 0 HO_0.out (x124_3 : Int) (of_decide_eq_true (by first | (with_reducible assumption) | assumption)) (of_decide_eq_true (by first | (with_reducible assumption) | assumption)); have HP44 := Win.WR_putg HO_0.out (x124_3 : Int) (of_decide_eq_true (by first | (with_reducible assumption) | assumption)) (of_decide_eq_true (by first | (with_reducible assumption) | assumption)) t280) | ((with_reducible refine gate_store (t := 52) (p := 151) rfl ?_); (try (rw [drewN_self wr]; generalize hq_ : World.drewN wr _ = wr; have n0_ := Aside0.mk (Win.WR_at hq_ HO_0.out); have n1_ := Aside0.mk (kept_at hq_ HK.out); have n2_ := Aside0.mk (below_at hq_ HB.out); clear hq_ HO_0 HK HB; have HO_0 := n0_; have HK := n1_; have HB := n2_; clear n0_ n1_ n2_; (try (obtain ⟨hy44_, hz44_⟩ := Win.WR_celln 0 HO_0.out (x124_3 : Int) (of_decide_eq_true (by first | (with_reducible assumption) | assumption)) (of_decide_eq_true (by first | (with_reducible assumption) | assumption)))); (try (have HP44 := Win.WR_putg HO_0.out (x124_3 : Int) (of_decide_eq_true (by first | (with_reducible assumption) | assumption)) (of_decide_eq_true (by first | (with_reducible assumption) | assumption)) t280)))); refine store_event (t := 52) (p := 151) (v := ?vo_w45) (w1 := (wr.setCell ⟨gq_, off_ + (x124_3 : Int).toNat, none⟩ (.int .u32 t280))) ?hg ?ho ?hn ?hr ?_; (case ho => rfl); (case hg => rfl); (case hn => rfl); (case hr => first | (go_simp; done) | (go_simp; rfl)); intro w45 hw; have hg : wr.grownBy w45 (some gq_) := (by rw [hw]; exact HP44.2); have hp_ : Win.WR pre_ post_ off_ cc_ w45 w0.heap.size (fun k_ => (P0_ k_ ∨ w.heap.size ≤ k_)) (.slice (some ⟨gq_, off_, none⟩) x0_3.length co11) y282 := (by rw [hw, Ny282.out]; exact HP44.1); clear HP44; have n0_ := Aside0.mk (hp_); have n1_ := Aside0.mk ((by rw [hw]; exact below_set (HB.out) GB43.out : Below w0.heap.size w0 w45)); have n2_ := Aside0.mk (Kept.of_grown (S := (fun k_ => P0_ k_)) hg (by repeat (first | (with_reducible first | exact HK.out | apply Kept.alloc | apply Kept.drewN | apply Kept.drew) | exact HK.out)) (fun k_ e_ => (HO_0.out.1 k_ e_))); clear HO_0; clear HB; clear HK; have HO_0 := n0_; have HB := n1_; have HK := n2_; clear n0_ n1_ n2_; clear hg hw hp_)); try go_wp2_with (first | (go_at_call 44; (with_reducible refine (nat_low_uint64.calls (IntKind.u64.wrap ((IntKind.u64.wrap (x9_3 + (IntKind.u64.wrap (rd x0_3 x124_3)))) + (IntKind.u64.wrap (rd l1 x124_3)))) t280 t281 _ A42.out).mono ?_); rintro e w' ⟨rfl, ⟨nd, rfl⟩⟩; (try first | exact ⟨rfl, _, World.drewN_drewN _ _ _⟩ | exact ⟨rfl, _, Eq.trans (World.drewN_drewN _ _ _) (congrArg (World.drewN _) (Nat.add_assoc _ _ _))⟩); have p43 : 0 ≤ (x124_3 : Int) := of_decide_eq_true (by first | (with_reducible assumption) | assumption); have q43 : (x124_3 : Int) < ((x0_3.length : Int) : Int) := of_decide_eq_true (by first | (with_reducible assumption) | assumption); obtain ⟨gb43, gl43, cl43, HG43⟩ := Win.WR_form2 HO_0.out (by omega); have GB43 := Aside0.mk gb43; have GG43 := Aside0.mk HG43; clear gb43 gl43 HG43; have HMgo43 := Aside0.mk (show (P0_ gq_ ∨ w.heap.size ≤ gq_) from (HO_0.out.1 _ rfl)); (first | simp only [add_at] at hx278_0 | skip); obtain ⟨hx43_0, hf43_0⟩ := Win.WR_celln 0 HO_0.out (x124_3 : Int) p43 q43; replace p43 := eq_true p43; replace q43 := eq_true q43; obtain ⟨hy44_, hz44_⟩ := Win.WR_celln 0 HO_0.out (x124_3 : Int) (of_decide_eq_true (by first | (with_reducible assumption) | assumption)) (of_decide_eq_true (by first | (with_reducible assumption) | assumption)); have HP44 := Win.WR_putg HO_0.out (x124_3 : Int) (of_decide_eq_true (by first | (with_reducible assumption) | assumption)) (of_decide_eq_true (by first | (with_reducible assumption) | assumption)) t280) | ((with_reducible refine gate_store (t := 52) (p := 151) rfl ?_); (try (rw [drewN_self wr]; generalize hq_ : World.drewN wr _ = wr; have n0_ := Aside0.mk (Win.WR_at hq_ HO_0.out); have n1_ := Aside0.mk (kept_at hq_ HK.out); have n2_ := Aside0.mk (below_at hq_ HB.out); clear hq_ HO_0 HK HB; have HO_0 := n0_; have HK := n1_; have HB := n2_; clear n0_ n1_ n2_; (try (obtain ⟨hy44_, hz44_⟩ := Win.WR_celln 0 HO_0.out (x124_3 : Int) (of_decide_eq_true (by first | (with_reducible assumption) | assumption)) (of_decide_eq_true (by first | (with_reducible assumption) | assumption)))); (try (have HP44 := Win.WR_putg HO_0.out (x124_3 : Int) (of_decide_eq_true (by first | (with_reducible assumption) | assumption)) (of_decide_eq_true (by first | (with_reducible assumption) | assumption)) t280)))); refine store_event (t := 52) (p := 151) (v := ?vo_w45) (w1 := (wr.setCell ⟨gq_, off_ + (x124_3 : Int).toNat, none⟩ (.int .u32 t280))) ?hg ?ho ?hn ?hr ?_; (case ho => rfl); (case hg => rfl); (case hn => rfl); (case hr => first | (go_simp; done) | (go_simp; rfl)); intro w45 hw; have hg : wr.grownBy w45 (some gq_) := (by rw [hw]; exact HP44.2); have hp_ : Win.WR pre_ post_ off_ cc_ w45 w0.heap.size (fun k_ => (P0_ k_ ∨ w.heap.size ≤ k_)) (.slice (some ⟨gq_, off_, none⟩) x0_3.length co11) y282 := (by rw [hw, Ny282.out]; exact HP44.1); clear HP44; have n0_ := Aside0.mk (hp_); have n1_ := Aside0.mk ((by rw [hw]; exact below_set (HB.out) GB43.out : Below w0.heap.size w0 w45)); have n2_ := Aside0.mk (Kept.of_grown (S := (fun k_ => P0_ k_)) hg (by repeat (first | (with_reducible first | exact HK.out | apply Kept.alloc | apply Kept.drewN | apply Kept.drew) | exact HK.out)) (fun k_ e_ => (HO_0.out.1 k_ e_))); clear HO_0; clear HB; clear HK; have HO_0 := n0_; have HB := n1_; have HK := n2_; clear n0_ n1_ n2_; clear hg hw hp_)))
                                        (try simp only [← hl0_3])
                                        go_roundg k3
                                        case measure => have := HJ9.out; have := HK2.out; have := HK3.out; omega
                                        case rel => exact ⟨(y282), (t281), (wrap64 (x124_3 + 1)), (by first | rfl | (simp; done) | (simp [*]; done) | (simp [*] <;> decide +kernel)), (by first | rfl | (simp; done) | (simp [*]; done) | (simp [*] <;> decide +kernel)), H', ⟨by have := HJ9.out; have := HK2.out; have := HK3.out; omega⟩, ⟨by (try simp only [hl0_2]); (try simp only [hl0_3]); (with_reducible repeat (first | apply Win.WR_alloc | apply Win.WR_drewN | apply Win.WR_drew)); exact HO_0.out⟩, ⟨by repeat (first | (with_reducible first | exact HK.out | apply Kept.alloc | apply Kept.drewN | apply Kept.drew) | exact HK.out)⟩, ⟨by repeat (first | (with_reducible first | exact HB.out | apply below_alloc | apply pw_below_drewN | apply below_drew1) | exact HB.out)⟩⟩
                                      · rw [if_neg c41] at H
                                        exact absurd H (by simp)
                                    · rw [if_neg c40] at H
                                      have c40b0 : decide (x124_3 < (l1.length : Int)) = false := decide_eq_false c40
                                      (try (have c40z0 := c40b0; simp only [hl0_2] at c40z0))
                                      (try (have c40z1 := c40b0; simp only [hl0_3] at c40z1))
                                      clear c40
                                      replace H := Option.bind_eq_some_iff.mp H
                                      obtain ⟨⟨t283, t284⟩, A460, H⟩ := H
                                      replace H : (nat_digitw.l2 k3 (x0_3.set (x124_3 : Int).toNat t283) l1 (l1.length : Int) x7_9 t284 (x0_2.length : Int) (wrap64 (x124_3 + 1))) = some (r1, r2) := H
                                      have A46 := Aside0.mk A460
                                      clear A460
                                      obtain ⟨y285, hy285⟩ : ∃ y_ : List Int, y_ = (x0_3.set (x124_3 : Int).toNat t283) := ⟨_, rfl⟩
                                      replace H : (nat_digitw.l2 k3 y285 l1 (l1.length : Int) x7_9 t284 (x0_2.length : Int) (wrap64 (x124_3 + 1))) = some (r1, r2) := by first | (rw [hy285]; with_reducible exact H) | (have H2_ := (Option.bind_some _ _).symm.trans H; rw [hy285]; with_reducible exact H2_) | (have H2_ := (Option.bind_some _ _).symm.trans H; with_reducible exact H2_) | with_reducible exact H | (rw [hy285]; exact H) | exact H
                                      have Ny285 := Aside0.mk hy285
                                      clear hy285
                                      have H' := Aside0.mk H
                                      clear H
                                      have p278 : 0 ≤ (x124_3 : Int) := of_decide_eq_true (by first | (with_reducible assumption) | assumption)
                                      have q278 : x124_3 < (x0_3.length : Int) := of_decide_eq_true (by first | (with_reducible assumption) | assumption)
                                      obtain ⟨ad278, e278, hx278_0⟩ := Kd.at_int (Win.WR_reads' HO_0.out).2.2 x124_3 p278 q278
                                      obtain rfl : (⟨gq_, off_, none⟩ : Addr) = ad278 := (by injection e278)
                                      (try simp only [add_at] at hx278_0)
                                      replace p278 := eq_true p278
                                      replace q278 := eq_true q278
                                      go_wp2_with (first | (go_at_call 44; (with_reducible refine (nat_low_uint64.calls (IntKind.u64.wrap (x9_3 + (IntKind.u64.wrap (rd x0_3 x124_3)))) t283 t284 _ A46.out).mono ?_); rintro e w' ⟨rfl, ⟨nd, rfl⟩⟩; (try first | exact ⟨rfl, _, World.drewN_drewN _ _ _⟩ | exact ⟨rfl, _, Eq.trans (World.drewN_drewN _ _ _) (congrArg (World.drewN _) (Nat.add_assoc _ _ _))⟩); have p47 : 0 ≤ (x124_3 : Int) := of_decide_eq_true (by first | (with_reducible assumption) | assumption); have q47 : (x124_3 : Int) < ((x0_3.length : Int) : Int) := of_decide_eq_true (by first | (with_reducible assumption) | assumption); obtain ⟨gb47, gl47, cl47, HG47⟩ := Win.WR_form2 HO_0.out (by omega); have GB47 := Aside0.mk gb47; have GG47 := Aside0.mk HG47; clear gb47 gl47 HG47; have HMgo47 := Aside0.mk (show (P0_ gq_ ∨ w.heap.size ≤ gq_) from (HO_0.out.1 _ rfl)); (first | simp only [add_at] at hx278_0 | skip); obtain ⟨hx47_0, hf47_0⟩ := Win.WR_celln 0 HO_0.out (x124_3 : Int) p47 q47; replace p47 := eq_true p47; replace q47 := eq_true q47; obtain ⟨hy48_, hz48_⟩ := Win.WR_celln 0 HO_0.out (x124_3 : Int) (of_decide_eq_true (by first | (with_reducible assumption) | assumption)) (of_decide_eq_true (by first | (with_reducible assumption) | assumption)); have HP48 := Win.WR_putg HO_0.out (x124_3 : Int) (of_decide_eq_true (by first | (with_reducible assumption) | assumption)) (of_decide_eq_true (by first | (with_reducible assumption) | assumption)) t283) | ((with_reducible refine gate_store (t := 52) (p := 151) rfl ?_); (try (rw [drewN_self wr]; generalize hq_ : World.drewN wr _ = wr; have n0_ := Aside0.mk (Win.WR_at hq_ HO_0.out); have n1_ := Aside0.mk (kept_at hq_ HK.out); have n2_ := Aside0.mk (below_at hq_ HB.out); clear hq_ HO_0 HK HB; have HO_0 := n0_; have HK := n1_; have HB := n2_; clear n0_ n1_ n2_; (try (obtain ⟨hy48_, hz48_⟩ := Win.WR_celln 0 HO_0.out (x124_3 : Int) (of_decide_eq_true (by first | (with_reducible assumption) | assumption)) (of_decide_eq_true (by first | (with_reducible assumption) | assumption)))); (try (have HP48 := Win.WR_putg HO_0.out (x124_3 : Int) (of_decide_eq_true (by first | (with_reducible assumption) | assumption)) (of_decide_eq_true (by first | (with_reducible assumption) | assumption)) t283)))); refine store_event (t := 52) (p := 151) (v := ?vo_w49) (w1 := (wr.setCell ⟨gq_, off_ + (x124_3 : Int).toNat, none⟩ (.int .u32 t283))) ?hg ?ho ?hn ?hr ?_; (case ho => rfl); (case hg => rfl); (case hn => rfl); (case hr => first | (go_simp; done) | (go_simp; rfl)); intro w49 hw; have hg : wr.grownBy w49 (some gq_) := (by rw [hw]; exact HP48.2); have hp_ : Win.WR pre_ post_ off_ cc_ w49 w0.heap.size (fun k_ => (P0_ k_ ∨ w.heap.size ≤ k_)) (.slice (some ⟨gq_, off_, none⟩) x0_3.length co11) y285 := (by rw [hw, Ny285.out]; exact HP48.1); clear HP48; have n0_ := Aside0.mk (hp_); have n1_ := Aside0.mk ((by rw [hw]; exact below_set (HB.out) GB47.out : Below w0.heap.size w0 w49)); have n2_ := Aside0.mk (Kept.of_grown (S := (fun k_ => P0_ k_)) hg (by repeat (first | (with_reducible first | exact HK.out | apply Kept.alloc | apply Kept.drewN | apply Kept.drew) | exact HK.out)) (fun k_ e_ => (HO_0.out.1 k_ e_))); clear HO_0; clear HB; clear HK; have HO_0 := n0_; have HB := n1_; have HK := n2_; clear n0_ n1_ n2_; clear hg hw hp_))
                                      repeat (go_quiet (first | (go_at_call 44; (with_reducible refine (nat_low_uint64.calls (IntKind.u64.wrap (x9_3 + (IntKind.u64.wrap (rd x0_3 x124_3)))) t283 t284 _ A46.out).mono ?_); rintro e w' ⟨rfl, ⟨nd, rfl⟩⟩; (try first | exact ⟨rfl, _, World.drewN_drewN _ _ _⟩ | exact ⟨rfl, _, Eq.trans (World.drewN_drewN _ _ _) (congrArg (World.drewN _) (Nat.add_assoc _ _ _))⟩); have p47 : 0 ≤ (x124_3 : Int) := of_decide_eq_true (by first | (with_reducible assumption) | assumption); have q47 : (x124_3 : Int) < ((x0_3.length : Int) : Int) := of_decide_eq_true (by first | (with_reducible assumption) | assumption); obtain ⟨gb47, gl47, cl47, HG47⟩ := Win.WR_form2 HO_0.out (by omega); have GB47 := Aside0.mk gb47; have GG47 := Aside0.mk HG47; clear gb47 gl47 HG47; have HMgo47 := Aside0.mk (show (P0_ gq_ ∨ w.heap.size ≤ gq_) from (HO_0.out.1 _ rfl)); (first | simp only [add_at] at hx278_0 | skip); obtain ⟨hx47_0, hf47_0⟩ := Win.WR_celln 0 HO_0.out (x124_3 : Int) p47 q47; replace p47 := eq_true p47; replace q47 := eq_true q47; obtain ⟨hy48_, hz48_⟩ := Win.WR_celln 0 HO_0.out (x124_3 : Int) (of_decide_eq_true (by first | (with_reducible assumption) | assumption)) (of_decide_eq_true (by first | (with_reducible assumption) | assumption)); have HP48 := Win.WR_putg HO_0.out (x124_3 : Int) (of_decide_eq_true (by first | (with_reducible assumption) | assumption)) (of_decide_eq_true (by first | (with_reducible assumption) | assumption)) t283) | ((with_reducible refine gate_store (t := 52) (p := 151) rfl ?_); (try (rw [drewN_self wr]; generalize hq_ : World.drewN wr _ = wr; have n0_ := Aside0.mk (Win.WR_at hq_ HO_0.out); have n1_ := Aside0.mk (kept_at hq_ HK.out); have n2_ := Aside0.mk (below_at hq_ HB.out); clear hq_ HO_0 HK HB; have HO_0 := n0_; have HK := n1_; have HB := n2_; clear n0_ n1_ n2_; (try (obtain ⟨hy48_, hz48_⟩ := Win.WR_celln 0 HO_0.out (x124_3 : Int) (of_decide_eq_true (by first | (with_reducible assumption) | assumption)) (of_decide_eq_true (by first | (with_reducible assumption) | assumption)))); (try (have HP48 := Win.WR_putg HO_0.out (x124_3 : Int) (of_decide_eq_true (by first | (with_reducible assumption) | assumption)) (of_decide_eq_true (by first | (with_reducible assumption) | assumption)) t283)))); refine store_event (t := 52) (p := 151) (v := ?vo_w49) (w1 := (wr.setCell ⟨gq_, off_ + (x124_3 : Int).toNat, none⟩ (.int .u32 t283))) ?hg ?ho ?hn ?hr ?_; (case ho => rfl); (case hg => rfl); (case hn => rfl); (case hr => first | (go_simp; done) | (go_simp; rfl)); intro w49 hw; have hg : wr.grownBy w49 (some gq_) := (by rw [hw]; exact HP48.2); have hp_ : Win.WR pre_ post_ off_ cc_ w49 w0.heap.size (fun k_ => (P0_ k_ ∨ w.heap.size ≤ k_)) (.slice (some ⟨gq_, off_, none⟩) x0_3.length co11) y285 := (by rw [hw, Ny285.out]; exact HP48.1); clear HP48; have n0_ := Aside0.mk (hp_); have n1_ := Aside0.mk ((by rw [hw]; exact below_set (HB.out) GB47.out : Below w0.heap.size w0 w49)); have n2_ := Aside0.mk (Kept.of_grown (S := (fun k_ => P0_ k_)) hg (by repeat (first | (with_reducible first | exact HK.out | apply Kept.alloc | apply Kept.drewN | apply Kept.drew) | exact HK.out)) (fun k_ e_ => (HO_0.out.1 k_ e_))); clear HO_0; clear HB; clear HK; have HO_0 := n0_; have HB := n1_; have HK := n2_; clear n0_ n1_ n2_; clear hg hw hp_)); try go_wp2_with (first | (go_at_call 44; (with_reducible refine (nat_low_uint64.calls (IntKind.u64.wrap (x9_3 + (IntKind.u64.wrap (rd x0_3 x124_3)))) t283 t284 _ A46.out).mono ?_); rintro e w' ⟨rfl, ⟨nd, rfl⟩⟩; (try first | exact ⟨rfl, _, World.drewN_drewN _ _ _⟩ | exact ⟨rfl, _, Eq.trans (World.drewN_drewN _ _ _) (congrArg (World.drewN _) (Nat.add_assoc _ _ _))⟩); have p47 : 0 ≤ (x124_3 : Int) := of_decide_eq_true (by first | (with_reducible assumption) | assumption); have q47 : (x124_3 : Int) < ((x0_3.length : Int) : Int) := of_decide_eq_true (by first | (with_reducible assumption) | assumption); obtain ⟨gb47, gl47, cl47, HG47⟩ := Win.WR_form2 HO_0.out (by omega); have GB47 := Aside0.mk gb47; have GG47 := Aside0.mk HG47; clear gb47 gl47 HG47; have HMgo47 := Aside0.mk (show (P0_ gq_ ∨ w.heap.size ≤ gq_) from (HO_0.out.1 _ rfl)); (first | simp only [add_at] at hx278_0 | skip); obtain ⟨hx47_0, hf47_0⟩ := Win.WR_celln 0 HO_0.out (x124_3 : Int) p47 q47; replace p47 := eq_true p47; replace q47 := eq_true q47; obtain ⟨hy48_, hz48_⟩ := Win.WR_celln 0 HO_0.out (x124_3 : Int) (of_decide_eq_true (by first | (with_reducible assumption) | assumption)) (of_decide_eq_true (by first | (with_reducible assumption) | assumption)); have HP48 := Win.WR_putg HO_0.out (x124_3 : Int) (of_decide_eq_true (by first | (with_reducible assumption) | assumption)) (of_decide_eq_true (by first | (with_reducible assumption) | assumption)) t283) | ((with_reducible refine gate_store (t := 52) (p := 151) rfl ?_); (try (rw [drewN_self wr]; generalize hq_ : World.drewN wr _ = wr; have n0_ := Aside0.mk (Win.WR_at hq_ HO_0.out); have n1_ := Aside0.mk (kept_at hq_ HK.out); have n2_ := Aside0.mk (below_at hq_ HB.out); clear hq_ HO_0 HK HB; have HO_0 := n0_; have HK := n1_; have HB := n2_; clear n0_ n1_ n2_; (try (obtain ⟨hy48_, hz48_⟩ := Win.WR_celln 0 HO_0.out (x124_3 : Int) (of_decide_eq_true (by first | (with_reducible assumption) | assumption)) (of_decide_eq_true (by first | (with_reducible assumption) | assumption)))); (try (have HP48 := Win.WR_putg HO_0.out (x124_3 : Int) (of_decide_eq_true (by first | (with_reducible assumption) | assumption)) (of_decide_eq_true (by first | (with_reducible assumption) | assumption)) t283)))); refine store_event (t := 52) (p := 151) (v := ?vo_w49) (w1 := (wr.setCell ⟨gq_, off_ + (x124_3 : Int).toNat, none⟩ (.int .u32 t283))) ?hg ?ho ?hn ?hr ?_; (case ho => rfl); (case hg => rfl); (case hn => rfl); (case hr => first | (go_simp; done) | (go_simp; rfl)); intro w49 hw; have hg : wr.grownBy w49 (some gq_) := (by rw [hw]; exact HP48.2); have hp_ : Win.WR pre_ post_ off_ cc_ w49 w0.heap.size (fun k_ => (P0_ k_ ∨ w.heap.size ≤ k_)) (.slice (some ⟨gq_, off_, none⟩) x0_3.length co11) y285 := (by rw [hw, Ny285.out]; exact HP48.1); clear HP48; have n0_ := Aside0.mk (hp_); have n1_ := Aside0.mk ((by rw [hw]; exact below_set (HB.out) GB47.out : Below w0.heap.size w0 w49)); have n2_ := Aside0.mk (Kept.of_grown (S := (fun k_ => P0_ k_)) hg (by repeat (first | (with_reducible first | exact HK.out | apply Kept.alloc | apply Kept.drewN | apply Kept.drew) | exact HK.out)) (fun k_ e_ => (HO_0.out.1 k_ e_))); clear HO_0; clear HB; clear HK; have HO_0 := n0_; have HB := n1_; have HK := n2_; clear n0_ n1_ n2_; clear hg hw hp_)))
                                      (try simp only [← hl0_3])
                                      go_roundg k3
                                      case measure => have := HJ9.out; have := HK2.out; have := HK3.out; omega
                                      case rel => exact ⟨(y285), (t284), (wrap64 (x124_3 + 1)), (by first | rfl | (simp; done) | (simp [*]; done) | (simp [*] <;> decide +kernel)), (by first | rfl | (simp; done) | (simp [*]; done) | (simp [*] <;> decide +kernel)), H', ⟨by have := HJ9.out; have := HK2.out; have := HK3.out; omega⟩, ⟨by (try simp only [hl0_2]); (try simp only [hl0_3]); (with_reducible repeat (first | apply Win.WR_alloc | apply Win.WR_drewN | apply Win.WR_drew)); exact HO_0.out⟩, ⟨by repeat (first | (with_reducible first | exact HK.out | apply Kept.alloc | apply Kept.drewN | apply Kept.drew) | exact HK.out)⟩, ⟨by repeat (first | (with_reducible first | exact HB.out | apply below_alloc | apply pw_below_drewN | apply below_drew1) | exact HB.out)⟩⟩
                                  · rw [if_neg c39] at H
                                    exact absurd H (by simp)
                                · rw [if_neg c38] at H
                                  exact absurd H (by simp)
                              · rw [if_neg c37] at H
                                have c37b0 : decide (x124_3 < (x0_2.length : Int)) = false := decide_eq_false c37
                                (try (have c37z0 := c37b0; simp only [hl0_2] at c37z0))
                                (try (have c37z1 := c37b0; simp only [hl0_3] at c37z1))
                                clear c37
                                simp only [Option.some.injEq, Prod.mk.injEq] at H
                                obtain ⟨rfl, rfl⟩ := H
                                go_wp2
                                repeat (go_quiet (fail); try go_wp2)
                                go_ret
                                exact ⟨by first | rfl | (simp [errW_none, errW_some] <;> rfl) | (simp only [← hji5]; first | rfl | (simp [errW_none, errW_some] <;> rfl)) | (simp [*, errW_none, errW_some] <;> rfl), (by first | exact (by (with_reducible repeat (first | apply Win.WR_alloc | apply Win.WR_drewN | apply Win.WR_drew)); exact HO_0.out) | (simp only [hl0_2, hl0_3]; exact (by (with_reducible repeat (first | apply Win.WR_alloc | apply Win.WR_drewN | apply Win.WR_drew)); exact HO_0.out))), by repeat (first | (with_reducible first | exact HB.out | apply below_alloc | apply pw_below_drewN | apply below_drew1) | exact HB.out), by repeat (first | (with_reducible first | exact HK.out | apply Kept.alloc | apply Kept.drewN | apply Kept.drew) | exact HK.out)⟩
          · rw [if_neg c8] at H
            exact absurd H (by simp)
        · rw [if_neg c7] at H
          exact absurd H (by simp)
      · rw [if_neg c6] at H
        exact absurd H (by simp)
    · rw [if_neg c4] at H
      exact absurd H (by simp)
  · rw [if_neg c3] at H
    exact absurd H (by simp)
def nat_digit.f (k : Nat) (l0 : List Int) (a1 : Int) (a2 : Int) (l3 : List Int) : Option (Int × List Int) :=
  if 0 ≤ a1 ∧ a1 < a2 ∧ a2 ≤ l0.length then (nat_digitw.f k ((l0.take a2.toNat).drop a1.toNat) l3).bind fun r => if r.2.length = ((l0.take a2.toNat).drop a1.toNat).length then some (r.1, l0.take a1.toNat ++ r.2 ++ l0.drop a2.toNat) else none else none
theorem nat_digit.mono : ∀ a0 a1 a2 a3 k, LeO (nat_digit.f k a0 a1 a2 a3) (nat_digit.f (k + 1) a0 a1 a2 a3) := by
  intro a0 a1 a2 a3 k
  unfold nat_digit.f
  exact LeO.ite (LeO.bind (nat_digitw.mono _ _ k) fun _ => LeO.refl _) (LeO.refl _)
theorem nat_digit.in_ {k : Nat} {l0 : List Int} {a1 a2 : Int} {l3 : List Int} {r : Int × List Int} (h : nat_digit.f k l0 a1 a2 l3 = some r) : 0 ≤ a1 ∧ a1 < a2 ∧ a2 ≤ l0.length := by
  unfold nat_digit.f at h
  by_cases hc : 0 ≤ a1 ∧ a1 < a2 ∧ a2 ≤ l0.length
  · exact hc
  · rw [if_neg hc] at h
    cases h
theorem nat_digit.calls (k : Nat) (P0_ : Nat → Prop) (u9000_ : Value) (l0 : List Int) (a1 : Int) (a2 : Int) (A3 : Option Addr) (c3 : Nat) (l3 : List Int) (r1 : Int) (r2 : List Int) (w0 w : World) (hB : Below w0.heap.size w0 w) (ho0 : Kd.R (Kd.int .u32) 52 w w0.heap.size P0_ u9000_ l0) (hr3 : ∀ W_, Kept w W_ (fun k_ => P0_ k_) → Kd.C (Kd.int .u32) W_ A3 l3.length l3) (hc3 : l3.length ≤ c3) (h : nat_digit.f k l0 a1 a2 l3 = some (r1, r2)) :
    Calls Try.prog 60 #[Win.cutV u9000_ a1 a2, .slice A3 l3.length c3] w fun e w' => e = .returned (.int .u32 r1) ∧ Kd.R (Kd.int .u32) 52 w' w0.heap.size (fun k_ => (P0_ k_ ∨ w.heap.size ≤ k_)) u9000_ r2 ∧ Below w0.heap.size w0 w' ∧ Kept w w' (fun k_ => P0_ k_) := by
  have hc := nat_digit.in_ h
  unfold nat_digit.f at h
  rw [if_pos hc] at h
  obtain ⟨⟨q1, q2⟩, hq, h⟩ := Option.bind_eq_some_iff.mp h
  by_cases hl : q2.length = ((l0.take a2.toNat).drop a1.toNat).length
  · rw [if_pos hl] at h
    have h2 := Option.some.inj h
    injection h2 with e1 e2
    subst e1
    subst e2
    obtain ⟨A, cc, rfl⟩ := Kd.R_slice ho0
    refine (nat_digitw.calls (l0.take a1.toNat) (l0.drop a2.toNat) a1.toNat cc k P0_ _ _ A3 c3 l3 q1 q2 w0 w hB (Win.WR_of_R ho0 a1 a2 hc.1 hc.2.1 hc.2.2) hr3 hc3 hq).mono ?_
    rintro e w' ⟨rfl, h1, h2, h3⟩
    exact ⟨rfl, Win.R_of_WR ho0 a1 a2 hc.1 hc.2.1 hc.2.2 ⟨A, rfl⟩ hl h1, h2, h3⟩
  · rw [if_neg hl] at h
    cases h
end Go.Proofs.Ytflccadclkddoaa.PNatDivs
