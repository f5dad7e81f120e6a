-- Written by a program of this session out of the kit's print (print.py, its switches or its text changed): not the kit's own print
import Derived.Test.YtjefhpbliihonaaDoorPFbitsIntsx0
import Derived.Test.YtjefhpbliihonaaDoorPFbitsIntsx1
import Derived.Test.YtjefhpbliihonaaDoorPFbitsIntsx3
import Derived.Test.YtjefhpbliihonaaDoorPFbitsIntsx5
namespace Go.Proofs.YtjefhpbliihonaaDoor.PFbitsInts
open Go.RowKit Go.Proofs.YtjefhpbliihonaaDoorW.PrintWords Go.Proofs.YtjefhpbliihonaaDoorW.PrintLast Go.Proofs.YtjefhpbliihonaaDoorW.PrintMore
attribute [local go_sem] max2_int min2_int max_two min_two max_three min_three max_four min_four   -- for this text's walks alone
set_option linter.unusedVariables false
set_option linter.unusedSimpArgs false

/-! ### glossatorlaw05_awake: function 8 -/
def glossatorlaw05_awake.f (k : Nat)  : Option (Bool) := (fbits_Widen.f k 16 15360).bind fun bt227 => (if bt227.2 = 0 then (some (bt227.1 == 4607182418800017408)) else (some false))
theorem glossatorlaw05_awake.mono : ∀ k, LeO (glossatorlaw05_awake.f k ) (glossatorlaw05_awake.f (k + 1) ) := by
  intro  k
  unfold glossatorlaw05_awake.f
  repeat' first
      | (with_reducible exact fbits_Widen.mono _ _ _)
      | (with_reducible exact LeO.refl _)
      | (with_reducible exact LeO.none _)
      | (with_reducible refine LeO.ite ?_ ?_)
      | (with_reducible refine LeO.bind ?_ (fun _ => ?_))
      | exact fbits_Widen.mono _ _ _
      | exact LeO.none _
      | refine LeO.ite ?_ ?_
      | refine LeO.bind ?_ (fun _ => ?_)
set_option maxHeartbeats 8000000 in
set_option maxRecDepth 100000 in
theorem glossatorlaw05_awake.calls (k : Nat)  (r : Bool) (w : World) (h : glossatorlaw05_awake.f k  = some r) :
    Calls Tryd.prog 8 #[] w fun e w' => e = .returned (.bool r) ∧ Below w.heap.size w w' := by
  have HB := Aside0.mk (Below.refl w.heap.size w)
  have H : ((fbits_Widen.f k 16 15360).bind fun bt227 => (if bt227.2 = 0 then (some (bt227.1 == 4607182418800017408)) else (some false))) = some r := h
  clear h
  replace H := Option.bind_eq_some_iff.mp H
  obtain ⟨⟨t227, t228⟩, A10, H⟩ := H
  replace H : (if t228 = 0 then (some (t227 == 4607182418800017408)) else (some false)) = some r := H
  have A1 := Aside0.mk A10
  clear A10
  by_cases c2 : t228 = 0
  · rw [if_pos c2] at H
    have c2b0 : (t228 == 0) = true := beq_iff_eq.mpr c2
    have c2b1 : (t228 != 0) = false := bne_eq_false_iff_eq.mpr c2
    clear c2
    obtain rfl := Option.some.inj H
    go_enter Tryd.func8, Tryd.ntmps8
    go_wp2_with (first | ((with_reducible refine gate_callee (f := 9) rfl ?_); refine goesL_ (some 4) rfl rfl Tryd.func9 (by kernel_rfl) rfl #[.int .i64 16, .int .u64 15360] rfl (by (try simp only [List.map_toArray, List.map_cons, List.map_nil]); first | done | rfl | (simp only [List.length_drop, List.length_take]; rfl)) ?_; (with_reducible refine (fbits_Widen.calls k 16 15360 t227 t228 _ A1.out).mono ?_); rintro e w3 ⟨rfl, hb⟩; refine ⟨_, rfl, ?_⟩; have n0_ := Aside0.mk (below_step (by repeat (first | (with_reducible first | exact HB.out | apply below_alloc | apply pw_below_drewN | apply below_drew1) | exact HB.out)) hb); clear HB; have HB := n0_; clear n0_; (try clear hb); (try clear hb2); (try clear hk); (try clear hi)))
    go_ret
    exact ⟨by first | rfl | (simp [errW_none, errW_some] <;> rfl) | (simp [*, errW_none, errW_some] <;> rfl), by repeat (first | (with_reducible first | exact HB.out | apply below_alloc | apply pw_below_drewN | apply below_drew1) | exact HB.out)⟩
  · rw [if_neg c2] at H
    have c2b0 : (t228 == 0) = false := beq_eq_false_iff_ne.mpr c2
    have c2b1 : (t228 != 0) = true := bne_iff_ne.mpr c2
    obtain rfl := Option.some.inj H
    go_enter Tryd.func8, Tryd.ntmps8
    go_wp2_with (first | ((with_reducible refine gate_callee (f := 9) rfl ?_); refine goesL_ (some 4) rfl rfl Tryd.func9 (by kernel_rfl) rfl #[.int .i64 16, .int .u64 15360] rfl (by (try simp only [List.map_toArray, List.map_cons, List.map_nil]); first | done | rfl | (simp only [List.length_drop, List.length_take]; rfl)) ?_; (with_reducible refine (fbits_Widen.calls k 16 15360 t227 t228 _ A1.out).mono ?_); rintro e w4 ⟨rfl, hb⟩; refine ⟨_, rfl, ?_⟩; have n0_ := Aside0.mk (below_step (by repeat (first | (with_reducible first | exact HB.out | apply below_alloc | apply pw_below_drewN | apply below_drew1) | exact HB.out)) hb); clear HB; have HB := n0_; clear n0_; (try clear hb); (try clear hb2); (try clear hk); (try clear hi)))
    go_ret
    exact ⟨by first | rfl | (simp [errW_none, errW_some] <;> rfl) | (simp [*, errW_none, errW_some] <;> rfl), by repeat (first | (with_reducible first | exact HB.out | apply below_alloc | apply pw_below_drewN | apply below_drew1) | exact HB.out)⟩

/-! ### fbits_Int: function 11 -/
mutual
def fbits_Int.j0 : Nat → Bool → Int → Int → Bool → Bool → Option (Bool × Int × Bool)
  | 0, _, _, _, _, _ => none
  | k + 1, x5, x6, x7, x8, x22 => if x22 = true then (if x8 = true then (some (false, 0, !x5)) else (some (false, 0, false))) else ((bits_TrailingZeros64.f x6).bind fun t233 => (if 0 ≤ t233 then (if (wrap64 (x7 + t233)) < 0 then (fbits_Int.j1 k x5 (shr .u64 x6 t233) (wrap64 (x7 + t233)) true) else ((bits_Len64.f k (shr .u64 x6 t233)).bind fun t234 => (fbits_Int.j1 k x5 (shr .u64 x6 t233) (wrap64 (x7 + t233)) (decide ((wrap64 (x7 + t233)) > (wrap64 (64 - t234))))))) else (none)))
def fbits_Int.j1 : Nat → Bool → Int → Int → Bool → Option (Bool × Int × Bool)
  | 0, _, _, _, _ => none
  | k + 1, x5, x6, x7, x44 => if x44 = true then (if x5 = true then (if x6 = 1 then (fbits_Int.j2 k (x7 == 64)) else (fbits_Int.j2 k false)) else (fbits_Int.j2 k false)) else (if 0 ≤ x7 then (if x5 = true then (some (x5, IntKind.u64.wrap ((shl .u64 x6 x7) - 1), true)) else (some (x5, shl .u64 x6 x7, true))) else (none))
def fbits_Int.j2 : Nat → Bool → Option (Bool × Int × Bool)
  | 0, _ => none
  | k + 1, x53 => if x53 = true then (some (true, 18446744073709551615, true)) else (some (false, 0, false))
end
def fbits_Int.f (k : Nat) (a0 : Int) : Option (Bool × Int × Bool) := (fbits_Exact.f k a0).bind fun bt229 => (if bt229.2.2.2 = true then (fbits_Int.j0 k bt229.1 bt229.2.1 bt229.2.2.1 bt229.2.2.2 (bt229.2.1 == 0)) else (fbits_Int.j0 k bt229.1 bt229.2.1 bt229.2.2.1 bt229.2.2.2 true))
theorem fbits_Int.mono_l : ∀ k, (∀ y0 y1 y2 y3 y4, LeO (fbits_Int.j0 k y0 y1 y2 y3 y4) (fbits_Int.j0 (k + 1) y0 y1 y2 y3 y4)) ∧ (∀ y0 y1 y2 y3, LeO (fbits_Int.j1 k y0 y1 y2 y3) (fbits_Int.j1 (k + 1) y0 y1 y2 y3)) ∧ (∀ y0, LeO (fbits_Int.j2 k y0) (fbits_Int.j2 (k + 1) y0))
  | 0 => ⟨fun _ _ _ _ _ r h => by simp [fbits_Int.j0] at h, fun _ _ _ _ r h => by simp [fbits_Int.j1] at h, fun _ r h => by simp [fbits_Int.j2] at h⟩
  | k + 1 => by
    obtain ⟨ih0, ih1, ih2⟩ := fbits_Int.mono_l k
    refine ⟨?_, ?_, ?_⟩
    · intro y0 y1 y2 y3 y4
      unfold fbits_Int.j0
      repeat' first
      | (with_reducible exact ih0 _ _ _ _ _)
      | (with_reducible exact ih1 _ _ _ _)
      | (with_reducible exact ih2 _)
      | (with_reducible exact bits_Len64.mono _ _)
      | (with_reducible exact fbits_Exact.mono _ _)
      | (with_reducible exact LeO.refl _)
      | (with_reducible exact LeO.none _)
      | (with_reducible refine LeO.ite ?_ ?_)
      | (with_reducible refine LeO.bind ?_ (fun _ => ?_))
      | exact ih0 _ _ _ _ _
      | exact ih1 _ _ _ _
      | exact ih2 _
      | exact bits_Len64.mono _ _
      | exact fbits_Exact.mono _ _
      | exact LeO.none _
      | refine LeO.ite ?_ ?_
      | refine LeO.bind ?_ (fun _ => ?_)
    · intro y0 y1 y2 y3
      unfold fbits_Int.j1
      repeat' first
      | (with_reducible exact ih0 _ _ _ _ _)
      | (with_reducible exact ih1 _ _ _ _)
      | (with_reducible exact ih2 _)
      | (with_reducible exact bits_Len64.mono _ _)
      | (with_reducible exact fbits_Exact.mono _ _)
      | (with_reducible exact LeO.refl _)
      | (with_reducible exact LeO.none _)
      | (with_reducible refine LeO.ite ?_ ?_)
      | (with_reducible refine LeO.bind ?_ (fun _ => ?_))
      | exact ih0 _ _ _ _ _
      | exact ih1 _ _ _ _
      | exact ih2 _
      | exact bits_Len64.mono _ _
      | exact fbits_Exact.mono _ _
      | exact LeO.none _
      | refine LeO.ite ?_ ?_
      | refine LeO.bind ?_ (fun _ => ?_)
    · intro y0
      unfold fbits_Int.j2
      repeat' first
      | (with_reducible exact ih0 _ _ _ _ _)
      | (with_reducible exact ih1 _ _ _ _)
      | (with_reducible exact ih2 _)
      | (with_reducible exact bits_Len64.mono _ _)
      | (with_reducible exact fbits_Exact.mono _ _)
      | (with_reducible exact LeO.refl _)
      | (with_reducible exact LeO.none _)
      | (with_reducible refine LeO.ite ?_ ?_)
      | (with_reducible refine LeO.bind ?_ (fun _ => ?_))
      | exact ih0 _ _ _ _ _
      | exact ih1 _ _ _ _
      | exact ih2 _
      | exact bits_Len64.mono _ _
      | exact fbits_Exact.mono _ _
      | exact LeO.none _
      | refine LeO.ite ?_ ?_
      | refine LeO.bind ?_ (fun _ => ?_)
theorem fbits_Int.mono : ∀ a0 k, LeO (fbits_Int.f k a0) (fbits_Int.f (k + 1) a0) := by
  intro a0 k
  obtain ⟨ih0, ih1, ih2⟩ := fbits_Int.mono_l k
  unfold fbits_Int.f
  repeat' first
      | (with_reducible exact ih0 _ _ _ _ _)
      | (with_reducible exact ih1 _ _ _ _)
      | (with_reducible exact ih2 _)
      | (with_reducible exact bits_Len64.mono _ _)
      | (with_reducible exact fbits_Exact.mono _ _)
      | (with_reducible exact LeO.refl _)
      | (with_reducible exact LeO.none _)
      | (with_reducible refine LeO.ite ?_ ?_)
      | (with_reducible refine LeO.bind ?_ (fun _ => ?_))
      | exact ih0 _ _ _ _ _
      | exact ih1 _ _ _ _
      | exact ih2 _
      | exact bits_Len64.mono _ _
      | exact fbits_Exact.mono _ _
      | exact LeO.none _
      | refine LeO.ite ?_ ?_
      | refine LeO.bind ?_ (fun _ => ?_)
set_option maxHeartbeats 8000000 in
set_option maxRecDepth 100000 in
theorem fbits_Int.calls (k : Nat) (a0 : Int) (r1 : Bool) (r2 : Int) (r3 : Bool) (w : World) (hT : TabAt 0 Lib.deBruijn64tab w) (h : fbits_Int.f k a0 = some (r1, r2, r3)) :
    Calls Tryd.prog 11 #[.int .u64 a0] w fun e w' => e = .returned (.tuple #[.bool r1, .int .u64 r2, .bool r3]) ∧ Below w.heap.size w w' := by
  have HTT := Aside0.mk hT
  clear hT
  have HB := Aside0.mk (Below.refl w.heap.size w)
  have H : ((fbits_Exact.f k a0).bind fun bt229 => (if bt229.2.2.2 = true then (fbits_Int.j0 k bt229.1 bt229.2.1 bt229.2.2.1 bt229.2.2.2 (bt229.2.1 == 0)) else (fbits_Int.j0 k bt229.1 bt229.2.1 bt229.2.2.1 bt229.2.2.2 true))) = some (r1, r2, r3) := h
  clear h
  replace H := Option.bind_eq_some_iff.mp H
  obtain ⟨⟨t229, t230, t231, t232⟩, A20, H⟩ := H
  replace H : (if t232 = true then (fbits_Int.j0 k t229 t230 t231 t232 (t230 == 0)) else (fbits_Int.j0 k t229 t230 t231 t232 true)) = some (r1, r2, r3) := H
  have A2 := Aside0.mk A20
  clear A20
  have HC3 := Aside0.mk H
  clear H
  go_enter Tryd.func11, Tryd.ntmps11
  go_upto_region 2 with (first | ((with_reducible refine gate_callee (f := 7) rfl ?_); refine goesL_ (some 12) rfl rfl Tryd.func7 (by kernel_rfl) rfl #[.int .u64 a0] rfl (by (try simp only [List.map_toArray, List.map_cons, List.map_nil]); first | done | rfl | (simp only [List.length_drop, List.length_take]; rfl)) ?_; (with_reducible refine (fbits_Exact.calls k a0 t229 t230 t231 t232 _ A2.out).mono ?_); rintro e w4 ⟨rfl, hb⟩; refine ⟨_, rfl, ?_⟩; have n0_ := Aside0.mk (below_step (by repeat (first | (with_reducible first | exact HB.out | apply below_alloc | apply pw_below_drewN | apply below_drew1) | exact HB.out)) hb); clear HB; have HB := n0_; clear n0_; (try clear hb); (try clear hb2); (try clear hk); (try clear hi)))
  (try simp only [Act.put, List.setIfInBounds_toArray, List.set_cons_zero, List.set_cons_succ])
  go_cut [22] (fun v22 wc => ∃ (kq : Nat) (x22_2 : Bool), v22 = .bool x22_2 ∧ Aside0 (fbits_Int.j0 kq t229 t230 t231 t232 x22_2 = some (r1, r2, r3)) ∧ Aside0 (kq ≤ k) ∧ Aside0 (Below w.heap.size w wc))
  case first =>
    have H := HC3.out
    clear HC3
    by_cases c5 : t232 = true
    · subst c5
      have H1 : (fbits_Int.j0 k t229 t230 t231 true (t230 == 0)) = some (r1, r2, r3) := by rw [if_pos rfl] at H; exact H
      clear H
      have H := H1
      clear H1
      have H' := Aside0.mk H
      clear H
      go_wp2
      go_meet
      case rel => exact ⟨_, ((t230 == 0)), (by first | rfl | (simp; done) | (simp [*]; done) | (simp [*] <;> decide +kernel)), H', ⟨by first | omega | exact Nat.le_refl _⟩, ⟨by repeat (first | (with_reducible first | exact HB.out | apply below_alloc | apply pw_below_drewN | apply below_drew1) | exact HB.out)⟩⟩
    · replace c5 := Bool.eq_false_iff.mpr c5
      subst c5
      have H1 : (fbits_Int.j0 k t229 t230 t231 false true) = some (r1, r2, r3) := by rw [if_neg (show ¬ (false = true) by decide)] at H; exact H
      clear H
      have H := H1
      clear H1
      have H' := Aside0.mk H
      clear H
      go_wp2
      go_meet
      case rel => exact ⟨_, (true), (by first | rfl | (simp; done) | (simp [*]; done) | (simp [*] <;> decide +kernel)), H', ⟨by first | omega | exact Nat.le_refl _⟩, ⟨by repeat (first | (with_reducible first | exact HB.out | apply below_alloc | apply pw_below_drewN | apply below_drew1) | exact HB.out)⟩⟩
  case rest =>
    clear HC3
    try clear c1
    try clear p2
    try clear c5
    obtain ⟨kq, x22_2, rfl, HA, HJ2, HB⟩ := hcut
    cases kq with
    | zero => exact absurd HA.out (by simp [fbits_Int.j0])
    | succ kj2 =>
      have H := HA.out
      clear HA
      simp only [fbits_Int.j0] at H
      by_cases c6 : x22_2 = true
      · subst c6
        have H1 : (if t232 = true then (some (false, 0, !t229)) else (some (false, 0, false))) = some (r1, r2, r3) := by rw [if_pos rfl] at H; exact H
        clear H
        have H := H1
        clear H1
        by_cases c7 : t232 = true
        · subst c7
          have H1 : (some (false, 0, !t229)) = some (r1, r2, r3) := by rw [if_pos rfl] at H; exact H
          clear H
          have H := H1
          clear H1
          simp only [Option.some.injEq, Prod.mk.injEq] at H
          obtain ⟨rfl, rfl, rfl⟩ := H
          go_wp2
          go_ret3
          exact ⟨by first | rfl | (simp [errW_none, errW_some] <;> rfl) | (simp [*, errW_none, errW_some] <;> rfl), by repeat (first | (with_reducible first | exact HB.out | apply below_alloc | apply pw_below_drewN | apply below_drew1) | exact HB.out)⟩
        · replace c7 := Bool.eq_false_iff.mpr c7
          subst c7
          have H1 : (some (false, 0, false)) = some (r1, r2, r3) := by rw [if_neg (show ¬ (false = true) by decide)] at H; exact H
          clear H
          have H := H1
          clear H1
          simp only [Option.some.injEq, Prod.mk.injEq] at H
          obtain ⟨rfl, rfl, rfl⟩ := H
          go_wp2
          go_ret3
          exact ⟨by first | rfl | (simp [errW_none, errW_some] <;> rfl) | (simp [*, errW_none, errW_some] <;> rfl), by repeat (first | (with_reducible first | exact HB.out | apply below_alloc | apply pw_below_drewN | apply below_drew1) | exact HB.out)⟩
      · replace c6 := Bool.eq_false_iff.mpr c6
        subst c6
        have H1 : ((bits_TrailingZeros64.f t230).bind fun t233 => (if 0 ≤ t233 then (if (wrap64 (t231 + t233)) < 0 then (fbits_Int.j1 kj2 t229 (shr .u64 t230 t233) (wrap64 (t231 + t233)) true) else ((bits_Len64.f kj2 (shr .u64 t230 t233)).bind fun t234 => (fbits_Int.j1 kj2 t229 (shr .u64 t230 t233) (wrap64 (t231 + t233)) (decide ((wrap64 (t231 + t233)) > (wrap64 (64 - t234))))))) else (none))) = some (r1, r2, r3) := by rw [if_neg (show ¬ (false = true) by decide)] at H; exact H
        clear H
        have H := H1
        clear H1
        replace H := Option.bind_eq_some_iff.mp H
        obtain ⟨t233, A80, H⟩ := H
        replace H : (if 0 ≤ t233 then (if (wrap64 (t231 + t233)) < 0 then (fbits_Int.j1 kj2 t229 (shr .u64 t230 t233) (wrap64 (t231 + t233)) true) else ((bits_Len64.f kj2 (shr .u64 t230 t233)).bind fun t234 => (fbits_Int.j1 kj2 t229 (shr .u64 t230 t233) (wrap64 (t231 + t233)) (decide ((wrap64 (t231 + t233)) > (wrap64 (64 - t234))))))) else (none)) = some (r1, r2, r3) := H
        have A8 := Aside0.mk A80
        clear A80
        by_cases c9 : 0 ≤ t233
        · rw [if_pos c9] at H
          have c9b0 := eq_true c9
          have c9b1 : decide (0 ≤ t233) = true := decide_eq_true c9
          clear c9
          obtain ⟨ji10, hji10⟩ : ∃ j_ : Int, (shr .u64 t230 t233) = j_ := ⟨_, rfl⟩
          replace H : (if (wrap64 (t231 + t233)) < 0 then (fbits_Int.j1 kj2 t229 ji10 (wrap64 (t231 + t233)) true) else ((bits_Len64.f kj2 (ji10)).bind fun t234 => (fbits_Int.j1 kj2 t229 ji10 (wrap64 (t231 + t233)) (decide ((wrap64 (t231 + t233)) > (wrap64 (64 - t234))))))) = some (r1, r2, r3) := by first | (rw [hji10] at H; exact H) | (simp only [hji10] at H ⊢; exact H)
          (try rw [hji10] at A8)
          have hji10_ : (t230 / 2 ^ min t233.toNat 64) = ji10 := hji10
          have hji10z : t233 ≤ 64 → (t230 / 2 ^ t233.toNat) = ji10 := shr_small hji10
          (try have hji10tz := hji10z (by simp only [beq_iff_eq, decide_eq_true_eq] at *; omega))
          have HC11 := Aside0.mk H
          clear H
          go_upto_region 7 with (first | ((with_reducible refine gate_callee (f := 18) rfl ?_); refine goesL_ (some 29) rfl rfl Tryd.func18 (by kernel_rfl) rfl #[.int .u64 t230] rfl (by (try simp only [List.map_toArray, List.map_cons, List.map_nil]); first | done | rfl | (simp only [List.length_drop, List.length_take]; rfl)) ?_; (with_reducible refine (bits_TrailingZeros64.calls t230 t233 _ ?side1 A8.out).mono ?_); (case side1 => exact Tz.tab_below HTT.out (by first | exact (by repeat (first | (with_reducible first | exact HB.out | apply below_alloc | apply pw_below_drewN | apply below_drew1) | exact HB.out)) | exact (by repeat (first | (with_reducible first | exact HB.out | apply below_alloc | apply pw_below_drewN | apply below_drew1) | exact HB.out | exact Below.refl _ _)))); rintro e w' ⟨rfl, ⟨nd, rfl⟩⟩; refine ⟨_, rfl, ?_⟩))
          (try simp only [Act.put, List.setIfInBounds_toArray, List.set_cons_zero, List.set_cons_succ])
          go_cut [44] (fun v44 wc => ∃ (kq : Nat) (x44_10 : Bool), v44 = .bool x44_10 ∧ Aside0 (fbits_Int.j1 kq t229 ji10 (wrap64 (t231 + t233)) x44_10 = some (r1, r2, r3)) ∧ Aside0 (kq ≤ kj2) ∧ Aside0 (Below w.heap.size w wc))
          case first =>
            have H := HC11.out
            clear HC11
            by_cases c12 : (wrap64 (t231 + t233)) < 0
            · rw [if_pos c12] at H
              have c12b0 : decide ((wrap64 (t231 + t233)) < 0) = true := decide_eq_true c12
              clear c12
              (first | rw [c12b0] | (simp only [i64_w, i32_w]; rw [c12b0]) | skip)
              have H' := Aside0.mk H
              clear H
              go_wp2
              go_meet
              case rel => exact ⟨_, (true), (by first | rfl | (simp; done) | (simp [*]; done) | (simp [*] <;> decide +kernel)), H', ⟨by have := HJ2.out; first | omega | exact Nat.le_refl _⟩, ⟨by repeat (first | (with_reducible first | exact HB.out | apply below_alloc | apply pw_below_drewN | apply below_drew1) | exact HB.out)⟩⟩
            · rw [if_neg c12] at H
              have c12b0 : decide ((wrap64 (t231 + t233)) < 0) = false := decide_eq_false c12
              clear c12
              (first | rw [c12b0] | (simp only [i64_w, i32_w]; rw [c12b0]) | skip)
              replace H := Option.bind_eq_some_iff.mp H
              obtain ⟨t234, A130, H⟩ := H
              replace H : (fbits_Int.j1 kj2 t229 ji10 (wrap64 (t231 + t233)) (decide ((wrap64 (t231 + t233)) > (wrap64 (64 - t234))))) = some (r1, r2, r3) := H
              have A13 := Aside0.mk A130
              clear A130
              have H' := Aside0.mk H
              clear H
              go_wp2_with (first | (go_at_call 17; (with_reducible refine (bits_Len64.calls kj2 ji10 t234 _ A13.out).mono ?_); rintro e w' ⟨rfl, ⟨nd, rfl⟩⟩))
              go_meet
              case rel => exact ⟨_, (decide ((wrap64 (t231 + t233)) > (wrap64 (64 - t234)))), (by first | rfl | (simp; done) | (simp [*]; done) | (simp [*] <;> decide +kernel)), H', ⟨by have := HJ2.out; first | omega | exact Nat.le_refl _⟩, ⟨by repeat (first | (with_reducible first | exact HB.out | apply below_alloc | apply pw_below_drewN | apply below_drew1) | exact HB.out)⟩⟩
          case rest =>
            clear HC11
            try clear c1
            try clear p2
            try clear c5
            try clear c6
            try clear p6
            try clear c7
            try clear c9
            try clear c9b0
            try clear c9b1
            try clear c11
            try clear c12
            try clear c12b0
            try clear p2
            obtain ⟨kq, x44_10, rfl, HA, HJ10, HB⟩ := hcut
            cases kq with
            | zero => exact absurd HA.out (by simp [fbits_Int.j1])
            | succ kj10 =>
              have H := HA.out
              clear HA
              simp only [fbits_Int.j1] at H
              by_cases c14 : x44_10 = true
              · subst c14
                have H1 : (if t229 = true then (if ji10 = 1 then (fbits_Int.j2 kj10 ((wrap64 (t231 + t233)) == 64)) else (fbits_Int.j2 kj10 false)) else (fbits_Int.j2 kj10 false)) = some (r1, r2, r3) := by rw [if_pos rfl] at H; exact H
                clear H
                have H := H1
                clear H1
                have HC15 := Aside0.mk H
                clear H
                go_upto_region 8 with (fail)
                go_cut [53] (fun v53 wc => ∃ (kq : Nat) (x53_14 : Bool), v53 = .bool x53_14 ∧ Aside0 (fbits_Int.j2 kq x53_14 = some (r1, r2, r3)) ∧ Aside0 (kq ≤ kj10) ∧ Aside0 (Below w.heap.size w wc))
                case first =>
                  have H := HC15.out
                  clear HC15
                  by_cases c16 : t229 = true
                  · subst c16
                    have H1 : (if ji10 = 1 then (fbits_Int.j2 kj10 ((wrap64 (t231 + t233)) == 64)) else (fbits_Int.j2 kj10 false)) = some (r1, r2, r3) := by rw [if_pos rfl] at H; exact H
                    clear H
                    have H := H1
                    clear H1
                    by_cases c17 : ji10 = 1
                    · rw [if_pos c17] at H
                      have c17b0 : (ji10 == 1) = true := beq_iff_eq.mpr c17
                      have c17b1 : (ji10 != 1) = false := bne_eq_false_iff_eq.mpr c17
                      clear c17
                      (first | rw [c17b0] | (simp only [i64_w, i32_w]; rw [c17b0]) | skip)
                      have H' := Aside0.mk H
                      clear H
                      go_wp2
                      go_meet
                      case rel => exact ⟨_, (((wrap64 (t231 + t233)) == 64)), (by first | rfl | (simp; done) | (simp [*]; done) | (simp [*] <;> decide +kernel)), H', ⟨by have := HJ2.out; have := HJ10.out; first | omega | exact Nat.le_refl _⟩, ⟨by repeat (first | (with_reducible first | exact HB.out | apply below_alloc | apply pw_below_drewN | apply below_drew1) | exact HB.out)⟩⟩
                    · rw [if_neg c17] at H
                      have c17b0 : (ji10 == 1) = false := beq_eq_false_iff_ne.mpr c17
                      have c17b1 : (ji10 != 1) = true := bne_iff_ne.mpr c17
                      (first | rw [c17b0] | (simp only [i64_w, i32_w]; rw [c17b0]) | skip)
                      have H' := Aside0.mk H
                      clear H
                      go_wp2
                      go_meet
                      case rel => exact ⟨_, (false), (by first | rfl | (simp; done) | (simp [*]; done) | (simp [*] <;> decide +kernel)), H', ⟨by have := HJ2.out; have := HJ10.out; first | omega | exact Nat.le_refl _⟩, ⟨by repeat (first | (with_reducible first | exact HB.out | apply below_alloc | apply pw_below_drewN | apply below_drew1) | exact HB.out)⟩⟩
                  · replace c16 := Bool.eq_false_iff.mpr c16
                    subst c16
                    have H1 : (fbits_Int.j2 kj10 false) = some (r1, r2, r3) := by rw [if_neg (show ¬ (false = true) by decide)] at H; exact H
                    clear H
                    have H := H1
                    clear H1
                    have H' := Aside0.mk H
                    clear H
                    go_wp2
                    go_meet
                    case rel => exact ⟨_, (false), (by first | rfl | (simp; done) | (simp [*]; done) | (simp [*] <;> decide +kernel)), H', ⟨by have := HJ2.out; have := HJ10.out; first | omega | exact Nat.le_refl _⟩, ⟨by repeat (first | (with_reducible first | exact HB.out | apply below_alloc | apply pw_below_drewN | apply below_drew1) | exact HB.out)⟩⟩
                case rest =>
                  clear HC15
                  try clear c1
                  try clear p2
                  try clear c5
                  try clear c6
                  try clear p6
                  try clear c7
                  try clear c9
                  try clear c9b0
                  try clear c9b1
                  try clear c11
                  try clear c12
                  try clear c12b0
                  try clear c14
                  try clear c16
                  try clear c17
                  try clear c17b0
                  try clear c17b1
                  try clear p2
                  try clear p6
                  obtain ⟨kq, x53_14, rfl, HA, HJ14, HB⟩ := hcut
                  cases kq with
                  | zero => exact absurd HA.out (by simp [fbits_Int.j2])
                  | succ kj14 =>
                    have H := HA.out
                    clear HA
                    simp only [fbits_Int.j2] at H
                    by_cases c18 : x53_14 = true
                    · subst c18
                      have H1 : (some (true, 18446744073709551615, true)) = some (r1, r2, r3) := by rw [if_pos rfl] at H; exact H
                      clear H
                      have H := H1
                      clear H1
                      simp only [Option.some.injEq, Prod.mk.injEq] at H
                      obtain ⟨rfl, rfl, rfl⟩ := H
                      go_wp2
                      go_ret3
                      exact ⟨by first | rfl | (simp [errW_none, errW_some] <;> rfl) | (simp only [← hji10]; first | rfl | (simp [errW_none, errW_some] <;> rfl)) | (simp [*, errW_none, errW_some] <;> rfl), by repeat (first | (with_reducible first | exact HB.out | apply below_alloc | apply pw_below_drewN | apply below_drew1) | exact HB.out)⟩
                    · replace c18 := Bool.eq_false_iff.mpr c18
                      subst c18
                      have H1 : (some (false, 0, false)) = some (r1, r2, r3) := by rw [if_neg (show ¬ (false = true) by decide)] at H; exact H
                      clear H
                      have H := H1
                      clear H1
                      simp only [Option.some.injEq, Prod.mk.injEq] at H
                      obtain ⟨rfl, rfl, rfl⟩ := H
                      go_wp2
                      go_ret3
                      exact ⟨by first | rfl | (simp [errW_none, errW_some] <;> rfl) | (simp only [← hji10]; first | rfl | (simp [errW_none, errW_some] <;> rfl)) | (simp [*, errW_none, errW_some] <;> rfl), by repeat (first | (with_reducible first | exact HB.out | apply below_alloc | apply pw_below_drewN | apply below_drew1) | exact HB.out)⟩
              · replace c14 := Bool.eq_false_iff.mpr c14
                subst c14
                have H1 : (if 0 ≤ (wrap64 (t231 + t233)) then (if t229 = true then (some (t229, IntKind.u64.wrap ((shl .u64 ji10 (wrap64 (t231 + t233))) - 1), true)) else (some (t229, shl .u64 ji10 (wrap64 (t231 + t233)), true))) else (none)) = some (r1, r2, r3) := by rw [if_neg (show ¬ (false = true) by decide)] at H; exact H
                clear H
                have H := H1
                clear H1
                obtain ⟨ji19, hji19⟩ : ∃ j_ : Int, (wrap64 (t231 + t233)) = j_ := ⟨_, rfl⟩
                replace H : (if 0 ≤ (ji19) then (if t229 = true then (some (t229, IntKind.u64.wrap ((shl .u64 ji10 (ji19)) - 1), true)) else (some (t229, shl .u64 ji10 (ji19), true))) else (none)) = some (r1, r2, r3) := by first | (rw [hji19] at H; exact H) | (simp only [hji19] at H ⊢; exact H)
                have hji19w : (IntKind.i64.wrap (t231 + t233)) = ji19 := (i64_w _).trans hji19
                by_cases c20 : 0 ≤ (ji19)
                · rw [if_pos c20] at H
                  have c20b0 := eq_true c20
                  have c20b1 : decide (0 ≤ (ji19)) = true := decide_eq_true c20
                  clear c20
                  obtain ⟨ji21, hji21⟩ : ∃ j_ : Int, (shl .u64 ji10 (ji19)) = j_ := ⟨_, rfl⟩
                  replace H : (if t229 = true then (some (t229, IntKind.u64.wrap ((ji21) - 1), true)) else (some (t229, ji21, true))) = some (r1, r2, r3) := by first | (rw [hji21] at H; exact H) | (simp only [hji21] at H ⊢; exact H)
                  have hji21_ : (IntKind.u64.wrap (ji10 * 2 ^ min (ji19).toNat 64)) = ji21 := hji21
                  have hji21z : (ji19) ≤ 64 → (IntKind.u64.wrap (ji10 * 2 ^ (ji19).toNat)) = ji21 := shl_small hji21
                  (try have hji21tz := hji21z (by simp only [beq_iff_eq, decide_eq_true_eq] at *; omega))
                  by_cases c22 : t229 = true
                  · subst c22
                    have H1 : (some (true, IntKind.u64.wrap ((ji21) - 1), true)) = some (r1, r2, r3) := by rw [if_pos rfl] at H; exact H
                    clear H
                    have H := H1
                    clear H1
                    simp only [Option.some.injEq, Prod.mk.injEq] at H
                    obtain ⟨rfl, rfl, rfl⟩ := H
                    go_wp2
                    go_ret3
                    exact ⟨by first | rfl | (simp [errW_none, errW_some] <;> rfl) | (simp only [← hji10, ← hji19, ← hji21]; first | rfl | (simp [errW_none, errW_some] <;> rfl)) | (simp [*, errW_none, errW_some] <;> rfl), by repeat (first | (with_reducible first | exact HB.out | apply below_alloc | apply pw_below_drewN | apply below_drew1) | exact HB.out)⟩
                  · replace c22 := Bool.eq_false_iff.mpr c22
                    subst c22
                    have H1 : (some (false, ji21, true)) = some (r1, r2, r3) := by rw [if_neg (show ¬ (false = true) by decide)] at H; exact H
                    clear H
                    have H := H1
                    clear H1
                    simp only [Option.some.injEq, Prod.mk.injEq] at H
                    obtain ⟨rfl, rfl, rfl⟩ := H
                    go_wp2
                    go_ret3
                    exact ⟨by first | rfl | (simp [errW_none, errW_some] <;> rfl) | (simp only [← hji10, ← hji19, ← hji21]; first | rfl | (simp [errW_none, errW_some] <;> rfl)) | (simp [*, errW_none, errW_some] <;> rfl), by repeat (first | (with_reducible first | exact HB.out | apply below_alloc | apply pw_below_drewN | apply below_drew1) | exact HB.out)⟩
                · rw [if_neg c20] at H
                  exact absurd H (by simp)
        · rw [if_neg c9] at H
          exact absurd H (by simp)

/-! ### glossatorref05_widths: function 30 -/
def glossatorref05_widths.f (a0 : Int) : Option (Int × Int) := if a0 = 16 then (some (5, 10)) else (if a0 = 32 then (some (8, 23)) else (if a0 = 64 then (some (11, 52)) else (some (0, 0))))
set_option maxHeartbeats 8000000 in
set_option maxRecDepth 100000 in
theorem glossatorref05_widths.calls (a0 : Int) (r1 : Int) (r2 : Int) (w : World) (h : glossatorref05_widths.f a0 = some (r1, r2)) :
    Calls Tryd.prog 30 #[.int .i64 a0] w fun e w' => e = .returned (.tuple #[.int .i64 r1, .int .i64 r2]) ∧ Drawn0 w w' := by
  have H : (if a0 = 16 then (some (5, 10)) else (if a0 = 32 then (some (8, 23)) else (if a0 = 64 then (some (11, 52)) else (some (0, 0))))) = some (r1, r2) := h
  clear h
  by_cases c2 : a0 = 16
  · rw [if_pos c2] at H
    have c2b0 : (a0 == 16) = true := beq_iff_eq.mpr c2
    have c2b1 : (a0 != 16) = false := bne_eq_false_iff_eq.mpr c2
    clear c2
    simp only [Option.some.injEq, Prod.mk.injEq] at H
    obtain ⟨rfl, rfl⟩ := H
    go_enter Tryd.func30, Tryd.ntmps30
    go_wp2
    go_ret2
    exact ⟨by first | rfl | (simp; done) | (simp [*]; done), by repeat (first | exact Drawn0.refl _ | apply Drawn0.step)⟩
  · rw [if_neg c2] at H
    have c2b0 : (a0 == 16) = false := beq_eq_false_iff_ne.mpr c2
    have c2b1 : (a0 != 16) = true := bne_iff_ne.mpr c2
    by_cases c3 : a0 = 32
    · rw [if_pos c3] at H
      have c3b0 : (a0 == 32) = true := beq_iff_eq.mpr c3
      have c3b1 : (a0 != 32) = false := bne_eq_false_iff_eq.mpr c3
      clear c3
      simp only [Option.some.injEq, Prod.mk.injEq] at H
      obtain ⟨rfl, rfl⟩ := H
      go_enter Tryd.func30, Tryd.ntmps30
      go_wp2
      go_ret2
      exact ⟨by first | rfl | (simp; done) | (simp [*]; done), by repeat (first | exact Drawn0.refl _ | apply Drawn0.step)⟩
    · rw [if_neg c3] at H
      have c3b0 : (a0 == 32) = false := beq_eq_false_iff_ne.mpr c3
      have c3b1 : (a0 != 32) = true := bne_iff_ne.mpr c3
      by_cases c4 : a0 = 64
      · rw [if_pos c4] at H
        have c4b0 : (a0 == 64) = true := beq_iff_eq.mpr c4
        have c4b1 : (a0 != 64) = false := bne_eq_false_iff_eq.mpr c4
        clear c4
        simp only [Option.some.injEq, Prod.mk.injEq] at H
        obtain ⟨rfl, rfl⟩ := H
        go_enter Tryd.func30, Tryd.ntmps30
        go_wp2
        go_ret2
        exact ⟨by first | rfl | (simp; done) | (simp [*]; done), by repeat (first | exact Drawn0.refl _ | apply Drawn0.step)⟩
      · rw [if_neg c4] at H
        have c4b0 : (a0 == 64) = false := beq_eq_false_iff_ne.mpr c4
        have c4b1 : (a0 != 64) = true := bne_iff_ne.mpr c4
        simp only [Option.some.injEq, Prod.mk.injEq] at H
        obtain ⟨rfl, rfl⟩ := H
        go_enter Tryd.func30, Tryd.ntmps30
        go_wp2
        go_ret2
        exact ⟨by first | rfl | (simp; done) | (simp [*]; done), by repeat (first | exact Drawn0.refl _ | apply Drawn0.step)⟩

/-! ### glossatorref05_Parts: function 26 -/
def glossatorref05_Parts.f (a0 : Int) (a1 : Int) : Option (Bool × Int × Int × Int) := (glossatorref05_widths.f a0).bind fun bt235 => (if bt235.1 = 0 then (some (false, 0, 0, 1)) else (if a0 < 64 then (if 0 ≤ a0 then (if (shr .u64 a1 a0) = 0 then (if 0 ≤ (wrap64 (bt235.1 + bt235.2)) then (if 0 ≤ bt235.2 then (if 0 ≤ bt235.1 then (some (((shr .u64 a1 (wrap64 (bt235.1 + bt235.2))) == 1), Go.bits .and .i64 (wrap64 (shr .u64 a1 bt235.2)) (wrap64 ((shl .i64 1 bt235.1) - 1)), Go.bits .and .u64 a1 (IntKind.u64.wrap ((shl .u64 1 bt235.2) - 1)), 0)) else (none)) else (none)) else (none)) else (some (false, 0, 0, 1))) else (none)) else (if 0 ≤ (wrap64 (bt235.1 + bt235.2)) then (if 0 ≤ bt235.2 then (if 0 ≤ bt235.1 then (some (((shr .u64 a1 (wrap64 (bt235.1 + bt235.2))) == 1), Go.bits .and .i64 (wrap64 (shr .u64 a1 bt235.2)) (wrap64 ((shl .i64 1 bt235.1) - 1)), Go.bits .and .u64 a1 (IntKind.u64.wrap ((shl .u64 1 bt235.2) - 1)), 0)) else (none)) else (none)) else (none))))
set_option maxHeartbeats 8000000 in
set_option maxRecDepth 100000 in
theorem glossatorref05_Parts.calls (a0 : Int) (a1 : Int) (r1 : Bool) (r2 : Int) (r3 : Int) (r4 : Int) (w : World) (h : glossatorref05_Parts.f a0 a1 = some (r1, r2, r3, r4)) :
    Calls Tryd.prog 26 #[.int .i64 a0, .int .u64 a1] w fun e w' => e = .returned (.tuple #[.bool r1, .int .i64 r2, .int .u64 r3, .int .i64 r4]) ∧ Drawn0 w w' := by
  have H : ((glossatorref05_widths.f a0).bind fun bt235 => (if bt235.1 = 0 then (some (false, 0, 0, 1)) else (if a0 < 64 then (if 0 ≤ a0 then (if (shr .u64 a1 a0) = 0 then (if 0 ≤ (wrap64 (bt235.1 + bt235.2)) then (if 0 ≤ bt235.2 then (if 0 ≤ bt235.1 then (some (((shr .u64 a1 (wrap64 (bt235.1 + bt235.2))) == 1), Go.bits .and .i64 (wrap64 (shr .u64 a1 bt235.2)) (wrap64 ((shl .i64 1 bt235.1) - 1)), Go.bits .and .u64 a1 (IntKind.u64.wrap ((shl .u64 1 bt235.2) - 1)), 0)) else (none)) else (none)) else (none)) else (some (false, 0, 0, 1))) else (none)) else (if 0 ≤ (wrap64 (bt235.1 + bt235.2)) then (if 0 ≤ bt235.2 then (if 0 ≤ bt235.1 then (some (((shr .u64 a1 (wrap64 (bt235.1 + bt235.2))) == 1), Go.bits .and .i64 (wrap64 (shr .u64 a1 bt235.2)) (wrap64 ((shl .i64 1 bt235.1) - 1)), Go.bits .and .u64 a1 (IntKind.u64.wrap ((shl .u64 1 bt235.2) - 1)), 0)) else (none)) else (none)) else (none))))) = some (r1, r2, r3, r4) := h
  clear h
  replace H := Option.bind_eq_some_iff.mp H
  obtain ⟨⟨t235, t236⟩, A30, H⟩ := H
  replace H : (if t235 = 0 then (some (false, 0, 0, 1)) else (if a0 < 64 then (if 0 ≤ a0 then (if (shr .u64 a1 a0) = 0 then (if 0 ≤ (wrap64 (t235 + t236)) then (if 0 ≤ t236 then (if 0 ≤ t235 then (some (((shr .u64 a1 (wrap64 (t235 + t236))) == 1), Go.bits .and .i64 (wrap64 (shr .u64 a1 t236)) (wrap64 ((shl .i64 1 t235) - 1)), Go.bits .and .u64 a1 (IntKind.u64.wrap ((shl .u64 1 t236) - 1)), 0)) else (none)) else (none)) else (none)) else (some (false, 0, 0, 1))) else (none)) else (if 0 ≤ (wrap64 (t235 + t236)) then (if 0 ≤ t236 then (if 0 ≤ t235 then (some (((shr .u64 a1 (wrap64 (t235 + t236))) == 1), Go.bits .and .i64 (wrap64 (shr .u64 a1 t236)) (wrap64 ((shl .i64 1 t235) - 1)), Go.bits .and .u64 a1 (IntKind.u64.wrap ((shl .u64 1 t236) - 1)), 0)) else (none)) else (none)) else (none)))) = some (r1, r2, r3, r4) := H
  have A3 := Aside0.mk A30
  clear A30
  by_cases c4 : t235 = 0
  · rw [if_pos c4] at H
    have c4b0 : (t235 == 0) = true := beq_iff_eq.mpr c4
    have c4b1 : (t235 != 0) = false := bne_eq_false_iff_eq.mpr c4
    clear c4
    simp only [Option.some.injEq, Prod.mk.injEq] at H
    obtain ⟨rfl, rfl, rfl, rfl⟩ := H
    go_enter Tryd.func26, Tryd.ntmps26
    go_wp2_with (first | (go_at_call 30; (with_reducible refine (glossatorref05_widths.calls a0 t235 t236 _ A3.out).mono ?_); rintro e w' ⟨rfl, ⟨nd, rfl⟩⟩; (try first | exact ⟨rfl, _, World.drewN_drewN _ _ _⟩ | exact ⟨rfl, _, Eq.trans (World.drewN_drewN _ _ _) (congrArg (World.drewN _) (Nat.add_assoc _ _ _))⟩)))
    repeat (go_quiet (first | (go_at_call 30; (with_reducible refine (glossatorref05_widths.calls a0 t235 t236 _ A3.out).mono ?_); rintro e w' ⟨rfl, ⟨nd, rfl⟩⟩; (try first | exact ⟨rfl, _, World.drewN_drewN _ _ _⟩ | exact ⟨rfl, _, Eq.trans (World.drewN_drewN _ _ _) (congrArg (World.drewN _) (Nat.add_assoc _ _ _))⟩))); try go_wp2_with (first | (go_at_call 30; (with_reducible refine (glossatorref05_widths.calls a0 t235 t236 _ A3.out).mono ?_); rintro e w' ⟨rfl, ⟨nd, rfl⟩⟩; (try first | exact ⟨rfl, _, World.drewN_drewN _ _ _⟩ | exact ⟨rfl, _, Eq.trans (World.drewN_drewN _ _ _) (congrArg (World.drewN _) (Nat.add_assoc _ _ _))⟩))))
    refine bodyPost_ret (results_list (rs := [.tmp 4, .tmp 5, .tmp 6, .tmp 7]) rfl (by simp) (.tmp (.tmp (.tmp (.tmp .nil))))) rfl ?_
    exact ⟨by first | rfl | (simp; done) | (simp [*]; done), by repeat (first | exact Drawn0.refl _ | apply Drawn0.step)⟩
  · rw [if_neg c4] at H
    have c4b0 : (t235 == 0) = false := beq_eq_false_iff_ne.mpr c4
    have c4b1 : (t235 != 0) = true := bne_iff_ne.mpr c4
    by_cases c5 : a0 < 64
    · rw [if_pos c5] at H
      have c5b0 : decide (a0 < 64) = true := decide_eq_true c5
      clear c5
      by_cases c6 : 0 ≤ a0
      · rw [if_pos c6] at H
        have c6b0 := eq_true c6
        have c6b1 : decide (0 ≤ a0) = true := decide_eq_true c6
        clear c6
        obtain ⟨ji7, hji7⟩ : ∃ j_ : Int, (shr .u64 a1 a0) = j_ := ⟨_, rfl⟩
        replace H : (if (ji7) = 0 then (if 0 ≤ (wrap64 (t235 + t236)) then (if 0 ≤ t236 then (if 0 ≤ t235 then (some (((shr .u64 a1 (wrap64 (t235 + t236))) == 1), Go.bits .and .i64 (wrap64 (shr .u64 a1 t236)) (wrap64 ((shl .i64 1 t235) - 1)), Go.bits .and .u64 a1 (IntKind.u64.wrap ((shl .u64 1 t236) - 1)), 0)) else (none)) else (none)) else (none)) else (some (false, 0, 0, 1))) = some (r1, r2, r3, r4) := by first | (rw [hji7] at H; exact H) | (simp only [hji7] at H ⊢; exact H)
        (try rw [hji7] at A3)
        have hji7_ : (a1 / 2 ^ min a0.toNat 64) = ji7 := hji7
        have hji7z : a0 ≤ 64 → (a1 / 2 ^ a0.toNat) = ji7 := shr_small hji7
        (try have hji7tz := hji7z (by simp only [beq_iff_eq, decide_eq_true_eq] at *; omega))
        by_cases c8 : (ji7) = 0
        · rw [if_pos c8] at H
          have c8b0 : ((ji7) == 0) = true := beq_iff_eq.mpr c8
          have c8b1 : ((ji7) != 0) = false := bne_eq_false_iff_eq.mpr c8
          clear c8
          obtain ⟨ji9, hji9⟩ : ∃ j_ : Int, (wrap64 (t235 + t236)) = j_ := ⟨_, rfl⟩
          replace H : (if 0 ≤ (ji9) then (if 0 ≤ t236 then (if 0 ≤ t235 then (some (((shr .u64 a1 (ji9)) == 1), Go.bits .and .i64 (wrap64 (shr .u64 a1 t236)) (wrap64 ((shl .i64 1 t235) - 1)), Go.bits .and .u64 a1 (IntKind.u64.wrap ((shl .u64 1 t236) - 1)), 0)) else (none)) else (none)) else (none)) = some (r1, r2, r3, r4) := by first | (rw [hji9] at H; exact H) | (simp only [hji9] at H ⊢; exact H)
          (try rw [hji9] at A3)
          have hji9w : (IntKind.i64.wrap (t235 + t236)) = ji9 := (i64_w _).trans hji9
          by_cases c10 : 0 ≤ (ji9)
          · rw [if_pos c10] at H
            have c10b0 := eq_true c10
            have c10b1 : decide (0 ≤ (ji9)) = true := decide_eq_true c10
            clear c10
            obtain ⟨ji11, hji11⟩ : ∃ j_ : Int, (shr .u64 a1 (ji9)) = j_ := ⟨_, rfl⟩
            replace H : (if 0 ≤ t236 then (if 0 ≤ t235 then (some (((ji11) == 1), Go.bits .and .i64 (wrap64 (shr .u64 a1 t236)) (wrap64 ((shl .i64 1 t235) - 1)), Go.bits .and .u64 a1 (IntKind.u64.wrap ((shl .u64 1 t236) - 1)), 0)) else (none)) else (none)) = some (r1, r2, r3, r4) := by first | (rw [hji11] at H; exact H) | (simp only [hji11] at H ⊢; exact H)
            (try rw [hji11] at A3)
            have hji11_ : (a1 / 2 ^ min (ji9).toNat 64) = ji11 := hji11
            have hji11z : (ji9) ≤ 64 → (a1 / 2 ^ (ji9).toNat) = ji11 := shr_small hji11
            (try have hji11tz := hji11z (by simp only [beq_iff_eq, decide_eq_true_eq] at *; omega))
            by_cases c12 : 0 ≤ t236
            · rw [if_pos c12] at H
              have c12b0 := eq_true c12
              have c12b1 : decide (0 ≤ t236) = true := decide_eq_true c12
              clear c12
              obtain ⟨ji13, hji13⟩ : ∃ j_ : Int, (shr .u64 a1 t236) = j_ := ⟨_, rfl⟩
              replace H : (if 0 ≤ t235 then (some (((ji11) == 1), Go.bits .and .i64 (wrap64 (ji13)) (wrap64 ((shl .i64 1 t235) - 1)), Go.bits .and .u64 a1 (IntKind.u64.wrap ((shl .u64 1 t236) - 1)), 0)) else (none)) = some (r1, r2, r3, r4) := by first | (rw [hji13] at H; exact H) | (simp only [hji13] at H ⊢; exact H)
              (try rw [hji13] at A3)
              have hji13_ : (a1 / 2 ^ min t236.toNat 64) = ji13 := hji13
              have hji13z : t236 ≤ 64 → (a1 / 2 ^ t236.toNat) = ji13 := shr_small hji13
              (try have hji13tz := hji13z (by simp only [beq_iff_eq, decide_eq_true_eq] at *; omega))
              by_cases c14 : 0 ≤ t235
              · rw [if_pos c14] at H
                have c14b0 := eq_true c14
                have c14b1 : decide (0 ≤ t235) = true := decide_eq_true c14
                clear c14
                obtain ⟨ji15, hji15⟩ : ∃ j_ : Int, (shl .i64 1 t235) = j_ := ⟨_, rfl⟩
                replace H : (some (((ji11) == 1), Go.bits .and .i64 (wrap64 (ji13)) (wrap64 ((ji15) - 1)), Go.bits .and .u64 a1 (IntKind.u64.wrap ((shl .u64 1 t236) - 1)), 0)) = some (r1, r2, r3, r4) := by first | (rw [hji15] at H; exact H) | (simp only [hji15] at H ⊢; exact H)
                (try rw [hji15] at A3)
                have hji15_ : (IntKind.i64.wrap (1 * 2 ^ min t235.toNat 64)) = ji15 := hji15
                have hji15z : t235 ≤ 64 → (IntKind.i64.wrap (1 * 2 ^ t235.toNat)) = ji15 := shl_small hji15
                have hji15u : (IntKind.i64.wrap (2 ^ min t235.toNat 64)) = ji15 := by have h_ := hji15_; rw [Int.one_mul] at h_; exact h_
                have hji15v : t235 ≤ 64 → (IntKind.i64.wrap (2 ^ t235.toNat)) = ji15 := fun hle_ => by have h_ := hji15z hle_; rw [Int.one_mul] at h_; exact h_
                have hji15y : (wrap64 (1 * 2 ^ min t235.toNat 64)) = ji15 := (i64_w _).symm.trans hji15_
                have hji15x : t235 ≤ 64 → (wrap64 (1 * 2 ^ t235.toNat)) = ji15 := fun h_ => (i64_w _).symm.trans (hji15z h_)
                (try have hji15tz := hji15z (by simp only [beq_iff_eq, decide_eq_true_eq] at *; omega))
                (try have hji15tv := hji15v (by simp only [beq_iff_eq, decide_eq_true_eq] at *; omega))
                (try have hji15tx := hji15x (by simp only [beq_iff_eq, decide_eq_true_eq] at *; omega))
                have c16b0 := eq_true (of_decide_eq_true (by first | (with_reducible assumption) | assumption) : 0 ≤ t236)
                obtain ⟨ji17, hji17⟩ : ∃ j_ : Int, (shl .u64 1 t236) = j_ := ⟨_, rfl⟩
                replace H : (some (((ji11) == 1), Go.bits .and .i64 (wrap64 (ji13)) (wrap64 ((ji15) - 1)), Go.bits .and .u64 a1 (IntKind.u64.wrap ((ji17) - 1)), 0)) = some (r1, r2, r3, r4) := by first | (rw [hji17] at H; exact H) | (simp only [hji17] at H ⊢; exact H)
                (try rw [hji17] at A3)
                have hji17_ : (IntKind.u64.wrap (1 * 2 ^ min t236.toNat 64)) = ji17 := hji17
                have hji17z : t236 ≤ 64 → (IntKind.u64.wrap (1 * 2 ^ t236.toNat)) = ji17 := shl_small hji17
                have hji17u : (IntKind.u64.wrap (2 ^ min t236.toNat 64)) = ji17 := by have h_ := hji17_; rw [Int.one_mul] at h_; exact h_
                have hji17v : t236 ≤ 64 → (IntKind.u64.wrap (2 ^ t236.toNat)) = ji17 := fun hle_ => by have h_ := hji17z hle_; rw [Int.one_mul] at h_; exact h_
                (try have hji17tz := hji17z (by simp only [beq_iff_eq, decide_eq_true_eq] at *; omega))
                (try have hji17tv := hji17v (by simp only [beq_iff_eq, decide_eq_true_eq] at *; omega))
                simp only [Option.some.injEq, Prod.mk.injEq] at H
                obtain ⟨rfl, rfl, rfl, rfl⟩ := H
                go_enter Tryd.func26, Tryd.ntmps26
                go_wp2_with (first | (go_at_call 30; (with_reducible refine (glossatorref05_widths.calls a0 t235 t236 _ A3.out).mono ?_); rintro e w' ⟨rfl, ⟨nd, rfl⟩⟩; (try first | exact ⟨rfl, _, World.drewN_drewN _ _ _⟩ | exact ⟨rfl, _, Eq.trans (World.drewN_drewN _ _ _) (congrArg (World.drewN _) (Nat.add_assoc _ _ _))⟩)))
                repeat (go_quiet (first | (go_at_call 30; (with_reducible refine (glossatorref05_widths.calls a0 t235 t236 _ A3.out).mono ?_); rintro e w' ⟨rfl, ⟨nd, rfl⟩⟩; (try first | exact ⟨rfl, _, World.drewN_drewN _ _ _⟩ | exact ⟨rfl, _, Eq.trans (World.drewN_drewN _ _ _) (congrArg (World.drewN _) (Nat.add_assoc _ _ _))⟩))); try go_wp2_with (first | (go_at_call 30; (with_reducible refine (glossatorref05_widths.calls a0 t235 t236 _ A3.out).mono ?_); rintro e w' ⟨rfl, ⟨nd, rfl⟩⟩; (try first | exact ⟨rfl, _, World.drewN_drewN _ _ _⟩ | exact ⟨rfl, _, Eq.trans (World.drewN_drewN _ _ _) (congrArg (World.drewN _) (Nat.add_assoc _ _ _))⟩))))
                refine bodyPost_ret (results_list (rs := [.tmp 4, .tmp 5, .tmp 6, .tmp 7]) rfl (by simp) (.tmp (.tmp (.tmp (.tmp .nil))))) rfl ?_
                exact ⟨by first | rfl | (simp; done) | (simp only [← hji7, ← hji9, ← hji11, ← hji13, ← hji15, ← hji17] <;> (first | rfl | simp)) | (simp [*]; done), by repeat (first | exact Drawn0.refl _ | apply Drawn0.step)⟩
              · rw [if_neg c14] at H
                exact absurd H (by simp)
            · rw [if_neg c12] at H
              exact absurd H (by simp)
          · rw [if_neg c10] at H
            exact absurd H (by simp)
        · rw [if_neg c8] at H
          have c8b0 : ((ji7) == 0) = false := beq_eq_false_iff_ne.mpr c8
          have c8b1 : ((ji7) != 0) = true := bne_iff_ne.mpr c8
          simp only [Option.some.injEq, Prod.mk.injEq] at H
          obtain ⟨rfl, rfl, rfl, rfl⟩ := H
          go_enter Tryd.func26, Tryd.ntmps26
          go_wp2_with (first | (go_at_call 30; (with_reducible refine (glossatorref05_widths.calls a0 t235 t236 _ A3.out).mono ?_); rintro e w' ⟨rfl, ⟨nd, rfl⟩⟩; (try first | exact ⟨rfl, _, World.drewN_drewN _ _ _⟩ | exact ⟨rfl, _, Eq.trans (World.drewN_drewN _ _ _) (congrArg (World.drewN _) (Nat.add_assoc _ _ _))⟩)))
          repeat (go_quiet (first | (go_at_call 30; (with_reducible refine (glossatorref05_widths.calls a0 t235 t236 _ A3.out).mono ?_); rintro e w' ⟨rfl, ⟨nd, rfl⟩⟩; (try first | exact ⟨rfl, _, World.drewN_drewN _ _ _⟩ | exact ⟨rfl, _, Eq.trans (World.drewN_drewN _ _ _) (congrArg (World.drewN _) (Nat.add_assoc _ _ _))⟩))); try go_wp2_with (first | (go_at_call 30; (with_reducible refine (glossatorref05_widths.calls a0 t235 t236 _ A3.out).mono ?_); rintro e w' ⟨rfl, ⟨nd, rfl⟩⟩; (try first | exact ⟨rfl, _, World.drewN_drewN _ _ _⟩ | exact ⟨rfl, _, Eq.trans (World.drewN_drewN _ _ _) (congrArg (World.drewN _) (Nat.add_assoc _ _ _))⟩))))
          refine bodyPost_ret (results_list (rs := [.tmp 4, .tmp 5, .tmp 6, .tmp 7]) rfl (by simp) (.tmp (.tmp (.tmp (.tmp .nil))))) rfl ?_
          exact ⟨by first | rfl | (simp; done) | (simp only [← hji7] <;> (first | rfl | simp)) | (simp [*]; done), by repeat (first | exact Drawn0.refl _ | apply Drawn0.step)⟩
      · rw [if_neg c6] at H
        exact absurd H (by simp)
    · rw [if_neg c5] at H
      have c5b0 : decide (a0 < 64) = false := decide_eq_false c5
      clear c5
      obtain ⟨ji18, hji18⟩ : ∃ j_ : Int, (wrap64 (t235 + t236)) = j_ := ⟨_, rfl⟩
      replace H : (if 0 ≤ (ji18) then (if 0 ≤ t236 then (if 0 ≤ t235 then (some (((shr .u64 a1 (ji18)) == 1), Go.bits .and .i64 (wrap64 (shr .u64 a1 t236)) (wrap64 ((shl .i64 1 t235) - 1)), Go.bits .and .u64 a1 (IntKind.u64.wrap ((shl .u64 1 t236) - 1)), 0)) else (none)) else (none)) else (none)) = some (r1, r2, r3, r4) := by first | (rw [hji18] at H; exact H) | (simp only [hji18] at H ⊢; exact H)
      (try rw [hji18] at A3)
      have hji18w : (IntKind.i64.wrap (t235 + t236)) = ji18 := (i64_w _).trans hji18
      by_cases c19 : 0 ≤ (ji18)
      · rw [if_pos c19] at H
        have c19b0 := eq_true c19
        have c19b1 : decide (0 ≤ (ji18)) = true := decide_eq_true c19
        clear c19
        obtain ⟨ji20, hji20⟩ : ∃ j_ : Int, (shr .u64 a1 (ji18)) = j_ := ⟨_, rfl⟩
        replace H : (if 0 ≤ t236 then (if 0 ≤ t235 then (some (((ji20) == 1), Go.bits .and .i64 (wrap64 (shr .u64 a1 t236)) (wrap64 ((shl .i64 1 t235) - 1)), Go.bits .and .u64 a1 (IntKind.u64.wrap ((shl .u64 1 t236) - 1)), 0)) else (none)) else (none)) = some (r1, r2, r3, r4) := by first | (rw [hji20] at H; exact H) | (simp only [hji20] at H ⊢; exact H)
        (try rw [hji20] at A3)
        have hji20_ : (a1 / 2 ^ min (ji18).toNat 64) = ji20 := hji20
        have hji20z : (ji18) ≤ 64 → (a1 / 2 ^ (ji18).toNat) = ji20 := shr_small hji20
        (try have hji20tz := hji20z (by simp only [beq_iff_eq, decide_eq_true_eq] at *; omega))
        by_cases c21 : 0 ≤ t236
        · rw [if_pos c21] at H
          have c21b0 := eq_true c21
          have c21b1 : decide (0 ≤ t236) = true := decide_eq_true c21
          clear c21
          obtain ⟨ji22, hji22⟩ : ∃ j_ : Int, (shr .u64 a1 t236) = j_ := ⟨_, rfl⟩
          replace H : (if 0 ≤ t235 then (some (((ji20) == 1), Go.bits .and .i64 (wrap64 (ji22)) (wrap64 ((shl .i64 1 t235) - 1)), Go.bits .and .u64 a1 (IntKind.u64.wrap ((shl .u64 1 t236) - 1)), 0)) else (none)) = some (r1, r2, r3, r4) := by first | (rw [hji22] at H; exact H) | (simp only [hji22] at H ⊢; exact H)
          (try rw [hji22] at A3)
          have hji22_ : (a1 / 2 ^ min t236.toNat 64) = ji22 := hji22
          have hji22z : t236 ≤ 64 → (a1 / 2 ^ t236.toNat) = ji22 := shr_small hji22
          (try have hji22tz := hji22z (by simp only [beq_iff_eq, decide_eq_true_eq] at *; omega))
          by_cases c23 : 0 ≤ t235
          · rw [if_pos c23] at H
            have c23b0 := eq_true c23
            have c23b1 : decide (0 ≤ t235) = true := decide_eq_true c23
            clear c23
            obtain ⟨ji24, hji24⟩ : ∃ j_ : Int, (shl .i64 1 t235) = j_ := ⟨_, rfl⟩
            replace H : (some (((ji20) == 1), Go.bits .and .i64 (wrap64 (ji22)) (wrap64 ((ji24) - 1)), Go.bits .and .u64 a1 (IntKind.u64.wrap ((shl .u64 1 t236) - 1)), 0)) = some (r1, r2, r3, r4) := by first | (rw [hji24] at H; exact H) | (simp only [hji24] at H ⊢; exact H)
            (try rw [hji24] at A3)
            have hji24_ : (IntKind.i64.wrap (1 * 2 ^ min t235.toNat 64)) = ji24 := hji24
            have hji24z : t235 ≤ 64 → (IntKind.i64.wrap (1 * 2 ^ t235.toNat)) = ji24 := shl_small hji24
            have hji24u : (IntKind.i64.wrap (2 ^ min t235.toNat 64)) = ji24 := by have h_ := hji24_; rw [Int.one_mul] at h_; exact h_
            have hji24v : t235 ≤ 64 → (IntKind.i64.wrap (2 ^ t235.toNat)) = ji24 := fun hle_ => by have h_ := hji24z hle_; rw [Int.one_mul] at h_; exact h_
            have hji24y : (wrap64 (1 * 2 ^ min t235.toNat 64)) = ji24 := (i64_w _).symm.trans hji24_
            have hji24x : t235 ≤ 64 → (wrap64 (1 * 2 ^ t235.toNat)) = ji24 := fun h_ => (i64_w _).symm.trans (hji24z h_)
            (try have hji24tz := hji24z (by simp only [beq_iff_eq, decide_eq_true_eq] at *; omega))
            (try have hji24tv := hji24v (by simp only [beq_iff_eq, decide_eq_true_eq] at *; omega))
            (try have hji24tx := hji24x (by simp only [beq_iff_eq, decide_eq_true_eq] at *; omega))
            have c25b0 := eq_true (of_decide_eq_true (by first | (with_reducible assumption) | assumption) : 0 ≤ t236)
            obtain ⟨ji26, hji26⟩ : ∃ j_ : Int, (shl .u64 1 t236) = j_ := ⟨_, rfl⟩
            replace H : (some (((ji20) == 1), Go.bits .and .i64 (wrap64 (ji22)) (wrap64 ((ji24) - 1)), Go.bits .and .u64 a1 (IntKind.u64.wrap ((ji26) - 1)), 0)) = some (r1, r2, r3, r4) := by first | (rw [hji26] at H; exact H) | (simp only [hji26] at H ⊢; exact H)
            (try rw [hji26] at A3)
            have hji26_ : (IntKind.u64.wrap (1 * 2 ^ min t236.toNat 64)) = ji26 := hji26
            have hji26z : t236 ≤ 64 → (IntKind.u64.wrap (1 * 2 ^ t236.toNat)) = ji26 := shl_small hji26
            have hji26u : (IntKind.u64.wrap (2 ^ min t236.toNat 64)) = ji26 := by have h_ := hji26_; rw [Int.one_mul] at h_; exact h_
            have hji26v : t236 ≤ 64 → (IntKind.u64.wrap (2 ^ t236.toNat)) = ji26 := fun hle_ => by have h_ := hji26z hle_; rw [Int.one_mul] at h_; exact h_
            (try have hji26tz := hji26z (by simp only [beq_iff_eq, decide_eq_true_eq] at *; omega))
            (try have hji26tv := hji26v (by simp only [beq_iff_eq, decide_eq_true_eq] at *; omega))
            simp only [Option.some.injEq, Prod.mk.injEq] at H
            obtain ⟨rfl, rfl, rfl, rfl⟩ := H
            go_enter Tryd.func26, Tryd.ntmps26
            go_wp2_with (first | (go_at_call 30; (with_reducible refine (glossatorref05_widths.calls a0 t235 t236 _ A3.out).mono ?_); rintro e w' ⟨rfl, ⟨nd, rfl⟩⟩; (try first | exact ⟨rfl, _, World.drewN_drewN _ _ _⟩ | exact ⟨rfl, _, Eq.trans (World.drewN_drewN _ _ _) (congrArg (World.drewN _) (Nat.add_assoc _ _ _))⟩)))
            repeat (go_quiet (first | (go_at_call 30; (with_reducible refine (glossatorref05_widths.calls a0 t235 t236 _ A3.out).mono ?_); rintro e w' ⟨rfl, ⟨nd, rfl⟩⟩; (try first | exact ⟨rfl, _, World.drewN_drewN _ _ _⟩ | exact ⟨rfl, _, Eq.trans (World.drewN_drewN _ _ _) (congrArg (World.drewN _) (Nat.add_assoc _ _ _))⟩))); try go_wp2_with (first | (go_at_call 30; (with_reducible refine (glossatorref05_widths.calls a0 t235 t236 _ A3.out).mono ?_); rintro e w' ⟨rfl, ⟨nd, rfl⟩⟩; (try first | exact ⟨rfl, _, World.drewN_drewN _ _ _⟩ | exact ⟨rfl, _, Eq.trans (World.drewN_drewN _ _ _) (congrArg (World.drewN _) (Nat.add_assoc _ _ _))⟩))))
            refine bodyPost_ret (results_list (rs := [.tmp 4, .tmp 5, .tmp 6, .tmp 7]) rfl (by simp) (.tmp (.tmp (.tmp (.tmp .nil))))) rfl ?_
            exact ⟨by first | rfl | (simp; done) | (simp only [← hji18, ← hji20, ← hji22, ← hji24, ← hji26] <;> (first | rfl | simp)) | (simp [*]; done), by repeat (first | exact Drawn0.refl _ | apply Drawn0.step)⟩
          · rw [if_neg c23] at H
            exact absurd H (by simp)
        · rw [if_neg c21] at H
          exact absurd H (by simp)
      · rw [if_neg c19] at H
        exact absurd H (by simp)

/-! ### glossatorref05_Exact: function 12 -/
def glossatorref05_Exact.f (a0 : Int) : Option (Bool × Int × Int × Bool) := (glossatorref05_Parts.f 64 a0).bind fun bt237 => (if bt237.2.1 = 2047 then (some (false, 0, 0, false)) else (if bt237.2.1 = 0 then (some (bt237.1, bt237.2.2.1, (-1074), true)) else (some (bt237.1, Go.bits .or .u64 bt237.2.2.1 4503599627370496, wrap64 (bt237.2.1 - 1075), true))))
set_option maxHeartbeats 8000000 in
set_option maxRecDepth 100000 in
theorem glossatorref05_Exact.calls (a0 : Int) (r1 : Bool) (r2 : Int) (r3 : Int) (r4 : Bool) (w : World) (h : glossatorref05_Exact.f a0 = some (r1, r2, r3, r4)) :
    Calls Tryd.prog 12 #[.int .u64 a0] w fun e w' => e = .returned (.tuple #[.bool r1, .int .u64 r2, .int .i64 r3, .bool r4]) ∧ Drawn0 w w' := by
  have H : ((glossatorref05_Parts.f 64 a0).bind fun bt237 => (if bt237.2.1 = 2047 then (some (false, 0, 0, false)) else (if bt237.2.1 = 0 then (some (bt237.1, bt237.2.2.1, (-1074), true)) else (some (bt237.1, Go.bits .or .u64 bt237.2.2.1 4503599627370496, wrap64 (bt237.2.1 - 1075), true))))) = some (r1, r2, r3, r4) := h
  clear h
  replace H := Option.bind_eq_some_iff.mp H
  obtain ⟨⟨t237, t238, t239, t240⟩, A20, H⟩ := H
  replace H : (if t238 = 2047 then (some (false, 0, 0, false)) else (if t238 = 0 then (some (t237, t239, (-1074), true)) else (some (t237, Go.bits .or .u64 t239 4503599627370496, wrap64 (t238 - 1075), true)))) = some (r1, r2, r3, r4) := H
  have A2 := Aside0.mk A20
  clear A20
  by_cases c3 : t238 = 2047
  · rw [if_pos c3] at H
    have c3b0 : (t238 == 2047) = true := beq_iff_eq.mpr c3
    have c3b1 : (t238 != 2047) = false := bne_eq_false_iff_eq.mpr c3
    clear c3
    simp only [Option.some.injEq, Prod.mk.injEq] at H
    obtain ⟨rfl, rfl, rfl, rfl⟩ := H
    go_enter Tryd.func12, Tryd.ntmps12
    go_wp2_with (first | ((with_reducible refine gate_callee (f := 26) rfl ?_); refine goesL_ (some 12) rfl rfl Tryd.func26 (by kernel_rfl) rfl #[.int .i64 64, .int .u64 a0] rfl (by (try simp only [List.map_toArray, List.map_cons, List.map_nil]); first | done | rfl | (simp only [List.length_drop, List.length_take]; rfl)) ?_; (with_reducible refine (glossatorref05_Parts.calls 64 a0 t237 t238 t239 t240 _ A2.out).mono ?_); rintro e w' ⟨rfl, ⟨nd, rfl⟩⟩; refine ⟨_, rfl, ?_⟩))
    refine bodyPost_ret (results_list (rs := [.tmp 2, .tmp 3, .tmp 4, .tmp 5]) rfl (by simp) (.tmp (.tmp (.tmp (.tmp .nil))))) rfl ?_
    exact ⟨by first | rfl | (simp; done) | (simp [*]; done), by repeat (first | exact Drawn0.refl _ | apply Drawn0.step)⟩
  · rw [if_neg c3] at H
    have c3b0 : (t238 == 2047) = false := beq_eq_false_iff_ne.mpr c3
    have c3b1 : (t238 != 2047) = true := bne_iff_ne.mpr c3
    by_cases c4 : t238 = 0
    · rw [if_pos c4] at H
      have c4b0 : (t238 == 0) = true := beq_iff_eq.mpr c4
      have c4b1 : (t238 != 0) = false := bne_eq_false_iff_eq.mpr c4
      clear c4
      simp only [Option.some.injEq, Prod.mk.injEq] at H
      obtain ⟨rfl, rfl, rfl, rfl⟩ := H
      go_enter Tryd.func12, Tryd.ntmps12
      go_wp2_with (first | ((with_reducible refine gate_callee (f := 26) rfl ?_); refine goesL_ (some 12) rfl rfl Tryd.func26 (by kernel_rfl) rfl #[.int .i64 64, .int .u64 a0] rfl (by (try simp only [List.map_toArray, List.map_cons, List.map_nil]); first | done | rfl | (simp only [List.length_drop, List.length_take]; rfl)) ?_; (with_reducible refine (glossatorref05_Parts.calls 64 a0 t237 t238 t239 t240 _ A2.out).mono ?_); rintro e w' ⟨rfl, ⟨nd, rfl⟩⟩; refine ⟨_, rfl, ?_⟩))
      refine bodyPost_ret (results_list (rs := [.tmp 2, .tmp 3, .tmp 4, .tmp 5]) rfl (by simp) (.tmp (.tmp (.tmp (.tmp .nil))))) rfl ?_
      exact ⟨by first | rfl | (simp; done) | (simp [*]; done), by repeat (first | exact Drawn0.refl _ | apply Drawn0.step)⟩
    · rw [if_neg c4] at H
      have c4b0 : (t238 == 0) = false := beq_eq_false_iff_ne.mpr c4
      have c4b1 : (t238 != 0) = true := bne_iff_ne.mpr c4
      simp only [Option.some.injEq, Prod.mk.injEq] at H
      obtain ⟨rfl, rfl, rfl, rfl⟩ := H
      go_enter Tryd.func12, Tryd.ntmps12
      go_wp2_with (first | ((with_reducible refine gate_callee (f := 26) rfl ?_); refine goesL_ (some 12) rfl rfl Tryd.func26 (by kernel_rfl) rfl #[.int .i64 64, .int .u64 a0] rfl (by (try simp only [List.map_toArray, List.map_cons, List.map_nil]); first | done | rfl | (simp only [List.length_drop, List.length_take]; rfl)) ?_; (with_reducible refine (glossatorref05_Parts.calls 64 a0 t237 t238 t239 t240 _ A2.out).mono ?_); rintro e w' ⟨rfl, ⟨nd, rfl⟩⟩; refine ⟨_, rfl, ?_⟩))
      refine bodyPost_ret (results_list (rs := [.tmp 2, .tmp 3, .tmp 4, .tmp 5]) rfl (by simp) (.tmp (.tmp (.tmp (.tmp .nil))))) rfl ?_
      exact ⟨by first | rfl | (simp; done) | (simp [*]; done), by repeat (first | exact Drawn0.refl _ | apply Drawn0.step)⟩

/-! ### glossatorref05_shift: function 27 -/
def glossatorref05_shift.l0 : Nat → Int → Int → Int → Option (Int × Bool)
  | 0, _, _, _ => none
  | k + 1, x0, x1, x6 => if x6 < x1 then (if (Go.bits .and .u64 x0 1) = 1 then (some (0, false)) else (glossatorref05_shift.l0 k (x0 / 2) x1 (wrap64 (x6 + 1)))) else (some (x0, true))
def glossatorref05_shift.f (k : Nat) (a0 : Int) (a1 : Int) : Option (Int × Bool) := glossatorref05_shift.l0 k a0 a1 0
theorem glossatorref05_shift.mono_l : ∀ k, (∀ y0 y1 y2, LeO (glossatorref05_shift.l0 k y0 y1 y2) (glossatorref05_shift.l0 (k + 1) y0 y1 y2))
  | 0 => fun _ _ _ r h => by simp [glossatorref05_shift.l0] at h
  | k + 1 => by
    have ih0 := glossatorref05_shift.mono_l k
    · intro y0 y1 y2
      unfold glossatorref05_shift.l0
      repeat' first
      | (with_reducible exact ih0 _ _ _)
      | (with_reducible exact LeO.refl _)
      | (with_reducible exact LeO.none _)
      | (with_reducible refine LeO.ite ?_ ?_)
      | (with_reducible refine LeO.bind ?_ (fun _ => ?_))
      | exact ih0 _ _ _
      | exact LeO.none _
      | refine LeO.ite ?_ ?_
      | refine LeO.bind ?_ (fun _ => ?_)
theorem glossatorref05_shift.mono : ∀ a0 a1 k, LeO (glossatorref05_shift.f k a0 a1) (glossatorref05_shift.f (k + 1) a0 a1) := by
  intro a0 a1 k
  have ih0 := glossatorref05_shift.mono_l k
  unfold glossatorref05_shift.f
  repeat' first
      | (with_reducible exact ih0 _ _ _)
      | (with_reducible exact LeO.refl _)
      | (with_reducible exact LeO.none _)
      | (with_reducible refine LeO.ite ?_ ?_)
      | (with_reducible refine LeO.bind ?_ (fun _ => ?_))
      | exact ih0 _ _ _
      | exact LeO.none _
      | refine LeO.ite ?_ ?_
      | refine LeO.bind ?_ (fun _ => ?_)
set_option maxHeartbeats 8000000 in
set_option maxRecDepth 100000 in
theorem glossatorref05_shift.calls (k : Nat) (a0 : Int) (a1 : Int) (r1 : Int) (r2 : Bool) (w : World) (h : glossatorref05_shift.f k a0 a1 = some (r1, r2)) :
    Calls Tryd.prog 27 #[.int .u64 a0, .int .i64 a1] w fun e w' => e = .returned (.tuple #[.int .u64 r1, .bool r2]) ∧ Drawn0 w w' := by
  have H : (glossatorref05_shift.l0 k a0 a1 0) = some (r1, r2) := h
  clear h
  have H' := Aside0.mk H
  clear H
  go_enter Tryd.func27, Tryd.ntmps27
  go_wp2
  go_loopg [0, 6] k (fun kq v0 v6 w' => ∃ (x0_1 : Int) (x6_1 : Int), v0 = .int .u64 x0_1 ∧ v6 = .int .i64 x6_1 ∧ Aside0 (glossatorref05_shift.l0 kq x0_1 a1 x6_1 = some (r1, r2)) ∧ Aside0 (kq ≤ k) ∧ Drawn0 w w')
  case atStart => exact ⟨(a0), (0), (by first | rfl | (simp; done) | (simp [*]; done) | (simp [*] <;> decide +kernel)), (by first | rfl | (simp; done) | (simp [*]; done) | (simp [*] <;> decide +kernel)), H', ⟨Nat.le_refl _⟩, by repeat (first | exact Drawn0.refl _ | apply Drawn0.step)⟩
  case round =>
    clear H'
    try clear c2
    try clear p2
    obtain ⟨x0_1, x6_1, rfl, rfl, HA, HK1, ⟨m1, rfl⟩⟩ := hrel
    cases gk with
    | zero => exact absurd HA.out (by simp [glossatorref05_shift.l0])
    | succ k1 =>
      have H := HA.out
      clear HA
      simp only [glossatorref05_shift.l0] at H
      by_cases c3 : x6_1 < a1
      · rw [if_pos c3] at H
        have c3b0 : decide (x6_1 < a1) = true := decide_eq_true c3
        clear c3
        by_cases c4 : (Go.bits .and .u64 x0_1 1) = 1
        · rw [if_pos c4] at H
          have c4b0 : ((Go.bits .and .u64 x0_1 1) == 1) = true := beq_iff_eq.mpr c4
          have c4b1 : ((Go.bits .and .u64 x0_1 1) != 1) = false := bne_eq_false_iff_eq.mpr c4
          clear c4
          simp only [Option.some.injEq, Prod.mk.injEq] at H
          obtain ⟨rfl, rfl⟩ := H
          go_wp2
          go_ret2
          exact ⟨by first | rfl | (simp; done) | (simp [*]; done), by repeat (first | exact Drawn0.refl _ | apply Drawn0.step)⟩
        · rw [if_neg c4] at H
          have c4b0 : ((Go.bits .and .u64 x0_1 1) == 1) = false := beq_eq_false_iff_ne.mpr c4
          have c4b1 : ((Go.bits .and .u64 x0_1 1) != 1) = true := bne_iff_ne.mpr c4
          have H' := Aside0.mk H
          clear H
          go_wp2
          go_roundg k1
          case measure => have := HK1.out; omega
          case rel => exact ⟨(x0_1 / 2), (wrap64 (x6_1 + 1)), (by first | rfl | (simp; done) | (simp [*]; done) | (simp [*] <;> decide +kernel)), (by first | rfl | (simp; done) | (simp [*]; done) | (simp [*] <;> decide +kernel)), H', ⟨by have := HK1.out; omega⟩, by repeat (first | exact Drawn0.refl _ | apply Drawn0.step)⟩
      · rw [if_neg c3] at H
        have c3b0 : decide (x6_1 < a1) = false := decide_eq_false c3
        clear c3
        simp only [Option.some.injEq, Prod.mk.injEq] at H
        obtain ⟨rfl, rfl⟩ := H
        go_wp2
        go_ret2
        exact ⟨by first | rfl | (simp; done) | (simp [*]; done), by repeat (first | exact Drawn0.refl _ | apply Drawn0.step)⟩

end Go.Proofs.YtjefhpbliihonaaDoor.PFbitsInts
