/- The paths of a tree's values, by the program's own walk. -/
import Derived.Test.YtdcpilajmbdfbaaCount
namespace Go.Proofs.Ytdcpilajmbdfbaa.Each
open Go Go.RowKit Go.Shelf Go.Proofs.YtdcpilajmbdfbaaW.PrintWords Go.Proofs.YtdcpilajmbdfbaaW.PrintLast
attribute [local go_sem] Oper.semAt_some
set_option linter.unusedVariables false
set_option linter.unusedSimpArgs false

theorem wpListIn_append_at {F : Fence} {n : Nat} {P : Program} (w : World) {ops : Array Oper} {rest : List Oper} {o : Oper} {a : Act} {Q : Exit → Act → World → Prop}
    (hg : o.guard = none) (s x : Operand) (t : TypeId) (hop : o.op = Op.call { callee := Callee.builtin Builtin.append, args := #[s, x], argTypes := #[t, t] })
    (base : Nat) (e : TypeId) (i : TypeInfo) (z : Value) (size bytes : Nat) (h1 : P.underlying t = some (.slice e)) (h2 : P.info? e = some i) (h3 : i.zero = some z) (h4 : i.size = size) (h5 : i.bytes = bytes) (h6 : z.cells.size = size) (h7 : 0 < size)
    (v : Value) (k : Nat) (xs : List Value) (hs : a.eval s = v) (hown : w.ownsRow base e size v k xs) (ad : Addr) (m c : Nat) (news : List Value) (hx : a.eval x = .slice (some ad) m c) (hn : news.length = m * size)
    (hc : ∀ j u, news[j]? = some u → w.cell? (ad.add j) = some u) (h1c : ∀ u ∈ news, u.oneCell' = true) (b1 : k + m ≤ maxLen) (b2 : (k + m) * bytes ≤ 140737488355328) (b3 : base ≤ w.heap.size)
    (hK : ∀ v' w', w'.ownsRow base e size v' (k + m) (xs ++ news) → w.grownBy w' v.ownBlock → (v'.ownBlock = v.ownBlock ∨ v'.ownBlock = some w.heap.size) → wpListIn F n P ops Q rest (a.put o.dst v') w') :
    wpListIn F n P ops Q (o :: rest) a w := by
  refine wpListIn_plain hg fun K hK' => ?_
  obtain ⟨v', w', hrun, r1, r2, _, r4⟩ := run_append_own_at (P := P) w base t o.type e i z size bytes h1 h2 h3 h4 h5 h6 h7 v k xs hown ad m c news hn hc h1c b1 b2 b3
  unfold Oper.wpIn
  refine ⟨by simp [Oper.about, hop, resolve, Target.leads, Sem.run_pure], ?_⟩
  rw [Oper.semAt_plain F _ _ (by rw [hop]; intro c hc'; cases hc')]
  simp [execOp, hop, resolve, invoke, builtin, hs, hx, hrun, Result.andThen]
  exact hK' _ _ (hK v' w' r1 r2 r4)

theorem CK.putDef {n l : Nat} {A : World} {d : Option (List Deferred)} (hn : n ≤ l) (hl : A.heap[l]? = some (.deferred d)) (o : Obj) : CK n A (A.putObj l o) :=
  ⟨(Below.refl n A).grown (grownBy_putObj' A l o) (by have := blk_lt hl; omega) (fun k e => by cases e; omega), fun b cs t fz hc => by
    by_cases e : b = l
    · subst e; rw [hl] at hc; cases hc
    · exact (World.putObj_heap_other e).trans hc⟩
theorem CK.row {n base : Nat} {A B : World} {α : Type} {d : Kd α} {e : Nat} {ok : Nat → Prop} {v : Value} {xs : List α} (h : CK n A B) (hr : d.R e A base ok v xs) : d.R e B base ok v xs :=
  Kd.R_mono (Kd.R_move (Kd.R_bound hr) (fun k hk => by
    obtain ⟨_, _, _, q, _, cells, hc⟩ := hk
    exact (h.cells k cells q (0, 0) hc).trans hc.symm)) (fun _ hk => hk.1)
theorem info26 : (Try.prog.info? 26).map (fun i => (i.zero, i.size, i.bytes)) = some (some (.slice none 0 0), 1, 24) := by kernel_rfl

theorem Kp.grown {n0 B0 u : Nat} {A B : World} {row : Option Nat} (hg : A.grownBy B row) (hn : n0 ≤ A.heap.size) (hr : ∀ k, row = some k → n0 ≤ k ∧ ∃ cells, A.heap[k]? = some (.cells cells u (0, 0))) : Kp n0 B0 u A B :=
  ⟨(Below.refl n0 A).grown hg hn (fun k e => (hr k e).1), fun b cs t fz _ ht hc => (hg.block b (blk_lt hc) (fun e => by
    obtain ⟨_, cells, h⟩ := hr b e.symm
    rw [hc] at h
    injection h with h
    injection h with _ h2 _
    exact ht h2)).trans hc⟩

section
variable {S : Type} (T : Tree S)
/-- The paths, so many. -/
abbrev pathsR (l : List (List Int × S)) : List (List Int) := (l.map (·.1)).take 65536
abbrev Row (W : World) (base : Nat) (v : Value) (xs : List (List Int)) : Prop := (Kd.slice 3 (Kd.int .i64)).R 26 W base (fun _ => True) v xs

set_option maxRecDepth 100000 in
set_option maxHeartbeats 8000000 in
theorem paths_calls (x : S) (cs : List Value) (w : World) (hK : T.D.K w x cs) (hlen : T.sz x + 1 ≤ 17592186044416) :
    Calls Try.prog 22 #[.agg cs.toArray] w fun e w' => ∃ v, e = .returned v ∧ Row w' w.heap.size v (pathsR (T.nodes (T.sz x + 1) [] x)) ∧ Below w.heap.size w w' := by
  have hK' := hK
  obtain ⟨A4, c4, rfl, hc4, g4⟩ := T.openK hK
  clear hK
  obtain ⟨W1, hW1⟩ : ∃ W1, w.alloc (.cells #[.int .i64 (T.k x), .bool (T.neg x), .int .u64 (T.n x), .string (T.s x), .slice A4 (T.kids x).length c4] 25 (0, 0)) = W1 := ⟨_, rfl⟩
  have hz1 : W1.heap.size = w.heap.size + 1 := by rw [← hW1]; exact World.size_alloc _ _
  have hb1 : Below w.heap.size w W1 := by rw [← hW1]; exact below_alloc (Below.refl _ _) _
  obtain ⟨W2, hW2⟩ : ∃ W2, W1.alloc (.cells #[.slice none 0 0] 40 (0, 0)) = W2 := ⟨_, rfl⟩
  have hz2 : W2.heap.size = w.heap.size + 2 := by rw [← hW2, World.size_alloc, hz1]
  have hb2 : Below w.heap.size w W2 := by rw [← hW2]; exact below_alloc hb1 _
  have hr2 : W2.heap[W1.heap.size]? = some (.cells #[.slice none 0 0] 40 (0, 0)) := by rw [← hW2]; exact World.alloc_heap_new W1 _
  have hv2 : W2.heap[w.heap.size]? = some (.cells #[.int .i64 (T.k x), .bool (T.neg x), .int .u64 (T.n x), .string (T.s x), .slice A4 (T.kids x).length c4] 25 (0, 0)) := by rw [← hW2, ← hW1]; exact blk_alloc (World.alloc_heap_new w _) _
  obtain ⟨b0, b1, b2, b3, b4⟩ := cells5 hv2
  have HK := Aside0.mk hK'
  have HB2 := Aside0.mk hb2
  have HR2 := Aside0.mk hr2
  have HZ1 := Aside0.mk hz1
  have HZ2 := Aside0.mk hz2
  have hz1' : w.heap.size < W1.heap.size := by omega
  clear hK' hb1 g4 hz1 hb2 hr2 hv2 hz2
  refine (callsIn_wide (n := 0)).1 ?_
  refine callsIn_of_wp_marks Try.func22 rfl trivial ?_
  simp only [Try.ntmps22, List.size_toArray, List.length_cons, List.length_nil, Nat.reduceAdd, Nat.reduceSub, Array.replicate_succ, Array.replicate_zero, List.push_toArray, List.append_toArray, List.nil_append, List.cons_append]
  gi_wp2_with (refine ⟨trivial, rfl, ?_⟩; gi_at_call 26; refine (callsIn_wide.2 (each_calls _)).mono ?_; rintro e w' ⟨rfl, rfl⟩)
  clear b0 b1 b2 b3 b4
  obtain ⟨W3, hW3⟩ : ∃ W3, W2.alloc (.cells #[.int .i64 (T.k x), .bool (T.neg x), .int .u64 (T.n x), .string (T.s x), .slice A4 (T.kids x).length c4] 25 (0, 0)) = W3 := ⟨_, rfl⟩
  try rw [hW3]
  have hz3 : W3.heap.size = w.heap.size + 3 := by rw [← hW3, World.size_alloc, HZ2.out]
  have HB3 := Aside0.mk (show Below w.heap.size w W3 by rw [← hW3]; exact below_alloc HB2.out _)
  have HV3 := Aside0.mk (show W3.heap[W2.heap.size]? = some (.cells #[.int .i64 (T.k x), .bool (T.neg x), .int .u64 (T.n x), .string (T.s x), .slice A4 (T.kids x).length c4] 25 (0, 0)) by rw [← hW3]; exact World.alloc_heap_new _ _)
  have HR3 := Aside0.mk (show W3.heap[W1.heap.size]? = some (.cells #[.slice none 0 0] 40 (0, 0)) by rw [← hW3]; exact blk_alloc HR2.out _)
  clear hW3
  refine range_each T 26 w x _ W2.heap.size ?hg HK.out HB3.out HV3.out (by decide) (by decide) (by decide) hlen ?hps
    (fun pre W => ∃ v, pre.length ≤ 65536 ∧ W.heap[W1.heap.size]? = some (.cells #[v] 40 (0, 0)) ∧ Row W w.heap.size v (pre.map (·.1)) ∧ Below w.heap.size w W)
    (fun c W => c = .exit 0 ∧ ∃ v, W.heap[W1.heap.size]? = some (.cells #[v] 40 (0, 0)) ∧ Row W w.heap.size v (pathsR (T.nodes (T.sz x + 1) [] x)) ∧ Below w.heap.size w W) ?hI ?hIx ⟨_, Nat.zero_le _, HR3.out, Kd.R_nil _ _ _ _ _, HB3.out⟩
    (fun _ _ v cs' a' _ => a' = { tmps := #[.agg #[.int .i64 (T.k x), .bool (T.neg x), .int .u64 (T.n x), .string (T.s x), .slice A4 (T.kids x).length c4], .pointer (some ⟨w.heap.size, 0, none⟩), .slice none 0 0, .pointer (some ⟨W1.heap.size, 0, none⟩), v, .agg #[.int .i64 (T.k x), .bool (T.neg x), .int .u64 (T.n x), .string (T.s x), .slice A4 (T.kids x).length c4], .func (.func 30) #[] #[.pointer (some ⟨W2.heap.size, 0, none⟩)], v, .agg cs'.toArray, undef, undef, undef, undef, undef, undef, undef, undef], defers := [] })
    (fun _ _ _ _ _ _ _ _ _ h => h) ?hassign ?hbody ?hdone ?hstop
  case hg => rfl
  case hps => rfl
  case hI => rintro pre A B hA hc ⟨v, hl, hi, hr, hb⟩; exact ⟨v, hl, hc.cells _ _ _ _ hi, hc.row hr, hb.trans (hc.below.mono (by omega))⟩
  case hIx => rintro c A B hA hc ⟨e, v, hi, hr, hb⟩; exact ⟨e, v, hc.cells _ _ _ _ hi, hc.row hr, hb.trans (hc.below.mono (by omega))⟩
  case hassign =>
    intro l pre p y rest v cs' W K hall hl hz hi hKy hbW hown hK2
    have HK2 := Aside0.mk (hK2 _ _ (CK.refl _ _) (KeepsOthers.refl _) rfl)
    clear hK2 hall hi hKy hbW hown
    gi_wp2
    exact HK2.out
  case hbody =>
    rintro l pre p y rest v cs' a' W hall hl hz ⟨v9, hlp, hi, hrow, hbW⟩ hKy hbW2 hown rfl
    obtain ⟨A9, c9, rfl⟩ := Kd.R_slice hrow
    have hown2 := hown
    obtain ⟨Ap, cp, rfl, _, _, _⟩ := own_form hown2
    clear hown2
    have hc := (blk_cell hi 0).trans (rfl : _ = some (Value.slice A9 (pre.map (·.1)).length c9))
    have hf := blk_frozen hi 0
    have hzW : W1.heap.size < W.heap.size := blk_lt hi
    have HI := Aside0.mk hi
    have HBW := Aside0.mk hbW
    have HROW := Aside0.mk hrow
    have HOWN := Aside0.mk hown
    have HALL := Aside0.mk hall
    obtain ⟨n, hn⟩ : ∃ n, (pre.map (·.1)).length = n := ⟨_, rfl⟩
    rw [hn] at hc HI HROW
    have HN := Aside0.mk hn
    have hn' : n ≤ 65536 := by rw [← hn]; simpa using hlp
    clear hi hbW hall hKy hbW2 hown hrow hn hlp
    by_cases h6 : n = 65536
    · subst h6
      gi_wp2
      refine ⟨KeepsOthers.refl _, rfl, _, HI.out, ?_, HBW.out⟩
      have e : pathsR (T.nodes (T.sz x + 1) [] x) = pre.map (·.1) := by
        show ((T.nodes (T.sz x + 1) [] x).map (·.1)).take 65536 = _
        rw [← HALL.out, List.map_append, List.take_append_of_le_length (by rw [HN.out]; omega), List.take_of_length_le (by rw [HN.out]; omega)]
      rw [e]
      have h9 := HROW.out
      have hn9 := HN.out
      exact h9
    · have h6b : ((n : Int) == 65536) = false := beq_eq_false_iff_ne.mpr (by omega)
      have hW4 := Kd.R_alloc HROW.out (.cells #[.slice Ap p.length cp] 26 (0, 0))
      obtain ⟨q0, inner, qo, qr⟩ := hW4
      have QO := Aside0.mk qo
      have QR := Aside0.mk qr
      have hb9 := Kd.R_typed HROW.out
      have hlo9 := own_base qo
      have HTY := Aside0.mk hb9
      have HLO := Aside0.mk hlo9
      obtain ⟨i0, hi, hz0, hz1, hz2⟩ := info_parts info26
      have HC1 := Aside0.mk (show ∀ q u, [Value.slice Ap p.length cp][q]? = some u → (W.alloc (.cells #[.slice Ap p.length cp] 26)).cell? ((⟨W.heap.size, 0, none⟩ : Addr).add q) = some u from fun q u hq => by
        rw [add_plain]
        exact (blk_cell (blk_new W _) q).trans (by simpa using hq))
      have HBX := Aside0.mk (show (W.alloc (.cells #[.slice Ap p.length cp] 26)).heap[W1.heap.size]? = some (.cells #[.slice A9 n c9] 40 (0, 0)) from blk_alloc HI.out _)
      have HSZ := Aside0.mk (show w.heap.size ≤ (W.alloc (.cells #[.slice Ap p.length cp] 26)).heap.size by rw [World.size_alloc]; have := HBW.out.size; omega)
      clear qo qr hb9 hlo9
      gi_wp2_with (gi_at_builtin; refine wpListIn_append_at _ rfl (.tmp 12) (.tmp 14) 40 rfl w.heap.size 26 i0 (.slice none 0 0) 1 24 Try.underlying40 hi hz0 hz1 hz2 rfl (by decide) (.slice A9 n c9) n inner rfl (by have h := QO.out; rw [HN.out] at h; exact h) ⟨W.heap.size, 0, none⟩ 1 1 [.slice Ap p.length cp] rfl rfl HC1.out (by simp [Value.oneCell']) (by unfold maxLen; omega) (by omega) HSZ.out ?_; intro v5 W5 hown5 hgrow5 hat5; obtain ⟨A5, c5, rfl⟩ := own_slice hown5; have hbx5 := blk_grown HBX.out hgrow5 (own_ne QO.out HBX.out (by decide)); have hcz5 := (blk_cell hbx5 0).trans (rfl : _ = some (Value.slice A9 n c9)); have hfz5 := blk_frozen hbx5 0; have HX5 := Aside0.mk hbx5; have HO5 := Aside0.mk hown5; have HG5 := Aside0.mk hgrow5; have HA5 := Aside0.mk hat5; clear hown5 hgrow5 hat5 hbx5)
      have hp5 : (Kd.slice 3 (Kd.int .i64)).M (W.alloc (.cells #[.slice Ap p.length cp] 26 (0, 0))) w.heap.size (fun k => (Value.slice Ap p.length cp).ownBlock = some k) p [.slice Ap p.length cp] := by
        have ho := own_weaken (pw_own_below HOWN.out (below_alloc (Below.refl _ _) (.cells #[.slice Ap p.length cp] 26 (0, 0)))) (show w.heap.size ≤ W3.heap.size + 2 by omega)
        exact ⟨_, rfl, Kd.R_of_own ho (fun k hk => hk)⟩
      have hrow5 : Row W5 w.heap.size (.slice A5 (n + 1) c5) (pre.map (·.1) ++ [p]) := by
        refine Kd.R_appended (fun k hk => trivial) QR.out hp5 (fun k hk => ⟨trivial, fun e => ?_⟩) (fun k hk => trivial) (by rw [HN.out]; exact HO5.out) HG5.out ?_
        · obtain ⟨c1, h1⟩ := own_typed (pw_own_below HOWN.out (below_alloc (Below.refl _ _) (.cells #[.slice Ap p.length cp] 26 (0, 0)))) k hk
          obtain ⟨c2, h2⟩ := own_typed QO.out k (by rw [HN.out] at *; exact e.symm)
          rw [h1] at h2
          injection h2 with h2
          injection h2 with _ h3 _
          exact absurd h3 (by decide)
        · rcases HA5.out with h | h
          · exact .inl h
          · exact .inr ⟨_, h, Nat.le_refl _⟩
      have hgW : W.grownBy W5 (Value.slice A9 n c9).ownBlock := (World.grownBy_alloc W (.cells #[.slice Ap p.length cp] 26) _).trans HG5.out
      have hrw : ∀ k, (Value.slice A9 n c9).ownBlock = some k → w.heap.size ≤ k ∧ ∃ cells, W.heap[k]? = some (.cells cells 26 (0, 0)) := fun k hk => by
        have hk2 : (Value.slice A9 (pre.map (·.1)).length c9).ownBlock = some k := by rw [HN.out]; exact hk
        obtain ⟨cells, hc9⟩ := HTY.out k hk
        exact ⟨HLO.out k hk, cells, hc9⟩
      have hb5 : Below w.heap.size w W5 := HBW.out.grown hgW HBW.out.size (fun k e => (hrw k e).1)
      have hq1 := HZ1.out
      refine ⟨(KeepsOthers.of_grownBy hgW (fun j o e ho => ?_)).trans (KeepsOthers.setCell _ _ _), (Kp.grown hgW HBW.out.size hrw).trans (Kp.setCell (by omega) (by omega) _), ?_, _, by have h2 := blk_set HX5.out 0 (.slice A5 (n + 1) c5); simpa using h2, ?_, hb5.setCell (p := ⟨W1.heap.size, 0, none⟩) (by show w.heap.size ≤ W1.heap.size; omega) _⟩
      · obtain ⟨_, cells, h⟩ := hrw j e
        rw [h] at ho
        cases ho; rfl
      · have := HN.out
        simp only [List.length_map] at this
        simp only [List.length_append, List.length_singleton]; omega
      · rw [List.map_append]
        exact Kd.R_set hrow5 HX5.out (by decide) 0 _
  case hdone =>
    rintro D W hD ⟨v, hlp, hi, hrow, hbW⟩ hd
    have hc := (blk_cell hi 0).trans (rfl : _ = some v)
    have HBW := Aside0.mk hbW
    have HD := Aside0.mk hd
    have HROW := Aside0.mk hrow
    have HI := Aside0.mk hi
    clear hi hbW hd hrow
    gi_wp2
    refine ⟨by simp, .inl ⟨_, _, rfl, run_takeDeferred HD.out, ?_⟩⟩
    refine ⟨_, results_tmp rfl _ _ _, _, rfl, ?_, ?_⟩
    · have e : pathsR (T.nodes (T.sz x + 1) [] x) = (T.nodes (T.sz x + 1) [] x).map (·.1) := List.take_of_length_le (by simpa using hlp)
      rw [e]
      exact (CK.putDef (n := w.heap.size) (by omega) HD.out _).row HROW.out
    · exact HBW.out.grown (grownBy_putObj' _ _ _) HBW.out.size (fun k e => by cases e; omega)
  case hstop =>
    rintro D c W hD ⟨rfl, v, hi, hrow, hbW⟩ hd
    have hc := (blk_cell hi 0).trans (rfl : _ = some v)
    have HBW := Aside0.mk hbW
    have HD := Aside0.mk hd
    have HROW := Aside0.mk hrow
    clear hi hbW hd hrow
    gi_wp2
    refine ⟨by simp, .inl ⟨_, _, rfl, run_takeDeferred HD.out, ?_⟩⟩
    refine ⟨_, results_tmp rfl _ _ _, _, rfl, ?_, ?_⟩
    · exact (CK.putDef (n := w.heap.size) (by omega) HD.out _).row HROW.out
    · exact HBW.out.grown (grownBy_putObj' _ _ _) HBW.out.size (fun k e => by cases e; omega)
end
end Go.Proofs.Ytdcpilajmbdfbaa.Each
