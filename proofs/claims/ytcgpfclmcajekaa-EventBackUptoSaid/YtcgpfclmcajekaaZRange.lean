-- Out of texts of this seat by a program of this session: what the claim does not reach is struck
import Derived.Test.YtcgpfclmcajekaaZEach
import Derived.Laws.EntriesVeiled
namespace Go.Proofs.Ytcgpfclmcajekaa.Each
open Go Go.RowKit Go.Shelf Go.Proofs.YtcgpfclmcajekaaW.PrintWords Go.Proofs.YtcgpfclmcajekaaW.PrintLast
attribute [local go_sem] Oper.semAt_some
set_option linter.unusedVariables false
set_option linter.unusedSimpArgs false
structure CK (n : Nat) (A B : World) : Prop where
  below : Below n A B
  cells : ∀ (b : Nat) (cs : Array Value) (t : TypeId) (fz : Nat × Nat), A.heap[b]? = some (Obj.cells cs t fz) → B.heap[b]? = some (Obj.cells cs t fz)
theorem CK.refl (n : Nat) (A : World) : CK n A A := ⟨Below.refl _ _, fun _ _ _ _ h => h⟩
theorem CK.trans {n : Nat} {A B C : World} (h : CK n A B) (k : CK n B C) : CK n A C := ⟨h.below.trans k.below, fun b cs t fz hc => k.cells b cs t fz (h.cells b cs t fz hc)⟩
theorem CK.of_below {n : Nat} {A B : World} (hn : n ≤ A.heap.size) (h : Below A.heap.size A B) : CK n A B := ⟨h.mono hn, fun b cs t fz hc => (h.block b (blk_lt hc)).trans hc⟩
theorem CK.alloc {n : Nat} {A : World} (hn : n ≤ A.heap.size) (o : Obj) : CK n A (A.alloc o) := CK.of_below hn (below_alloc (Below.refl _ _) o)
theorem CK.putLoop {n l : Nat} {A : World} {r : Loop} (hn : n ≤ l) (hl : A.heap[l]? = some (.loop r)) (o : Obj) : CK n A (A.putObj l o) :=
  ⟨(Below.refl n A).grown (grownBy_putObj' A l o) (by have := blk_lt hl; omega) (fun k e => by cases e; omega), fun b cs t fz hc => by
    by_cases e : b = l
    · subst e; rw [hl] at hc; cases hc
    · exact (World.putObj_heap_other e).trans hc⟩
theorem CK.kp {n n0 B0 u : Nat} {A B : World} (h : CK n A B) (hn : n0 ≤ n) : Kp n0 B0 u A B := ⟨h.below.mono hn, fun b cs t fz _ _ hc => h.cells b cs t fz hc⟩
theorem CK.own {n e m base : Nat} {A B : World} {v : Value} {xs : List Value} (h : CK n A B) (ho : A.ownsRow base e 1 v m xs) : B.ownsRow base e 1 v m xs :=
  own_move ho (fun k hk => by
    obtain ⟨cells, hc⟩ := own_typed ho k hk
    exact (h.cells k cells e (0, 0) hc).trans hc.symm)
theorem KeepsOthers.of_below {A B : World} (h : Below A.heap.size A B) : KeepsOthers A B := ⟨h.size, fun k o hk _ => (h.block k (blk_lt hk)).trans hk⟩
def RoundEnd {X : Type} (n0 B0 u : Nat) (I : List X → World → Prop) (Ix : Code → World → Prop) (xs : List X) (W : World) : Exit → Act → World → Prop
  | .normal, _, W' => KeepsOthers W W' ∧ Kp n0 B0 u W W' ∧ I xs W'
  | .ret, _, W' => KeepsOthers W W' ∧ Ix .ret W'
  | .exit id, _, W' => KeepsOthers W W' ∧ Ix (.exit id) W'
  | .goto t, _, W' => KeepsOthers W W' ∧ Ix (.goto t) W'
  | .panic _, _, _ => False
  | .outgrown, _, _ => False
section
variable {S : Type} (T : Tree S) (u : Nat) (w0 : World)
set_option maxRecDepth 100000 in
set_option maxHeartbeats 4000000 in
theorem iter_calls (l Bv : Nat) (J : List (List Int × S) → World → Prop) (Jx : World → Prop) (x : S) (cs : List Value) (W : World) (hK : T.D.K w0 x cs) (hb : Below w0.heap.size w0 W) (hbv : W.heap[Bv]? = some (.cells cs.toArray 25 (0, 0)))
    (hu3 : 3 ≠ u) (hu46 : 74 ≠ u) (hu25 : 25 ≠ u) (hlen : T.sz x + 1 ≤ 17592186044416) (hJ : ∀ pre A B, Below A.heap.size A B → J pre A → J pre B)
    (hY : Rounds T l W.heap.size u w0 J Jx (T.nodes (T.sz x + 1) [] x)) (h0 : J [] W) :
    Calls Try.prog 47 #[.func (.yield l) #[] #[], .pointer (some ⟨Bv, 0, none⟩)] W fun e W' => (∃ v, e = .returned v) ∧ (J (T.nodes (T.sz x + 1) [] x) W' ∨ Jx W') := by
  have hK' := hK
  obtain ⟨A4, c4, rfl, hc4, g4⟩ := T.openK hK
  obtain ⟨W1, hW1⟩ : ∃ W1, W.alloc (.cells #[.func (.yield l) #[] #[]] 74 (0, 0)) = W1 := ⟨_, rfl⟩
  have hz1 : W1.heap.size = W.heap.size + 1 := by rw [← hW1]; exact World.size_alloc _ _
  have hb1 : Below W.heap.size W W1 := by rw [← hW1]; exact below_alloc (Below.refl _ _) _
  have hy1 : W1.heap[W.heap.size]? = some (.cells #[.func (.yield l) #[] #[]] 74 (0, 0)) := by rw [← hW1]; exact World.alloc_heap_new W _
  obtain ⟨W2, hW2⟩ : ∃ W2, W1.alloc (.cells #[.func (.func 48) #[] #[.pointer (some ⟨W.heap.size, 0, none⟩), .pointer (some ⟨W.heap.size + 1, 0, none⟩)]] 74 (0, 0)) = W2 := ⟨_, rfl⟩
  have hb2 : Below W1.heap.size W1 W2 := by rw [← hW2]; exact below_alloc (Below.refl _ _) _
  have hy2 : W2.heap[W.heap.size + 1]? = some (.cells #[.func (.func 48) #[] #[.pointer (some ⟨W.heap.size, 0, none⟩), .pointer (some ⟨W.heap.size + 1, 0, none⟩)]] 74 (0, 0)) := by rw [← hW2, ← hz1]; exact World.alloc_heap_new W1 _
  have hb12 : Below W.heap.size W W2 := hb1.trans (hb2.mono hb1.size)
  have hd := down_calls T l (W.heap.size + 1) W.heap.size W.heap.size u w0 J Jx (T.nodes (T.sz x + 1) [] x) hb.size (by omega) (Nat.le_refl _) hu3 hu46 hu25 hJ hY (T.sz x + 1) x [] [] [] (.slice none 0 0) _ W2
    (by simp) (by omega) (by simpa using hlen) (hJ _ _ _ hb12 h0) (World.ownsRow_nil _ _ _ _) hK' (hb.trans (hb12.mono hb.size)) hb12.size ((hb2.block _ (by omega)).trans hy1) hy2
  have hl0 : W2.cell? ⟨W.heap.size + 1, 0, none⟩ = some (.func (.func 48) #[] #[.pointer (some ⟨W.heap.size, 0, none⟩), .pointer (some ⟨W.heap.size + 1, 0, none⟩)]) := (blk_cell hy2 0).trans rfl
  obtain ⟨b0, b1, b2, b3, b4⟩ := cells5 ((hb12.block Bv (blk_lt hbv)).trans hbv)
  have HD := Aside0.mk hd
  clear hd hb1 hb2 hb12 hy1 hy2 hJ hY hb hK hK' g4 h0 hbv
  go_enter Try.func47, Try.ntmps47
  go_wp2_with (go_at_call 48; refine HD.out.mono ?_; rintro e W3 ⟨b, rfl, ht, hf⟩; have HT := Aside0.mk ht; have HF := Aside0.mk hf; clear ht hf)
  go_end0
  refine ⟨⟨_, rfl⟩, ?_⟩
  cases b with
  | true => exact .inl (by simpa using (HT.out rfl).1)
  | false => exact .inr (HF.out rfl)
theorem range_each (x : S) (cs : List Value) (Bv : Nat) {g : Operand} {ps : Array Tmp} {assign body : Code} {Q : Exit → Act → World → Prop} {a : Act} {w : World}
    (hg : a.eval g = .func (.func 47) #[] #[.pointer (some ⟨Bv, 0, none⟩)]) (hK : T.D.K w0 x cs) (hb : Below w0.heap.size w0 w) (hbv : w.heap[Bv]? = some (.cells cs.toArray 25 (0, 0)))
    (hu3 : 3 ≠ u) (hu46 : 74 ≠ u) (hu25 : 25 ≠ u) (hlen : T.sz x + 1 ≤ 17592186044416) (hps : ps.size = 2)
    (I : List (List Int × S) → World → Prop) (Ix : Code → World → Prop)
    (hI : ∀ pre A B, w.heap.size ≤ A.heap.size → CK w.heap.size A B → I pre A → I pre B) (hIx : ∀ c A B, w.heap.size ≤ A.heap.size → CK w.heap.size A B → Ix c A → Ix c B) (h0 : I [] w)
    (Ax : List Int → S → Value → List Value → Act → World → Prop) (hAx : ∀ p y v cs' a' A B, w.heap.size ≤ A.heap.size → CK w.heap.size A B → Ax p y v cs' a' A → Ax p y v cs' a' B)
    (hassign : ∀ l pre p y rest v cs' W (K : Act → World → Prop), pre ++ (p, y) :: rest = T.nodes (T.sz x + 1) [] x → l = w.heap.size + 1 → w.heap.size + 2 ≤ W.heap.size → I pre W → T.D.K w0 y cs' → Below w0.heap.size w0 W → W.ownsRow (w.heap.size + 2) 3 1 v p.length (nums .i64 p) →
      (∀ a' W', CK w.heap.size W W' → KeepsOthers W W' → Ax p y v cs' a' W' → K a' W') →
      assign.wpIn (Fence.wide.inRound l) 0 Try.prog (Exit.then K (fun _ _ _ => False)) { tmps := (ps.zip #[v, .agg cs'.toArray]).foldl (fun t (p, v) => t.setIfInBounds p v) a.tmps, defers := [] } W)
    (hbody : ∀ l pre p y rest v cs' a' W, pre ++ (p, y) :: rest = T.nodes (T.sz x + 1) [] x → l = w.heap.size + 1 → w.heap.size + 2 ≤ W.heap.size → I pre W → T.D.K w0 y cs' → Below w0.heap.size w0 W → W.ownsRow (w.heap.size + 2) 3 1 v p.length (nums .i64 p) → Ax p y v cs' a' W →
      body.wpIn (Fence.wide.inRound l) 0 Try.prog (RoundEnd w0.heap.size (w.heap.size + 2) u I Ix (pre ++ [(p, y)]) W) a' W)
    (hdone : ∀ (D : Nat) (W : World), w.heap.size ≤ D → I (T.nodes (T.sz x + 1) [] x) W → W.heap[D]? = some (.deferred (some [])) → Q .normal { a with defers := { target := .collected D, args := #[] } :: a.defers } W)
    (hstop : ∀ (D : Nat) (c : Code) (W : World), w.heap.size ≤ D → Ix c W → W.heap[D]? = some (.deferred (some [])) → c.wpIn Fence.wide 0 Try.prog Q { a with defers := { target := .collected D, args := #[] } :: a.defers } W) :
    (Code.rangeFunc g ps assign body).wpIn Fence.wide 0 Try.prog Q a w := by
  refine wpIn_rangeFunc ?_
  intro fn hfn
  obtain ⟨rec, hrec⟩ : ∃ rec : LoopState → Option Code → Loop, rec = fun st pe => { state := st, pending := pe, fn, tmps := a.tmps, params := ps, assign, body, defers := w.heap.size } := ⟨_, rfl⟩
  obtain ⟨W1, hW1⟩ : ∃ W1, (w.alloc (.deferred (some []))).alloc (.loop (rec .ready none)) = W1 := ⟨_, rfl⟩
  have hz1 : W1.heap.size = w.heap.size + 2 := by rw [← hW1]; simp
  have hL1 : W1.heap[w.heap.size + 1]? = some (.loop (rec .ready none)) := by
    rw [← hW1]; have := World.alloc_heap_new (w.alloc (.deferred (some []))) (.loop (rec .ready none)); rwa [World.size_alloc] at this
  have hK1 : W1.heap[w.heap.size]? = some (.deferred (some [])) := by
    rw [← hW1]; exact blk_alloc (World.alloc_heap_new w _) _
  have hbw : Below w.heap.size w W1 := by rw [← hW1]; exact below_alloc (below_alloc (Below.refl _ _) _) _
  have hc1 : CK w.heap.size w W1 := CK.of_below (Nat.le_refl _) hbw
  refine ⟨w.heap.size + 1, [{ target := .collected w.heap.size, args := #[] }], W1, { target := .fn (.func 47) #[.pointer (some ⟨Bv, 0, none⟩)], args := #[.func (.yield (w.heap.size + 1)) #[] #[]] }, W1, 47,
    #[.func (.yield (w.heap.size + 1)) #[] #[]] ++ #[.pointer (some ⟨Bv, 0, none⟩)], W1, ?_, ?_, ?_, ?_, (fun h => by cases h), ?_⟩
  · rw [← hW1, hrec]; exact run_enterLoop_outer _ _ _ _ _
  · simp only [resolve, hg]
    simp [go_sem]
  · intro f' _; exact trivial
  · have he := fun args (w : World) => enters_ (P := Try.prog) Try.func47 (by kernel_rfl) rfl args w
    simp [invoke, he]
  · have hput : ∀ (W : World) (r : Loop) (st : LoopState) (pe : Option Code), W.heap[w.heap.size + 1]? = some (.loop r) → W.heap[w.heap.size]? = some (.deferred (some [])) →
        CK w.heap.size W (W.putObj (w.heap.size + 1) (.loop (rec st pe))) ∧ (W.putObj (w.heap.size + 1) (.loop (rec st pe))).heap[w.heap.size + 1]? = some (.loop (rec st pe)) ∧ (W.putObj (w.heap.size + 1) (.loop (rec st pe))).heap[w.heap.size]? = some (.deferred (some [])) := fun W r st pe hl hd =>
      ⟨CK.putLoop (by omega) hl _, World.putObj_heap_same (blk_lt hl), (World.putObj_heap_other (by omega)).trans hd⟩
    refine callsIn_wide.2 ((iter_calls T u w0 (w.heap.size + 1) Bv (fun pre W => I pre W ∧ w.heap.size + 2 ≤ W.heap.size ∧ W.heap[w.heap.size + 1]? = some (.loop (rec .ready none)) ∧ W.heap[w.heap.size]? = some (.deferred (some [])))
      (fun W => ∃ c, Ix c W ∧ w.heap.size + 2 ≤ W.heap.size ∧ W.heap[w.heap.size + 1]? = some (.loop (rec .done (some c))) ∧ W.heap[w.heap.size]? = some (.deferred (some []))) x cs W1 hK (hb.trans (hbw.mono hb.size)) ((hbw.block _ (blk_lt hbv)).trans hbv) hu3 hu46 hu25 hlen ?_ ?_ ?_).mono ?_)
    · rintro pre A B hAB ⟨hi, hz, hl, hd⟩
      exact ⟨hI pre A B (by omega) (CK.of_below (by omega) hAB) hi, Nat.le_trans hz hAB.size, (hAB.block _ (blk_lt hl)).trans hl, (hAB.block _ (blk_lt hd)).trans hd⟩
    ·
      rintro pre p y rest v cs' W hall ⟨hi, hz, hl, hd⟩ hown hKy hbW hBW
      rw [hz1] at hown
      have hy := run_yield (P := Try.prog) (args := #[v, .agg cs'.toArray]) hl (by rw [hrec]; simpa using hps.symm)
      rw [hrec] at hy
      refine ⟨fn, _, assign, body, hy, roundIn_of_wpIn hfn (hassign _ pre p y rest v cs' W _ hall rfl hz hi hKy hbW hown ?_)⟩
      intro a' Wa hck hko hax
      have hla := hko.same _ _ hl rfl
      have hda := hko.same _ _ hd rfl
      refine ⟨_, run_beginRound hla (by rw [hrec]), ?_⟩
      obtain ⟨hc2, hl2, hd2⟩ := hput Wa _ .busy none hla hda
      have e2 : Loop.mk .busy none fn a.tmps ps assign body w.heap.size = rec .busy none := by rw [hrec]
      have e3 : ({ rec .ready none with state := .busy } : Loop) = rec .busy none := by rw [hrec]
      rw [e3]
      have hza : w.heap.size ≤ Wa.heap.size := by have := hck.below.size; omega
      refine wpIn_mono (hbody _ pre p y rest v cs' a' _ hall rfl (by rw [World.putObj_size]; have := hko.size; omega) (hI _ _ _ hza hc2 (hI _ _ _ (by omega) hck hi)) hKy (hbW.trans ((hck.trans hc2).below.mono hb.size)) ((hck.trans hc2).own hown) (hAx _ _ _ _ _ _ _ hza hc2 hax)) ?_
      have fin : ∀ (jump : Option Code) (W3 : World), KeepsOthers (Wa.putObj (w.heap.size + 1) (.loop (rec .busy none))) W3 →
          (Instr.endRound (w.heap.size + 1) jump).run Try.prog W3 = .ok (.bool jump.isNone) (W3.putObj (w.heap.size + 1) (.loop (rec (if jump.isNone then .ready else .done) jump))) ∧ w.heap.size + 2 ≤ W3.heap.size ∧
          W3.heap[w.heap.size + 1]? = some (.loop (rec .busy none)) ∧ W3.heap[w.heap.size]? = some (.deferred (some [])) := fun jump W3 hk3 => by
        have hl3 := hk3.same _ _ hl2 rfl
        have := run_endRound (P := Try.prog) jump hl3
        refine ⟨?_, ?_, hl3, hk3.same _ _ hd2 rfl⟩
        · rw [this, hrec]
        · have h1 := hk3.size; rw [World.putObj_size] at h1; have := hko.size; omega
      rintro e a3 W3 hp
      cases e with
      | normal =>
        obtain ⟨hk3, hkp3, hi3⟩ := hp
        obtain ⟨hr, hz3, hl3, hd3⟩ := fin none W3 hk3
        obtain ⟨hc4, hl4, hd4⟩ := hput W3 _ .ready none hl3 hd3
        refine ⟨_, _, hr, true, rfl, fun _ => ⟨⟨hI _ _ _ (by omega) hc4 hi3, by rw [World.putObj_size]; exact hz3, hl4, hd4⟩, ?_⟩, fun h => by cases h⟩
        rw [hz1]
        exact (((hck.trans hc2).kp hb.size).trans hkp3).trans (hc4.kp hb.size)
      | ret =>
        obtain ⟨hk3, hi3⟩ := hp
        obtain ⟨hr, hz3, hl3, hd3⟩ := fin (some .ret) W3 hk3
        obtain ⟨hc4, hl4, hd4⟩ := hput W3 _ .done (some .ret) hl3 hd3
        exact ⟨_, _, hr, false, rfl, (fun h => by cases h), fun _ => ⟨.ret, hIx _ _ _ (by omega) hc4 hi3, by rw [World.putObj_size]; exact hz3, hl4, hd4⟩⟩
      | exit id =>
        obtain ⟨hk3, hi3⟩ := hp
        obtain ⟨hr, hz3, hl3, hd3⟩ := fin (some (.exit id)) W3 hk3
        obtain ⟨hc4, hl4, hd4⟩ := hput W3 _ .done (some (.exit id)) hl3 hd3
        exact ⟨_, _, hr, false, rfl, (fun h => by cases h), fun _ => ⟨.exit id, hIx _ _ _ (by omega) hc4 hi3, by rw [World.putObj_size]; exact hz3, hl4, hd4⟩⟩
      | goto t =>
        obtain ⟨hk3, hi3⟩ := hp
        obtain ⟨hr, hz3, hl3, hd3⟩ := fin (some (.goto t)) W3 hk3
        obtain ⟨hc4, hl4, hd4⟩ := hput W3 _ .done (some (.goto t)) hl3 hd3
        exact ⟨_, _, hr, false, rfl, (fun h => by cases h), fun _ => ⟨.goto t, hIx _ _ _ (by omega) hc4 hi3, by rw [World.putObj_size]; exact hz3, hl4, hd4⟩⟩
      | panic ch => exact hp.elim
      | outgrown => exact hp.elim
    · exact ⟨hI _ _ _ (Nat.le_refl _) hc1 h0, by omega, hL1, hK1⟩
    · rintro e W2 ⟨⟨v, rfl⟩, (⟨hi, hz, hl, hd⟩ | ⟨c, hi, hz, hl, hd⟩)⟩
      · obtain ⟨hc4, hl4, hd4⟩ := hput W2 _ .exhausted none hl hd
        refine ⟨none, W2.putObj (w.heap.size + 1) (.loop (rec .exhausted none)), by have := run_endLoop (P := Try.prog) hl (by rw [hrec]; simp); rw [hrec] at this ⊢; exact this, ?_⟩
        exact hdone _ _ (Nat.le_refl _) (hI _ _ _ (by omega) hc4 hi) hd4
      · obtain ⟨hc4, hl4, hd4⟩ := hput W2 _ .exhausted (some c) hl hd
        refine ⟨some c, W2.putObj (w.heap.size + 1) (.loop (rec .exhausted (some c))), by have := run_endLoop (P := Try.prog) hl (by rw [hrec]; simp); rw [hrec] at this ⊢; exact this, ?_⟩
        exact hstop _ c _ (Nat.le_refl _) (hIx _ _ _ (by omega) hc4 hi) hd4
end
end Go.Proofs.Ytcgpfclmcajekaa.Each
