-- Out of texts of this seat by a program of this session: what the claim does not reach is struck
import Derived.Test.YtcgpfclmcajekaaZBt
import Derived.Test.YtcgpfclmcajekaaZMa
import Derived.Test.YtcgpfclmcajekaaZMb
import Derived.Test.YtcgpfclmcajekaaZMc
namespace Go.Proofs.Ytcgpfclmcajekaa.Bld
open Go Go.RowKit Go.Shelf Go.Proofs.Ytcgpfclmcajekaa.Each Go.Proofs.YtcgpfclmcajekaaW.PrintWords Go.Proofs.YtcgpfclmcajekaaW.PrintLast
set_option linter.unusedVariables false
set_option linter.unusedSimpArgs false
structure Env {S : Type} (T : Mk S) where
  one : S → Option Bool
  dep : S → Option Int
  hone : ∀ x r, one x = some r → ∀ W cs, T.D.K W x cs → Calls Try.prog 32 #[.agg cs.toArray] W fun e W' => e = .returned (.bool r) ∧ Below W.heap.size W W'
  hdep : ∀ x m, dep x = some m → ∀ W cs, T.D.K W x cs → Calls Try.prog 16 #[.agg cs.toArray] W fun e W' => e = .returned (.int .i64 m) ∧ Below W.heap.size W W'
section
variable {S : Type} (T : Mk S) (E : Env T)
def topX (ps : List S) (a : Int) (ng : Bool) (c : Int) (d : ByteArray) : Option Bool :=
  match ps with
  | [] => some true
  | p :: _ => if T.k p = 13 ∧ T.n p / 2 = 1 then E.one (T.push (T.ev 13 false 2 ⟨#[]⟩) (T.ev a ng c d)) else some true
def mayX (b : BS S) (a : Int) (ng : Bool) (c : Int) (d : ByteArray) : Option Int :=
  (E.one (rightX T a ng c d)).bind fun r => if r = false then some 4 else
  (topX T E b.open_ a ng c d).bind fun r => if r = false then some 4 else
  (E.dep (T.ev a ng c d)).bind fun m => if 0 ≤ m ∧ m ≤ 1048576 then some (if b.depth < (b.open_.length : Int) + m ∨ 65536 ≤ b.count then 8 else 0) else none
def closeX (b : BS S) (ng : Bool) (c : Int) (d : ByteArray) : Int × BS S :=
  match b.open_ with
  | [] => (4, b)
  | p :: ps => if (ng = false ∧ c = 0 ∧ d = ⟨#[]⟩) ∧ T.k p ≠ 13 ∧ ¬ (T.k p = 12 ∧ (T.kids p).length % 2 = 1) then (0, addB T { b with open_ := ps } p) else (4, b)
def putX (b : BS S) (a : Int) (ng : Bool) (c : Int) (d : ByteArray) : Option (Int × BS S) :=
  if b.whole = true then some (4, b) else if a = 15 then some (closeX T b ng c d) else
  (mayX T E b a ng c d).bind fun r => if r = 0 then some (0, if a ≠ 11 ∧ a ≠ 12 ∧ a ≠ 13 then addB T { b with count := b.count + 1 } (T.ev a ng c d) else { b with count := b.count + 1, open_ := T.ev a ng c d :: b.open_ }) else some (r, b)
def wt : List S → Nat
  | [] => 0
  | p :: ps => 1 + (T.kids p).length + wt ps
theorem addR_wt : ∀ (ps : List S) (v : S), wt T (addR T v ps).1 ≤ wt T ps + 1
  | [], v => by simp [addR, wt]
  | p :: ps, v => by
    have h1 : (T.kids (T.push p v)).length = (T.kids p).length + 1 := by rw [T.push_kids]; simp
    rw [addR]
    split
    · have := addR_wt ps (T.push p v)
      simp only [wt]; omega
    · simp only [wt, h1]; omega
theorem wt_mem {x : S} : ∀ {ps : List S}, x ∈ ps → (T.kids x).length ≤ wt T ps
  | p :: ps, h => by
    rcases List.mem_cons.1 h with rfl | h
    · simp only [wt]; omega
    · have := wt_mem h; simp only [wt]; omega
theorem wt_len : ∀ (ps : List S), ps.length ≤ wt T ps
  | [] => Nat.le_refl _
  | p :: ps => by have := wt_len ps; simp only [wt, List.length_cons]; omega
structure Inv (b : BS S) : Prop where
  c0 : 0 ≤ b.count
  c1 : b.count ≤ 65536
  w : (wt T b.open_ : Int) ≤ b.count
theorem Inv.lim {b : BS S} (h : Inv T b) : ∀ x, x ∈ b.open_ → (T.kids x).length ≤ 1048576 := fun x hx => by have := wt_mem T hx; have := h.w; have := h.c1; omega
theorem Inv.len {b : BS S} (h : Inv T b) : b.open_.length ≤ 1048576 := by have := wt_len T b.open_; have := h.w; have := h.c1; omega
theorem addB_open (b : BS S) (v : S) : (addB T b v).open_ = (addR T v b.open_).1 ∧ (addB T b v).count = b.count ∧ (addB T b v).depth = b.depth := by
  unfold addB
  split <;> rename_i h <;> rw [h] <;> exact ⟨rfl, rfl, rfl⟩
theorem Inv.close {b : BS S} (h : Inv T b) (ng : Bool) (c : Int) (d : ByteArray) : Inv T (closeX T b ng c d).2 := by
  unfold closeX
  split
  · exact h
  · rename_i p ps ho
    split
    · obtain ⟨h1, h2, h3⟩ := addB_open T { b with open_ := ps } p
      refine ⟨by rw [h2]; exact h.c0, by rw [h2]; exact h.c1, ?_⟩
      rw [h1, h2]
      have h4 := addR_wt T ps p
      have h5 := h.w
      rw [ho, wt] at h5
      show (wt T (addR T p ps).1 : Int) ≤ b.count
      omega
    · exact h
theorem Inv.put {b b' : BS S} (h : Inv T b) {a : Int} {ng : Bool} {c : Int} {d : ByteArray} {r : Int} (hp : putX T E b a ng c d = some (r, b')) : Inv T b' := by
  unfold putX at hp
  split at hp
  · obtain rfl : b = b' := by injection hp with hp; injection hp
    exact h
  split at hp
  · have : (closeX T b ng c d).2 = b' := by injection hp with hp; rw [hp]
    rw [← this]; exact h.close T ng c d
  obtain ⟨q, hq, hp⟩ := Option.bind_eq_some_iff.1 hp
  split at hp
  · rename_i hq0
    subst hq0
    have hlt : b.count < 65536 := by
      unfold mayX at hq
      obtain ⟨r1, _, hq⟩ := Option.bind_eq_some_iff.1 hq
      split at hq
      · injection hq with hq; cases hq
      obtain ⟨r2, _, hq⟩ := Option.bind_eq_some_iff.1 hq
      split at hq
      · injection hq with hq; cases hq
      obtain ⟨m, _, hq⟩ := Option.bind_eq_some_iff.1 hq
      split at hq
      · injection hq with hq
        split at hq
        · cases hq
        · omega
      · cases hq
    have hb : (if a ≠ 11 ∧ a ≠ 12 ∧ a ≠ 13 then addB T { b with count := b.count + 1 } (T.ev a ng c d) else { b with count := b.count + 1, open_ := T.ev a ng c d :: b.open_ }) = b' := by injection hp with hp; injection hp
    rw [← hb]
    have hc0 := h.c0
    have hw := h.w
    split
    · obtain ⟨h1, h2, h3⟩ := addB_open T { b with count := b.count + 1 } (T.ev a ng c d)
      refine ⟨by rw [h2]; show 0 ≤ b.count + 1; omega, by rw [h2]; show b.count + 1 ≤ 65536; omega, ?_⟩
      rw [h1, h2]
      have h4 := addR_wt T b.open_ (T.ev a ng c d)
      show (wt T (addR T (T.ev a ng c d) b.open_).1 : Int) ≤ b.count + 1
      omega
    · refine ⟨by show 0 ≤ b.count + 1; omega, by show b.count + 1 ≤ 65536; omega, ?_⟩
      show (wt T (T.ev a ng c d :: b.open_) : Int) ≤ b.count + 1
      rw [wt, T.ev_kids, List.length_nil]
      omega
  · obtain rfl : b = b' := by injection hp with hp; injection hp
    exact h
theorem may_calls (g n0 : Nat) (W : World) (b : BS S) (a : Int) (ng : Bool) (c : Int) (d : ByteArray) (hst : St T g n0 W b) (hi : Inv T b) (r : Int) (hr : mayX T E b a ng c d = some r) :
    Calls Try.prog 36 #[.pointer (some ⟨g, 0, none⟩), .agg #[.int .i64 a, .bool ng, .int .u64 c, .string d]] W fun e W' => e = .returned (.int .i64 r) ∧ Below W.heap.size W W' := by
  unfold mayX at hr
  obtain ⟨r1, h1, hr⟩ := Option.bind_eq_some_iff.1 hr
  cases r1 with
  | false =>
    rw [if_pos rfl] at hr
    injection hr with hr
    subst hr
    exact may_bad T E.one E.hone g n0 W b a ng c d hst h1
  | true =>
    rw [if_neg (by decide)] at hr
    obtain ⟨r2, h2, hr⟩ := Option.bind_eq_some_iff.1 hr
    have hl := hi.len T
    cases ho : b.open_ with
    | nil =>
      rw [ho] at h2
      replace h2 : some true = some r2 := h2
      injection h2 with h2
      subst h2
      rw [if_neg (by decide)] at hr
      obtain ⟨m, h3, hr⟩ := Option.bind_eq_some_iff.1 hr
      split at hr
      · rename_i hm
        injection hr with hr
        rw [ho, List.length_nil, show ((0 : Nat) : Int) + m = m by omega] at hr
        by_cases hA : b.depth < m
        · rw [if_pos (.inl hA)] at hr; subst hr
          exact may_root_d T E.one E.hone E.dep E.hdep g n0 W b a ng c d m hst h1 h3 hm.1 hm.2 ho hA
        by_cases hC : 65536 ≤ b.count
        · rw [if_pos (.inr hC)] at hr; subst hr
          exact may_root_c T E.one E.hone E.dep E.hdep g n0 W b a ng c d m hst h1 h3 hm.1 hm.2 ho hA hC
        rw [if_neg (by omega)] at hr; subst hr
        exact may_root_k T E.one E.hone E.dep E.hdep g n0 W b a ng c d m hst h1 h3 hm.1 hm.2 ho hA hC
      · cases hr
    | cons p ps =>
      rw [ho] at h2
      rw [ho, List.length_cons] at hl
      have hlen : (b.open_.length : Int) = (ps.length : Int) + 1 := by rw [ho, List.length_cons]; omega
      rw [hlen] at hr
      by_cases hnum : T.k p = 13 ∧ T.n p / 2 = 1
      · replace h2 : (if T.k p = 13 ∧ T.n p / 2 = 1 then E.one (T.push (T.ev 13 false 2 ⟨#[]⟩) (T.ev a ng c d)) else some true) = some r2 := h2
        rw [if_pos hnum] at h2
        cases r2 with
        | false =>
          rw [if_pos rfl] at hr
          injection hr with hr
          subst hr
          exact may_bad2 T E.one E.hone E.dep E.hdep g n0 W b a ng c d hst h1 p ps ho ps.length rfl hl hnum h2
        | true =>
          rw [if_neg (by decide)] at hr
          obtain ⟨m, h3, hr⟩ := Option.bind_eq_some_iff.1 hr
          split at hr
          · rename_i hm
            injection hr with hr
            by_cases hA : b.depth < (ps.length : Int) + 1 + m
            · rw [if_pos (.inl hA)] at hr; subst hr
              exact may_num_d T E.one E.hone E.dep E.hdep g n0 W b a ng c d m hst h1 h3 hm.1 hm.2 p ps ho ps.length rfl hl hnum h2 hA
            by_cases hC : 65536 ≤ b.count
            · rw [if_pos (.inr hC)] at hr; subst hr
              exact may_num_c T E.one E.hone E.dep E.hdep g n0 W b a ng c d m hst h1 h3 hm.1 hm.2 p ps ho ps.length rfl hl hnum h2 hA hC
            rw [if_neg (by omega)] at hr; subst hr
            exact may_num_k T E.one E.hone E.dep E.hdep g n0 W b a ng c d m hst h1 h3 hm.1 hm.2 p ps ho ps.length rfl hl hnum h2 hA hC
          · cases hr
      · replace h2 : (if T.k p = 13 ∧ T.n p / 2 = 1 then E.one (T.push (T.ev 13 false 2 ⟨#[]⟩) (T.ev a ng c d)) else some true) = some r2 := h2
        rw [if_neg hnum] at h2
        injection h2 with h2
        subst h2
        rw [if_neg (by decide)] at hr
        obtain ⟨m, h3, hr⟩ := Option.bind_eq_some_iff.1 hr
        split at hr
        · rename_i hm
          injection hr with hr
          by_cases hA : b.depth < (ps.length : Int) + 1 + m
          · rw [if_pos (.inl hA)] at hr; subst hr
            exact may_plain_d T E.one E.hone E.dep E.hdep g n0 W b a ng c d m hst h1 h3 hm.1 hm.2 p ps ho ps.length rfl hl hnum hA
          by_cases hC : 65536 ≤ b.count
          · rw [if_pos (.inr hC)] at hr; subst hr
            exact may_plain_c T E.one E.hone E.dep E.hdep g n0 W b a ng c d m hst h1 h3 hm.1 hm.2 p ps ho ps.length rfl hl hnum hA hC
          rw [if_neg (by omega)] at hr; subst hr
          exact may_plain_k T E.one E.hone E.dep E.hdep g n0 W b a ng c d m hst h1 h3 hm.1 hm.2 p ps ho ps.length rfl hl hnum hA hC
        · cases hr
theorem close_calls (g n0 : Nat) (W : World) (b : BS S) (ng : Bool) (c : Int) (d : ByteArray) (hst : St T g n0 W b) (hw : b.whole = false) (hi : Inv T b) :
    Calls Try.prog 35 #[.pointer (some ⟨g, 0, none⟩), .agg #[.int .i64 15, .bool ng, .int .u64 c, .string d]] W fun e W' => ∃ r, e = .returned (.int .i64 r) ∧ (r = (closeX T b ng c d).1 ∧ St T g n0 W' (closeX T b ng c d).2 ∧ Ke n0 W W') := by
  cases ho : b.open_ with
  | nil =>
    have hx : closeX T b ng c d = (4, b) := by unfold closeX; rw [ho]
    rw [hx]
    exact (close_none T g n0 W b 15 ng c d hst ho).mono fun e W' h => ⟨4, h.1, rfl, hst.below T h.2, Ke.of_below hst.size h.2⟩
  | cons p ps =>
    by_cases hev : ng = false ∧ c = 0 ∧ d = ⟨#[]⟩
    · obtain ⟨rfl, rfl, rfl⟩ := hev
      by_cases hbad : T.k p = 13 ∨ (T.k p = 12 ∧ (T.kids p).length % 2 = 1)
      · have hx : closeX T b false 0 ⟨#[]⟩ = (4, b) := by
          unfold closeX; rw [ho]
          simp only
          rw [if_neg]
          rintro ⟨_, h1, h2⟩
          exact hbad.elim h1 h2
        rw [hx]
        exact (close_bad T g n0 W b p ps hst ho hbad (hi.lim T) (hi.len T)).mono fun e W' h => ⟨4, h.1, rfl, hst.below T h.2, Ke.of_below hst.size h.2⟩
      · have hx : closeX T b false 0 ⟨#[]⟩ = (0, addB T { b with open_ := ps } p) := by
          unfold closeX; rw [ho]
          simp only
          rw [if_pos]
          exact ⟨by simp, fun h => hbad (.inl h), fun h => hbad (.inr h)⟩
        rw [hx]
        exact (close_end T g n0 W b p ps hst hw ho (fun h => hbad (.inl h)) (fun h => hbad (.inr h)) (hi.lim T) (hi.len T)).mono fun e W' h => ⟨0, h.1, rfl, h.2⟩
    · have hx : closeX T b ng c d = (4, b) := by
        unfold closeX; rw [ho]
        simp only
        rw [if_neg]
        rintro ⟨h1, _, _⟩
        exact hev h1
      rw [hx]
      exact (close_not T g n0 W b 15 ng c d (fun h => hev h.2) p ps hst ho (hi.lim T) (hi.len T)).mono fun e W' h => ⟨4, h.1, rfl, hst.below T h.2, Ke.of_below hst.size h.2⟩
theorem put_calls (g n0 : Nat) (W : World) (b b' : BS S) (a : Int) (ng : Bool) (c : Int) (d : ByteArray) (r : Int) (hst : St T g n0 W b) (hi : Inv T b) (hp : putX T E b a ng c d = some (r, b')) :
    Calls Try.prog 18 #[.pointer (some ⟨g, 0, none⟩), .agg #[.int .i64 a, .bool ng, .int .u64 c, .string d]] W fun e W' => e = .returned (.int .i64 r) ∧ St T g n0 W' b' ∧ Ke n0 W W' := by
  unfold putX at hp
  by_cases hw : b.whole = true
  · rw [if_pos hw] at hp
    injection hp with hp
    injection hp with e1 e2
    subst e1; subst e2
    exact (put_whole T g n0 W b a ng c d hst hw).mono fun e W' h => ⟨h.1, hst.below T h.2, Ke.of_below hst.size h.2⟩
  rw [if_neg hw] at hp
  have hw' : b.whole = false := by simpa using hw
  by_cases ha : a = 15
  · rw [if_pos ha] at hp
    subst ha
    injection hp with hp
    refine (put_end T g n0 W b ng c d hst hw' (fun r W1 W' => r = (closeX T b ng c d).1 ∧ St T g n0 W' (closeX T b ng c d).2 ∧ Ke n0 W1 W') (fun W1 h1 => close_calls T g n0 W1 b ng c d h1 hw' hi)).mono ?_
    rintro e W' ⟨r', W1, rfl, hb, rfl, h2, h3⟩
    rw [hp] at h2 ⊢
    exact ⟨rfl, h2, (Ke.of_below hst.size hb).trans h3⟩
  rw [if_neg ha] at hp
  obtain ⟨q, hq, hp⟩ := Option.bind_eq_some_iff.1 hp
  by_cases hq0 : q = 0
  · rw [if_pos hq0] at hp
    subst hq0
    injection hp with hp
    injection hp with e1 e2
    subst e1
    have h5 : b.count < 65536 ∧ E.one (rightX T a ng c d) = some true := by
      unfold mayX at hq
      obtain ⟨r1, h1, hq⟩ := Option.bind_eq_some_iff.1 hq
      cases r1 with
      | false => rw [if_pos rfl] at hq; injection hq with hq; cases hq
      | true =>
        rw [if_neg (by decide)] at hq
        obtain ⟨r2, _, hq⟩ := Option.bind_eq_some_iff.1 hq
        split at hq
        · injection hq with hq; cases hq
        obtain ⟨m, _, hq⟩ := Option.bind_eq_some_iff.1 hq
        split at hq
        · injection hq with hq
          split at hq
          · cases hq
          · exact ⟨by omega, h1⟩
        · cases hq
    have hright := fun W1 => right_calls T E.one E.hone a ng c d true h5.2 W1
    have hmay := fun W1 (h : St T g n0 W1 b) => may_calls T E g n0 W1 b a ng c d h hi 0 hq
    by_cases hlf : a ≠ 11 ∧ a ≠ 12 ∧ a ≠ 13
    · rw [if_pos hlf] at e2
      subst e2
      exact put_add T g n0 W b a ng c d hst hw' ha hlf hi.c0 (by omega) hmay hright (hi.lim T) (hi.len T)
    · rw [if_neg hlf] at e2
      subst e2
      exact put_open T g n0 W b a ng c d hst hw' ha hlf hi.c0 (by omega) hmay hright (hi.len T)
  · rw [if_neg hq0] at hp
    injection hp with hp
    injection hp with e1 e2
    subst e1; subst e2
    exact (put_no T g n0 W b a ng c d hst hw' ha q hq0 (fun W1 h => may_calls T E g n0 W1 b a ng c d h hi q hq)).mono fun e W' h => ⟨h.1, hst.below T h.2, Ke.of_below hst.size h.2⟩
end
end Go.Proofs.Ytcgpfclmcajekaa.Bld
