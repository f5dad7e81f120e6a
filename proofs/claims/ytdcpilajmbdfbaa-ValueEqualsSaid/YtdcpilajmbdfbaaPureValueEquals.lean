/- Proved: the pure statement of ValueEquals: Equal answers as the plain comparison does, At as the reference's. -/
import Derived.Test.YtdcpilajmbdfbaaPValueEqualsx5
namespace Go.Proofs.Ytdcpilajmbdfbaa.Pure
open Go.RowKit Go.Proofs.Ytdcpilajmbdfbaa.PValueEquals Go.Proofs.YtdcpilajmbdfbaaW.PrintWords Go.Proofs.YtdcpilajmbdfbaaW.PrintLast Go.Proofs.YtdcpilajmbdfbaaW.PrintMore

theorem Ev.pos {α : Type} {c : Prop} [Decidable c] {f g : Nat → Option α} {r : α} (h : c) (k : Ev f r) : Ev (fun n => if c then f n else g n) r := Ev.congr (fun _ => if_pos h) k
theorem Ev.neg {α : Type} {c : Prop} [Decidable c] {f g : Nat → Option α} {r : α} (h : ¬ c) (k : Ev g r) : Ev (fun n => if c then f n else g n) r := Ev.congr (fun _ => if_neg h) k
theorem Ev.const {α : Type} {x : Option α} {r : α} (h : x = some r) : Ev (fun _ => x) r := ⟨0, fun _ _ => h⟩
theorem Ev.pre {α β : Type} {x : Option α} {a : α} {f : Nat → α → Option β} {r : β} (h : x = some a) (k : Ev (fun n => f n a) r) : Ev (fun n => x.bind (f n)) r := Ev.congr (fun _ => by rw [h]; rfl) k
theorem Ev.res {α : Type} {g : Nat → Option α} {r r' : α} (k : Ev g r') (e : r' = r) : Ev g r := e ▸ k
theorem wrap_id {x : Int} (h0 : -9223372036854775808 ≤ x) (h1 : x ≤ 9223372036854775807) : wrap64 x = x := by unfold wrap64; omega

theorem wf_i64 {n : Int} (h : (Lit.int .i64 n).wf = true) : -9223372036854775808 ≤ n ∧ n ≤ 9223372036854775807 := by
  simp [Lit.wf, IntKind.min, IntKind.max, IntKind.signed, IntKind.bits] at h; omega
theorem wf_u64 {n : Int} (h : (Lit.int .u64 n).wf = true) : 0 ≤ n ∧ n ≤ 18446744073709551615 := by
  simp [Lit.wf, IntKind.min, IntKind.max, IntKind.signed, IntKind.bits] at h; omega

theorem wf_kids {f0 : Int} {f1 : Bool} {f2 : Int} {f3 : ByteArray} {l : List S25} (h : wfS25 ⟨f0, f1, f2, f3, l⟩) : l.length * 64 ≤ 140737488351232 ∧ ∀ y ∈ l, wfS25 y := by
  simp only [wfS25] at h
  exact ⟨h.2.2.2.2.1, (wfL25_iff _).1 h.2.2.2.2.2⟩
theorem rdT_get (xs : List S25) (j : Nat) (h : j < xs.length) : rd_T25 xs (j : Int) = xs[j] := by
  simp [rd_T25, List.getElem?_eq_getElem h]
theorem dep_kid {f0 : Int} {f1 : Bool} {f2 : Int} {f3 : ByteArray} {l : List S25} {y : S25} (h : y ∈ l) : dep25 y < dep25 ⟨f0, f1, f2, f3, l⟩ := by
  have := dep25_mem l y h; simp only [dep25]; omega

theorem same_j0t (a0 : Int) (a1 : Bool) (a2 : Int) (a3 : ByteArray) (a4 : List S25) (b0 : Int) (b1 : Bool) (b2 : Int) (b3 : ByteArray) (b4 : List S25) : Ev (fun k => glossatorlaw08_same.j0 k true a0 a1 a2 a3 a4 b0 b1 b2 b3 b4) false := by
  refine Ev.step (fun k => by simp only [glossatorlaw08_same.j0]; rfl) ?_
  exact Ev.pos (by trivial) (Ev.const rfl)
theorem same_l0 (f : S25 → S25 → Bool) (a0 : Int) (a1 : Bool) (a2 : Int) (a3 : ByteArray) (a4 : List S25) (b0 : Int) (b1 : Bool) (b2 : Int) (b3 : ByteArray) (b4 : List S25) (hl : a4.length = b4.length) (hm : a4.length * 64 ≤ 140737488351232)
    (hf : ∀ x ∈ a4, ∀ y ∈ b4, Ev (fun k => glossatorlaw08_same.f k x.f0 x.f1 x.f2 x.f3 x.f4 y.f0 y.f1 y.f2 y.f3 y.f4) (f x y)) :
    ∀ (d j : Nat), j + d = a4.length → Ev (fun k => glossatorlaw08_same.l0 k (j : Int) a0 a1 a2 a3 a4 b0 b1 b2 b3 b4) (Each.eqL f (a4.drop j) (b4.drop j)) := by
  intro d
  induction d with
  | zero =>
    intro j hj
    refine Ev.step (fun k => by simp only [glossatorlaw08_same.l0]; rfl) (Ev.neg (by omega) (Ev.const ?_))
    rw [List.drop_of_length_le (by omega), List.drop_of_length_le (by omega)]; rfl
  | succ d ih =>
    intro j hj
    have h1 : j < a4.length := by omega
    have h2 : j < b4.length := by omega
    refine Ev.step (fun k => by simp only [glossatorlaw08_same.l0]; rfl) (Ev.pos (by omega) (Ev.pos (by omega) (Ev.pos (by omega) ?_)))
    rw [rdT_get a4 j h1, rdT_get b4 j h2, wrap_id (by omega) (by omega)]
    refine Ev.bind (hf _ (List.getElem_mem h1) _ (List.getElem_mem h2)) ?_
    rw [List.drop_eq_getElem_cons h1, List.drop_eq_getElem_cons h2]
    simp only [Each.eqL]
    by_cases hq : f a4[j] b4[j] = true
    · refine Ev.pos hq (Ev.res (ih (j + 1) (by omega)) ?_)
      rw [hq]; rfl
    · refine Ev.neg hq (Ev.const ?_)
      rw [Bool.eq_false_iff.2 hq]; rfl
theorem same_f : ∀ (m : Nat) (a b : S25), dep25 a < m → wfS25 a → wfS25 b → Ev (fun k => glossatorlaw08_same.f k a.f0 a.f1 a.f2 a.f3 a.f4 b.f0 b.f1 b.f2 b.f3 b.f4) (Each.eqF T25 m a b) := by
  intro m
  induction m with
  | zero => intro a b h; omega
  | succ m ih =>
    rintro ⟨a0, a1, a2, a3, a4⟩ ⟨b0, b1, b2, b3, b4⟩ hd ha hb
    obtain ⟨hla, hwa⟩ := wf_kids ha
    obtain ⟨hlb, hwb⟩ := wf_kids hb
    have e : Each.eqF T25 (m + 1) ⟨a0, a1, a2, a3, a4⟩ ⟨b0, b1, b2, b3, b4⟩ = (a0 == b0 && a1 == b1 && a2 == b2 && a3.toList == b3.toList && Each.eqL (Each.eqF T25 m) a4 b4) := rfl
    rw [e]
    refine Ev.step (fun k => by simp only [glossatorlaw08_same.f]; rfl) ?_
    by_cases c0 : a0 = b0
    · refine Ev.pos c0 ?_
      by_cases c1 : a1 = b1
      · refine Ev.neg (by simp [c1]) ?_
        by_cases c2 : a2 = b2
        · refine Ev.pos c2 ?_
          by_cases c3 : a3.toList = b3.toList
          · refine Ev.pos c3 ?_
            by_cases c4 : a4.length = b4.length
            · rw [show ((a4.length : Int) != (b4.length : Int)) = false by simp [c4]]
              refine Ev.step (fun k => by simp only [glossatorlaw08_same.j0]; rfl) (Ev.neg (by simp) (Ev.res (same_l0 (Each.eqF T25 m) a0 a1 a2 a3 a4 b0 b1 b2 b3 b4 c4 hla (fun x hx y hy => ih x y (by have := dep_kid (f0 := a0) (f1 := a1) (f2 := a2) (f3 := a3) hx; omega) (hwa x hx) (hwb y hy)) a4.length 0 (by omega)) ?_))
              simp [c0, c1, c2, c3]
            · rw [show ((a4.length : Int) != (b4.length : Int)) = true by simp; omega, Each.eqL_len _ _ _ c4, Bool.and_false]
              exact same_j0t ..
          · refine Ev.neg c3 (Ev.res (same_j0t ..) ?_)
            simp [c3]
        · refine Ev.neg c2 (Ev.res (same_j0t ..) ?_)
          simp [c2]
      · refine Ev.pos (by simpa using c1) (Ev.res (same_j0t ..) ?_)
        simp [c1]
    · refine Ev.neg c0 (Ev.res (same_j0t ..) ?_)
      simp [c0]

theorem eqL_refl (f : S25 → S25 → Bool) : ∀ (l : List S25), (∀ x ∈ l, f x x = true) → Each.eqL f l l = true
  | [], _ => rfl
  | x :: l, h => by simp only [Each.eqL, h x (by simp), eqL_refl f l (fun y hy => h y (by simp [hy])), Bool.and_self]
theorem eqF_refl : ∀ (m : Nat) (a : S25), dep25 a < m → Each.eqF T25 m a a = true := by
  intro m
  induction m with
  | zero => intro a h; omega
  | succ m ih =>
    rintro ⟨a0, a1, a2, a3, a4⟩ hd
    have e : Each.eqF T25 (m + 1) ⟨a0, a1, a2, a3, a4⟩ ⟨a0, a1, a2, a3, a4⟩ = (a0 == a0 && a1 == a1 && a2 == a2 && a3.toList == a3.toList && Each.eqL (Each.eqF T25 m) a4 a4) := rfl
    rw [e, eqL_refl _ _ (fun x hx => ih x (by have := dep_kid (f0 := a0) (f1 := a1) (f2 := a2) (f3 := a3) hx; omega))]
    simp

--- imports:
/-- What stands at a path. -/
def atR : S25 → List Int → S25 × Int
  | v, [] => (v, 0)
  | v, i :: p => if i < 0 ∨ i ≥ (v.f4.length : Int) then (z25, 1) else atR (rd_T25 v.f4 i) p
def tup (r : S25 × Int) : Int × Bool × Int × ByteArray × List S25 × Int := (r.1.f0, r.1.f1, r.1.f2, r.1.f3, r.1.f4, r.2)
theorem rd_get (xs : List Int) (j : Nat) (h : j < xs.length) : rd xs (j : Int) = xs[j] := by simp [rd, List.getElem?_eq_getElem h]
theorem at_l0 (p : List Int) (hp : p.length * 8 ≤ 140737488351232) : ∀ (d j : Nat) (v : S25), j + d = p.length → Ev (fun k => value_At.l0 k p (p.length : Int) (j : Int) v.f0 v.f1 v.f2 v.f3 v.f4) (tup (atR v (p.drop j))) := by
  intro d
  induction d with
  | zero =>
    intro j v hj
    refine Ev.step (fun k => by simp only [value_At.l0]; rfl) (Ev.neg (by omega) (Ev.const ?_))
    rw [List.drop_of_length_le (by omega)]; rfl
  | succ d ih =>
    intro j v hj
    have h1 : j < p.length := by omega
    refine Ev.step (fun k => by simp only [value_At.l0]; rfl) (Ev.pos (by omega) (Ev.pos (by omega) (Ev.pos (by omega) ?_)))
    rw [rd_get p j h1, List.drop_eq_getElem_cons h1, wrap_id (by omega) (by omega)]
    simp only [atR]
    by_cases c0 : p[j] < 0
    · refine Ev.pos c0 (Ev.const ?_)
      rw [if_pos (Or.inl c0)]; rfl
    · refine Ev.neg c0 ?_
      by_cases c1 : p[j] ≥ (v.f4.length : Int)
      · refine Ev.pos c1 (Ev.const ?_)
        rw [if_pos (Or.inr c1)]; rfl
      · rw [if_neg (by omega)]
        exact Ev.neg c1 (Ev.pos (by omega) (Ev.pos (by omega) (ih (j + 1) _ (by omega))))
theorem rat_l0 (p : List Int) (hp : p.length * 8 ≤ 140737488351232) : ∀ (d j : Nat) (v : S25), j + d = p.length → Ev (fun k => glossatorref08_At.l0 k p (j : Int) v.f0 v.f1 v.f2 v.f3 v.f4) (tup (atR v (p.drop j))) := by
  intro d
  induction d with
  | zero =>
    intro j v hj
    refine Ev.step (fun k => by simp only [glossatorref08_At.l0]; rfl) (Ev.neg (by omega) (Ev.const ?_))
    rw [List.drop_of_length_le (by omega)]; rfl
  | succ d ih =>
    intro j v hj
    have h1 : j < p.length := by omega
    refine Ev.step (fun k => by simp only [glossatorref08_At.l0]; rfl) (Ev.pos (by omega) (Ev.pos (by omega) ?_))
    rw [rd_get p j h1, List.drop_eq_getElem_cons h1, wrap_id (by omega) (by omega)]
    simp only [atR]
    by_cases c0 : p[j] < 0
    · refine Ev.pos c0 (Ev.const ?_)
      rw [if_pos (Or.inl c0)]; rfl
    · refine Ev.neg c0 ?_
      by_cases c1 : p[j] ≥ (v.f4.length : Int)
      · refine Ev.pos c1 (Ev.const ?_)
        rw [if_pos (Or.inr c1)]; rfl
      · rw [if_neg (by omega)]
        exact Ev.neg c1 (Ev.pos (by omega) (Ev.pos (by omega) (ih (j + 1) _ (by omega))))
theorem wf_zero : wfS25 z25 := by simp [z25, wfS25, wfL25, Lit.wf, IntKind.min, IntKind.max, IntKind.signed, IntKind.bits]; exact Nat.zero_le _
theorem wf_at : ∀ (p : List Int) (v : S25), wfS25 v → wfS25 (atR v p).1
  | [], v, h => h
  | i :: p, v, h => by
    simp only [atR]
    by_cases c : i < 0 ∨ i ≥ (v.f4.length : Int)
    · rw [if_pos c]; exact wf_zero
    · rw [if_neg c]
      obtain ⟨v0, v1, v2, v3, v4⟩ := v
      have h2 : i.toNat < v4.length := by simp only at c; omega
      refine wf_at p _ ((wf_kids h).2 _ ?_)
      show rd_T25 v4 i ∈ v4
      rw [show i = ((i.toNat : Nat) : Int) by omega, rdT_get v4 _ h2]
      exact List.getElem_mem h2
theorem awake_t : glossatorlaw08_awake.f = some true := by
  unfold glossatorlaw08_awake.f value_Count.f
  decide +kernel
theorem ValueEquals : glossatorlaw08_ValueEquals.Pure := by
  intro a0 a1 a2 a3 a4 b0 b1 b2 b3 b4 p ha hb ⟨hp, _⟩
  refine Ev.rounds (Ev.congr (fun k => by unfold glossatorlaw08_ValueEquals.f value_At.f glossatorref08_At.f value_Equal.f; simp only [Option.bind_some]; rfl) ?_)
  refine Ev.bind (at_l0 p hp p.length 0 ⟨a0, a1, a2, a3, a4⟩ (by omega)) (Ev.bind (rat_l0 p hp p.length 0 ⟨a0, a1, a2, a3, a4⟩ (by omega)) ?_)
  refine Ev.bind (same_f _ ⟨a0, a1, a2, a3, a4⟩ ⟨b0, b1, b2, b3, b4⟩ (Nat.lt_succ_self _) ha hb) (Ev.pos (by simp) (Ev.pos (eqF_refl _ _ (Nat.lt_succ_self _)) ?_))
  have hw := wf_at (p.drop 0) ⟨a0, a1, a2, a3, a4⟩ ha
  refine Ev.bind (same_f (dep25 (atR ⟨a0, a1, a2, a3, a4⟩ (p.drop 0)).1 + 1) _ _ (Nat.lt_succ_self _) hw hw) (Ev.pos (eqF_refl _ _ (Nat.lt_succ_self _)) (Ev.pos rfl ?_))
  exact Ev.pre awake_t (Ev.const rfl)

end Go.Proofs.Ytdcpilajmbdfbaa.Pure
