/- Proved: the pure statement of NatAdds: nat.Add answers as the reference's Add, nat.Cmp as its Cmp, for every number and every list of numbers in limbs. -/
import Derived.Test.YtflccadclkddoaaPNatAddsx5
import Derived.Test.YtflccadclkddoaaNatPlain
namespace Go.Proofs.Ytflccadclkddoaa.Pure
open Go.RowKit Go.Proofs.Ytflccadclkddoaa.PNatAdds Go.Proofs.YtflccadclkddoaaW.PrintWords Go.Proofs.YtflccadclkddoaaW.PrintLast Go.Proofs.YtflccadclkddoaaW.PrintMore Go.Proofs.Ytflccadclkddoaa.NatPlain

theorem Ev.pos {α : Type} {c : Prop} [Decidable c] {f g : Nat → Option α} {r : α} (h : c) (k : Ev f r) : Ev (fun n => if c then f n else g n) r := Ev.congr (fun _ => if_pos h) k
theorem Ev.neg {α : Type} {c : Prop} [Decidable c] {f g : Nat → Option α} {r : α} (h : ¬ c) (k : Ev g r) : Ev (fun n => if c then f n else g n) r := Ev.congr (fun _ => if_neg h) k
theorem Ev.const {α : Type} {x : Option α} {r : α} (h : x = some r) : Ev (fun _ => x) r := ⟨0, fun _ _ => h⟩
theorem Ev.pre {α β : Type} {x : Option α} {a : α} {f : Nat → α → Option β} {r : β} (h : x = some a) (k : Ev (fun n => f n a) r) : Ev (fun n => x.bind (f n)) r := Ev.congr (fun _ => by rw [h]; rfl) k
theorem Ev.res {α : Type} {g : Nat → Option α} {r r' : α} (k : Ev g r') (e : r' = r) : Ev g r := e ▸ k
theorem wrap_id {x : Int} (h0 : -9223372036854775808 ≤ x) (h1 : x ≤ 9223372036854775807) : wrap64 x = x := by unfold wrap64; omega

theorem wf_u32 {n : Int} (h : (Lit.int .u32 n).wf = true) : 0 ≤ n ∧ n < 4294967296 := by
  simp [Lit.wf, IntKind.min, IntKind.max, IntKind.signed, IntKind.bits] at h; omega
theorem u64_id {n : Int} (h0 : 0 ≤ n) (h1 : n < 18446744073709551616) : IntKind.u64.wrap n = n := by
  simp [IntKind.wrap, IntKind.bits, IntKind.signed]; omega
theorem u64_mod (n : Int) : IntKind.u64.wrap n = n % 18446744073709551616 := by simp [IntKind.wrap, IntKind.bits, IntKind.signed]
theorem rd_getD (l : List Int) (i : Int) : rd l i = l.getD i.toNat 0 := rfl
theorem rd_get (l : List Int) (j : Nat) (h : j < l.length) : rd l (j : Int) = l[j] := by
  rw [rd_getD, Int.toNat_natCast, List.getD_eq_getElem?_getD, List.getElem?_eq_getElem h]; rfl
/-- Limbs, no more than a slice may have. -/
def okL (l : List Int) : Prop := Lim l ∧ l.length ≤ 35184372087808
theorem okL.of {l : List Int} (hw : ∀ x ∈ l, (Lit.int .u32 x).wf = true) (hs : l.length * 4 ≤ 140737488351232) : okL l := ⟨fun x hx => wf_u32 (hw x hx), by omega⟩
theorem okL.nil : okL [] := ⟨Lim.nil, by simp⟩
theorem okL.enc {n : Int} (h : len n ≤ 35184372087808) : okL (enc n) := ⟨Lim.enc n, h⟩
theorem trim_le {l : List Int} (h : okL l) : len (V l) ≤ 35184372087808 := by rw [← len_trim h.1]; exact Nat.le_trans (trim_len l) h.2

theorem trim_l0 (l : List Int) (hl : l.length ≤ 35184372088831) : ∀ (d k : Nat), (trimL l).length + d ≤ l.length → d < k → nat_trim.l0 k l (((trimL l).length + d : Nat) : Int) = some (trimL l) := by
  intro d
  induction d with
  | zero =>
    intro k h hk
    obtain ⟨k, rfl⟩ : ∃ m, k = m + 1 := ⟨k - 1, by omega⟩
    have e : l.take (((trimL l).length + 0 : Nat) : Int).toNat = trimL l := by rw [Int.toNat_natCast]; exact trim_take l
    simp only [nat_trim.l0]
    rw [e]
    by_cases h0 : 0 < (trimL l).length
    · have hne := trim_last l h0
      have hne2 : ¬ rd l (wrap64 ((((trimL l).length + 0 : Nat) : Int) - 1)) = 0 := by
        rw [wrap_id (by omega) (by omega), rd_getD, show ((((trimL l).length + 0 : Nat) : Int) - 1).toNat = (trimL l).length - 1 by omega]
        exact hne
      rw [if_pos (by omega), if_neg hne2, wrap_id (by omega) (by omega), if_pos (by omega), if_pos (by omega), if_pos (by omega), if_pos (by omega)]
    · rw [if_neg (by omega), if_pos (by omega), if_pos (by omega)]
  | succ d ih =>
    intro k h hk
    obtain ⟨k, rfl⟩ : ∃ m, k = m + 1 := ⟨k - 1, by omega⟩
    have h0 := trim_above l ((trimL l).length + d) (by omega)
    have e : wrap64 ((((trimL l).length + (d + 1) : Nat) : Int) - 1) = (((trimL l).length + d : Nat) : Int) := by rw [wrap_id (by omega) (by omega)]; omega
    simp only [nat_trim.l0]
    rw [e, if_pos (by omega), if_pos (by omega), if_pos (by omega), if_pos (by rw [rd_getD, Int.toNat_natCast]; exact h0)]
    exact ih k (by omega) (by omega)
theorem trim_f (l : List Int) (hl : l.length ≤ 35184372088831) : Ev (fun k => nat_trim.f k l) (trimL l) := by
  refine ⟨l.length + 1, fun k hk => ?_⟩
  have := trim_l0 l hl (l.length - (trimL l).length) k (by have := trim_len l; omega) (by omega)
  rw [show (trimL l).length + (l.length - (trimL l).length) = l.length by have := trim_len l; omega] at this
  exact this

theorem rdL_get (ls : List (List Int)) (j : Nat) (h : j < ls.length) : rd_L1 ls (j : Int) = ls[j] := by
  unfold rd_L1
  rw [Int.toNat_natCast, List.getD_eq_getElem?_getD, List.getElem?_eq_getElem h]; rfl
/-- No number is too long. -/
def short (ls : List (List Int)) : Prop := ∀ l ∈ ls, len (V l) ≤ 4096
instance (ls : List (List Int)) : Decidable (short ls) := by unfold short; infer_instance
theorem fits_l0 (ls : List (List Int)) (h : ∀ l ∈ ls, okL l) (hl : ls.length ≤ 35184372088831) : ∀ (d i : Nat), i + d = ls.length → Ev (fun k => nat_fits.l0 k ls (ls.length : Int) (i : Int)) (decide (short (ls.drop i))) := by
  intro d
  induction d with
  | zero =>
    intro i hi
    refine Ev.step (fun k => by simp only [nat_fits.l0]; rfl) (Ev.neg (by omega) ?_)
    rw [List.drop_eq_nil_of_le (by omega)]
    exact Ev.const (by simp [short])
  | succ d ih =>
    intro i hi
    have hlt : i < ls.length := by omega
    have ho := h _ (List.getElem_mem hlt)
    refine Ev.step (fun k => by simp only [nat_fits.l0]; rfl) (Ev.pos (by omega) (Ev.pos (by omega) (Ev.pos (by omega) ?_)))
    rw [rdL_get ls i hlt]
    refine Ev.bind (trim_f _ (by have := ho.2; omega)) ?_
    rw [List.drop_eq_getElem_cons hlt, len_trim ho.1]
    by_cases hs : len (V ls[i]) ≤ 4096
    · refine Ev.neg (by omega) ?_
      rw [wrap_id (by omega) (by omega)]
      have : short (ls.drop (i + 1)) ↔ short (ls[i] :: ls.drop (i + 1)) := ⟨fun hq x hx => (List.mem_cons.1 hx).elim (fun e => e ▸ hs) (hq x), fun hq x hx => hq x (List.mem_cons_of_mem _ hx)⟩
      exact Ev.res (ih (i + 1) (by omega)) (by rw [decide_eq_decide]; exact this)
    · refine Ev.pos (by omega) (Ev.const ?_)
      rw [decide_eq_false (fun hq : short (ls[i] :: ls.drop (i + 1)) => hs (hq _ List.mem_cons_self))]
theorem fits_f (ls : List (List Int)) (h : ∀ l ∈ ls, okL l) (hl : ls.length ≤ 35184372088831) : Ev (fun k => nat_fits.f k ls) (decide (short ls)) := fits_l0 ls h hl ls.length 0 (by omega)

theorem clone_f (l : List Int) (hl : l.length ≤ 35184372088831) : slices_Clone_uint32_uint32.f l = some l := by
  unfold slices_Clone_uint32_uint32.f
  rw [if_pos (by omega)]

/-- An answer: a number, if it is not too long. -/
def ans (n : Int) : List Int × Int := if len n ≤ 4096 then (enc n, 0) else ([], 2)
theorem told_f (l : List Int) (h : Lim l) (hl : l.length ≤ 35184372087808) : Ev (fun k => nat_told.f k l) (ans (V l)) := by
  refine Ev.congr (fun k => by unfold nat_told.f; rfl) (Ev.bind (fits_f [l] (fun x hx => by simp at hx; exact hx ▸ ⟨h, hl⟩) (by simp)) ?_)
  by_cases hs : len (V l) ≤ 4096
  · refine Ev.pos (by simp [short, hs]) (Ev.bind (trim_f l (by omega)) (Ev.pre (clone_f _ (by have := trim_len l; omega)) (Ev.const ?_)))
    rw [ans, if_pos hs, trim_enc h]
  · refine Ev.neg (by simp [short, hs]) (Ev.const ?_)
    rw [ans, if_neg hs]
theorem okL_trim' {a : List Int} (ha : okL a) : (trimL a).length ≤ 35184372087808 := Nat.le_trans (trim_len a) ha.2

theorem low_f (n : Int) (_ : 0 ≤ n) : nat_low_uint64.f n = some (n % 4294967296, n / 4294967296) := rfl
theorem V_snoc (l : List Int) (c : Int) : V (l ++ [c]) = V l + 4294967296 ^ l.length * c := by rw [V_app]; simp [V]
theorem V_one (c : Int) : V [c] = c := by simp [V]

def sumV : List (List Int) → Int
  | [] => 0
  | l :: r => V l + sumV r

theorem add_l2 (bs : List (List Int)) (j : Nat) (x : List Int) (hx : Lim x) (r : List Int × Int) (S : Int) (L : Nat) (hxL : x.length ≤ L) (hL : L + 1 ≤ 35184372087808)
    (cont : ∀ out : List Int, Lim out → out.length ≤ L + 1 → V out = S → Ev (fun k => nat_Add.l0 k out bs (bs.length : Int) ((j : Int) + 1)) r) (hj : (j : Int) + 1 ≤ 9223372036854775807) :
    ∀ (d i : Nat) (out : List Int) (c : Int), i + d = L → out.length = L → Lim out → 0 ≤ c → c ≤ 1 → V out + c * 4294967296 ^ i + V (x.drop i) * 4294967296 ^ i = S →
      Ev (fun k => nat_Add.l2 k out x c bs (bs.length : Int) (j : Int) (L : Int) (i : Int)) r := by
  intro d
  induction d with
  | zero =>
    intro i out c hi ho hlo c0 c1 hV
    rw [List.drop_eq_nil_of_le (by omega)] at hV
    refine Ev.step (fun k => by simp only [nat_Add.l2]; rfl) (Ev.neg (by omega) ?_)
    rw [wrap_id (x := (j : Int) + 1) (by omega) hj]
    by_cases hc : c > 0
    · refine Ev.pos hc (Ev.pos (by omega) ?_)
      have hc1 : c = 1 := by omega
      subst hc1
      refine cont _ (hlo.app (Lim.cons (by decide) (by decide) Lim.nil)) (by simp; omega) ?_
      rw [V_snoc, ho, ← hV, show L = i by omega]
      simp [V]
    · refine Ev.neg hc (cont _ hlo (by omega) ?_)
      have hc0 : c = 0 := by omega
      subst hc0
      rw [← hV]
      simp [V]
  | succ d ih =>
    intro i out c hi ho hlo c0 c1 hV
    have hlt : i < out.length := by omega
    have hg := hlo.get i hlt
    refine Ev.step (fun k => by simp only [nat_Add.l2]; rfl) (Ev.pos (by omega) (Ev.pos (by omega) (Ev.pos (by omega) ?_)))
    rw [rd_get out i hlt, wrap_id (x := (i : Int) + 1) (by omega) (by omega), Int.toNat_natCast]
    have hp : (4294967296 : Int) ^ (i + 1) = 4294967296 ^ i * 4294967296 := Int.pow_succ ..
    by_cases hxi : i < x.length
    · have hgx := hx.get i hxi
      refine Ev.pos (by omega) ?_
      rw [rd_get x i hxi, u64_id (n := out[i]) (by omega) (by omega), u64_id (n := x[i]) (by omega) (by omega), u64_id (n := c + out[i]) (by omega) (by omega), u64_id (n := c + out[i] + x[i]) (by omega) (by omega)]
      refine Ev.pre (low_f _ (by omega)) ?_
      simp only
      have := ih (i + 1) (out.set i ((c + out[i] + x[i]) % 4294967296)) ((c + out[i] + x[i]) / 4294967296) (by omega) (by simp; omega) (hlo.set _ _ (by omega) (by omega)) (by omega) (by omega) ?_
      · exact this
      · rw [V_set out i _ hlt, hp]
        rw [V_drop x i hxi] at hV
        have e : (c + out[i] + x[i]) = (c + out[i] + x[i]) % 4294967296 + 4294967296 * ((c + out[i] + x[i]) / 4294967296) := by omega
        generalize (c + out[i] + x[i]) % 4294967296 = lo at e ⊢
        generalize (c + out[i] + x[i]) / 4294967296 = hi' at e ⊢
        generalize (4294967296 : Int) ^ i = P at hV ⊢
        generalize V (x.drop (i + 1)) = R at hV ⊢
        generalize V out = W at hV ⊢
        grind
    · refine Ev.neg (by omega) ?_
      rw [u64_id (n := out[i]) (by omega) (by omega), u64_id (n := c + out[i]) (by omega) (by omega)]
      refine Ev.pre (low_f _ (by omega)) ?_
      simp only
      have := ih (i + 1) (out.set i ((c + out[i]) % 4294967296)) ((c + out[i]) / 4294967296) (by omega) (by simp; omega) (hlo.set _ _ (by omega) (by omega)) (by omega) (by omega) ?_
      · exact this
      · rw [V_set out i _ hlt, hp]
        rw [List.drop_eq_nil_of_le (by omega)] at hV ⊢
        have e : (c + out[i]) = (c + out[i]) % 4294967296 + 4294967296 * ((c + out[i]) / 4294967296) := by omega
        generalize (c + out[i]) % 4294967296 = lo at e ⊢
        generalize (c + out[i]) / 4294967296 = hi' at e ⊢
        generalize (4294967296 : Int) ^ i = P at hV ⊢
        generalize V out = W at hV ⊢
        simp only [V] at hV ⊢
        grind

theorem add_l1 (bs : List (List Int)) (j : Nat) (x : List Int) (hx : Lim x) (r : List Int × Int) (S : Int) (L : Nat) (hxL : x.length ≤ L) (hL : L + 1 ≤ 35184372087808)
    (cont : ∀ out : List Int, Lim out → out.length ≤ L + 1 → V out = S → Ev (fun k => nat_Add.l0 k out bs (bs.length : Int) ((j : Int) + 1)) r) (hj : (j : Int) + 1 ≤ 9223372036854775807) :
    ∀ (d : Nat) (out : List Int), x.length - out.length = d → out.length ≤ L → Lim out → V out + V x = S → Ev (fun k => nat_Add.l1 k out x bs (bs.length : Int) (j : Int)) r := by
  intro d
  induction d with
  | zero =>
    intro out hd hoL hlo hV
    refine Ev.step (fun k => by simp only [nat_Add.l1]; rfl) (Ev.neg (by omega) ?_)
    refine add_l2 bs j x hx r S out.length (by omega) (by omega) (fun o h1 h2 h3 => cont o h1 (by omega) h3) hj out.length 0 out 0 (by omega) rfl hlo (by omega) (by omega) ?_
    simp only [List.drop_zero, Int.pow_zero]
    omega
  | succ d ih =>
    intro out hd hoL hlo hV
    refine Ev.step (fun k => by simp only [nat_Add.l1]; rfl) (Ev.pos (by omega) (Ev.pos (by omega) ?_))
    refine ih (out ++ [0]) (by simp; omega) (by simp; omega) (hlo.app (Lim.cons (by decide) (by decide) Lim.nil)) ?_
    rw [V_snoc]
    omega

theorem add_l0 (bs : List (List Int)) (hbs : ∀ l ∈ bs, okL l) (hsh : short bs) (hbl : bs.length ≤ 5864062014634) : ∀ (d j : Nat) (out : List Int), j + d = bs.length → Lim out → out.length ≤ 4096 + j → Ev (fun k => nat_Add.l0 k out bs (bs.length : Int) (j : Int)) (ans (V out + sumV (bs.drop j))) := by
  intro d
  induction d with
  | zero =>
    intro j out hj hlo hol
    rw [List.drop_eq_nil_of_le (by omega)]
    refine Ev.step (fun k => by simp only [nat_Add.l0]; rfl) (Ev.neg (by omega) ?_)
    refine Ev.bind (told_f out hlo (by omega)) (Ev.const ?_)
    simp [sumV]
  | succ d ih =>
    intro j out hj hlo hol
    have hlt : j < bs.length := by omega
    have ho := hbs _ (List.getElem_mem hlt)
    have hs := hsh _ (List.getElem_mem hlt)
    refine Ev.step (fun k => by simp only [nat_Add.l0]; rfl) (Ev.pos (by omega) (Ev.pos (by omega) (Ev.pos (by omega) ?_)))
    rw [rdL_get bs j hlt]
    refine Ev.bind (trim_f _ (by have := ho.2; omega)) ?_
    rw [List.drop_eq_getElem_cons hlt]
    have htl : (trimL bs[j]).length ≤ 4096 := by rw [len_trim ho.1]; exact hs
    refine add_l1 bs j (trimL bs[j]) ho.1.trim _ (V out + V bs[j]) (4096 + j) (by omega) (by omega) (fun o h1 h2 h3 => ?_) (by omega) _ out rfl hol hlo (by rw [V_trim])
    have := ih (j + 1) o (by omega) h1 (by omega)
    rw [h3] at this
    refine Ev.res (Ev.congr (fun k => rfl) this) ?_
    simp only [sumV]
    congr 1
    omega

/-- The sum of all, or an error. -/
def addA (a : List Int) (bs : List (List Int)) : List Int × Int := if short [a] ∧ short bs then ans (V a + sumV bs) else ([], 2)
theorem add_f (a : List Int) (bs : List (List Int)) (ha : okL a) (hbs : ∀ l ∈ bs, okL l) (hbl : bs.length ≤ 5864062014634) : Ev (fun k => nat_Add.f k a bs) (addA a bs) := by
  refine Ev.congr (fun k => by unfold nat_Add.f; rfl) (Ev.bind (fits_f [a] (fun x hx => by simp at hx; exact hx ▸ ha) (by simp)) ?_)
  have err : ∀ h : ¬ (short [a] ∧ short bs), Ev (fun k => nat_Add.j0 k a bs true) (addA a bs) := by
    intro h
    refine Ev.step (fun k => by simp only [nat_Add.j0]; rfl) (Ev.pos (by trivial) (Ev.const ?_))
    rw [addA, if_neg h]
  by_cases h1 : short [a]
  · refine Ev.pos (by simpa using h1) (Ev.bind (fits_f bs hbs (by omega)) ?_)
    by_cases h2 : short bs
    · rw [decide_eq_true h2]
      refine Ev.step (fun k => by simp only [nat_Add.j0]; rfl) (Ev.neg (by simp) ?_)
      have htl : (trimL a).length ≤ 4096 := by rw [len_trim ha.1]; exact h1 a (by simp)
      refine Ev.bind (trim_f a (by have := ha.2; omega)) (Ev.pre (clone_f _ (by omega)) ?_)
      have := add_l0 bs hbs h2 hbl bs.length 0 (trimL a) (by omega) ha.1.trim (by omega)
      rw [V_trim] at this
      refine Ev.res this ?_
      rw [addA, if_pos ⟨h1, h2⟩]
      rfl
    · rw [decide_eq_false h2]
      exact err (fun h => h2 h.2)
  · refine Ev.neg (by simpa using h1) (err (fun h => h1 h.1))

theorem small_len {n : Int} (h0 : 0 ≤ n) (h : n < 4294967296) : len n ≤ 1 := (len_le h0).2 (by simpa using h)
theorem okL_one {n : Int} (h0 : 0 ≤ n) (h : n < 4294967296) : okL [n] := ⟨Lim.cons h0 h Lim.nil, by simp⟩
theorem awake_f : Ev (fun k => glossatorlaw01_awake.f k) true := by
  have h := add_f [2] [[3]] (okL_one (by decide) (by decide)) (fun l hl => by simp at hl; exact hl ▸ okL_one (by decide) (by decide)) (by simp)
  have s2 : short [[2]] := fun l hl => by simp at hl; rw [hl, V_one]; exact Nat.le_trans (small_len (by decide) (by decide)) (by decide)
  have s3 : short [[3]] := fun l hl => by simp at hl; rw [hl, V_one]; exact Nat.le_trans (small_len (by decide) (by decide)) (by decide)
  have e : addA [2] [[3]] = ([5], 0) := by
    rw [addA, if_pos ⟨s2, s3⟩, ans]
    have : V [2] + sumV [[3]] = 5 := by simp [V, sumV]
    rw [this, if_pos (Nat.le_trans (small_len (by decide) (by decide)) (by decide)), enc_pos (by decide)]
    rw [show (5 : Int) / 4294967296 = 0 by decide, enc_zero]
    rfl
  rw [e] at h
  refine Ev.congr (fun k => by unfold glossatorlaw01_awake.f; rfl) (Ev.bind h (Ev.const ?_))
  decide
theorem ans_len (n : Int) : (ans n).1.length ≤ 4096 := by
  unfold ans
  split
  · assumption
  · simp

theorem limbs_l0 (a : List Int) (hl : a.length ≤ 35184372088831) : ∀ (d i : Nat), i + d = a.length → Ev (fun k => glossatorlaw01_limbs.l0 k a a (i : Int)) true := by
  intro d
  induction d with
  | zero =>
    intro i hi
    exact Ev.step (fun k => by simp only [glossatorlaw01_limbs.l0]; rfl) (Ev.neg (by omega) (Ev.const rfl))
  | succ d ih =>
    intro i hi
    refine Ev.step (fun k => by simp only [glossatorlaw01_limbs.l0]; rfl) (Ev.pos (by omega) (Ev.pos (by omega) (Ev.pos (by omega) (Ev.pos (by trivial) ?_))))
    rw [wrap_id (by omega) (by omega)]
    exact ih (i + 1) (by omega)
theorem limbs_f (a b : List Int) (h : a = b) (hl : a.length ≤ 35184372088831) : Ev (fun k => glossatorlaw01_limbs.f k a b) true := by
  subst h
  exact Ev.congr (fun k => by unfold glossatorlaw01_limbs.f; rfl) (Ev.pos (by trivial) (limbs_l0 a hl a.length 0 (by omega)))

/-- A limb; 0 beyond. -/
def lim (l : List Int) (j : Nat) : Int := l.getD j 0
theorem lim_in (l : List Int) (j : Nat) (h : j < l.length) : lim l j = l[j] := by
  unfold lim; rw [List.getD_eq_getElem?_getD, List.getElem?_eq_getElem h]; rfl
theorem lim_out (l : List Int) (j : Nat) (h : l.length ≤ j) : lim l j = 0 := by
  unfold lim; rw [List.getD_eq_getElem?_getD, List.getElem?_eq_none h]; rfl
theorem lim_bd {l : List Int} (h : Lim l) (j : Nat) : 0 ≤ lim l j ∧ lim l j < 4294967296 := by
  by_cases hj : j < l.length
  · rw [lim_in l j hj]; exact h.get j hj
  · rw [lim_out l j (by omega)]; omega
theorem V_lim (l : List Int) (j : Nat) : V (l.drop j) = lim l j + 4294967296 * V (l.drop (j + 1)) := by
  by_cases hj : j < l.length
  · rw [V_drop l j hj, lim_in l j hj]
  · rw [List.drop_eq_nil_of_le (by omega), List.drop_eq_nil_of_le (by omega), lim_out l j (by omega)]; rfl
theorem zeros_lim (n j : Nat) : lim (List.replicate n 0) j = 0 := by
  by_cases h : j < n
  · rw [lim_in _ _ (by simpa using h)]; simp
  · exact lim_out _ _ (by simp; omega)

theorem rtrim_l0 (l : List Int) (hl : l.length ≤ 35184372088831) : ∀ (d k : Nat), (trimL l).length + d ≤ l.length → d < k → glossatorref01_Trim.l0 k l (((trimL l).length + d : Nat) : Int) = some (trimL l) := by
  intro d
  induction d with
  | zero =>
    intro k h hk
    obtain ⟨k, rfl⟩ : ∃ m, k = m + 1 := ⟨k - 1, by omega⟩
    have e : l.take (((trimL l).length + 0 : Nat) : Int).toNat = trimL l := by rw [Int.toNat_natCast]; exact trim_take l
    simp only [glossatorref01_Trim.l0, Option.bind_some, List.nil_append, List.length_nil, Nat.zero_add]
    rw [e]
    by_cases h0 : 0 < (trimL l).length
    · have hne := trim_last l h0
      have hne2 : ¬ rd l (wrap64 ((((trimL l).length + 0 : Nat) : Int) - 1)) = 0 := by
        rw [wrap_id (by omega) (by omega), rd_getD, show ((((trimL l).length + 0 : Nat) : Int) - 1).toNat = (trimL l).length - 1 by omega]
        exact hne
      rw [if_pos (by omega), if_neg hne2, wrap_id (by omega) (by omega), if_pos (by omega), if_pos (by omega), if_pos (by omega), if_pos (by omega), if_pos (by omega)]
    · rw [if_neg (by omega), if_pos (by omega), if_pos (by omega), if_pos (by omega)]
  | succ d ih =>
    intro k h hk
    obtain ⟨k, rfl⟩ : ∃ m, k = m + 1 := ⟨k - 1, by omega⟩
    have h0 := trim_above l ((trimL l).length + d) (by omega)
    have e : wrap64 ((((trimL l).length + (d + 1) : Nat) : Int) - 1) = (((trimL l).length + d : Nat) : Int) := by rw [wrap_id (by omega) (by omega)]; omega
    simp only [glossatorref01_Trim.l0]
    rw [e, if_pos (by omega), if_pos (by omega), if_pos (by omega), if_pos (by rw [rd_getD, Int.toNat_natCast]; exact h0)]
    exact ih k (by omega) (by omega)
theorem rtrim_f (l : List Int) (hl : l.length ≤ 35184372088831) : Ev (fun k => glossatorref01_Trim.f k l) (trimL l) := by
  refine ⟨l.length + 1, fun k hk => ?_⟩
  have := rtrim_l0 l hl (l.length - (trimL l).length) k (by have := trim_len l; omega) (by omega)
  rw [show (trimL l).length + (l.length - (trimL l).length) = l.length by have := trim_len l; omega] at this
  exact this
theorem long_l0 (ls : List (List Int)) (h : ∀ l ∈ ls, okL l) (hl : ls.length ≤ 35184372088831) : ∀ (d i : Nat), i + d = ls.length → Ev (fun k => glossatorref01_long.l0 k ls (i : Int)) (decide (¬ short (ls.drop i))) := by
  intro d
  induction d with
  | zero =>
    intro i hi
    refine Ev.step (fun k => by simp only [glossatorref01_long.l0]; rfl) (Ev.neg (by omega) ?_)
    rw [List.drop_eq_nil_of_le (by omega)]
    exact Ev.const (by simp [short])
  | succ d ih =>
    intro i hi
    have hlt : i < ls.length := by omega
    have ho := h _ (List.getElem_mem hlt)
    refine Ev.step (fun k => by simp only [glossatorref01_long.l0]; rfl) (Ev.pos (by omega) (Ev.pos (by omega) ?_))
    rw [rdL_get ls i hlt]
    refine Ev.bind (rtrim_f _ (by have := ho.2; omega)) ?_
    rw [List.drop_eq_getElem_cons hlt, len_trim ho.1]
    by_cases hs : len (V ls[i]) ≤ 4096
    · refine Ev.neg (by omega) ?_
      rw [wrap_id (by omega) (by omega)]
      have : short (ls.drop (i + 1)) ↔ short (ls[i] :: ls.drop (i + 1)) := ⟨fun hq x hx => (List.mem_cons.1 hx).elim (fun e => e ▸ hs) (hq x), fun hq x hx => hq x (List.mem_cons_of_mem _ hx)⟩
      exact Ev.res (ih (i + 1) (by omega)) (by rw [decide_eq_decide, this])
    · refine Ev.pos (by omega) (Ev.const ?_)
      rw [decide_eq_true (show ¬ short (ls[i] :: ls.drop (i + 1)) from fun hq => hs (hq _ List.mem_cons_self))]
theorem long_f (ls : List (List Int)) (h : ∀ l ∈ ls, okL l) (hl : ls.length ≤ 35184372088831) : Ev (fun k => glossatorref01_long.f k ls) (decide (¬ short ls)) := long_l0 ls h hl ls.length 0 (by omega)
theorem at_in (l : List Int) (h : Lim l) (j : Nat) (hj : j < l.length) : glossatorref01_at.f l (j : Int) = some l[j] := by
  have hg := h.get j hj
  unfold glossatorref01_at.f
  rw [if_neg (by omega), if_neg (by omega), if_pos (by omega), if_pos (by omega), rd_get l j hj, u64_id (by omega) (by omega)]
theorem at_out (l : List Int) (i : Int) (hi : (l.length : Int) ≤ i) : glossatorref01_at.f l i = some 0 := by
  unfold glossatorref01_at.f
  rw [if_neg (by omega), if_pos (by omega)]
theorem at_f (l : List Int) (h : Lim l) (j : Nat) : glossatorref01_at.f l (j : Int) = some (lim l j) := by
  by_cases hj : j < l.length
  · rw [at_in l h j hj, lim_in l j hj]
  · rw [at_out l j (by omega), lim_out l j (by omega)]

def cmpI (x y : Int) : Int := if x < y then -1 else if x > y then 1 else 0
theorem V_at (l : List Int) (i : Nat) (h : i < l.length) : V l = V (l.take i) + 4294967296 ^ i * (l[i] + 4294967296 * V (l.drop (i + 1))) := by
  rw [← V_drop l i h]; exact V_split l i (by omega)
theorem part_lt (a b : List Int) (ha : Lim a) (hb : Lim b) (i : Nat) (hia : i < a.length) (hib : i < b.length) (hd : V (a.drop (i + 1)) = V (b.drop (i + 1))) (h : a[i] < b[i]) : V a < V b := by
  rw [V_at a i hia, V_at b i hib, hd]
  have h1 := V_lt (ha.take i)
  rw [List.length_take, Nat.min_eq_left (by omega)] at h1
  have h2 := V_nonneg (hb.take i)
  generalize V (b.drop (i + 1)) = R
  have h3 : (4294967296 : Int) ^ i * (a[i] + 1) ≤ 4294967296 ^ i * b[i] := Int.mul_le_mul_of_nonneg_left (by omega) (Int.le_of_lt (Int.pow_pos (by decide)))
  rw [Int.mul_add, Int.mul_add]
  rw [Int.mul_add, Int.mul_one] at h3
  omega
theorem cmp_len {m n : Int} (_ : 0 ≤ m) (h : len m < len n) : m < n := by
  rcases Int.lt_or_le m n with h' | h'
  · exact h'
  · have hn : 0 ≤ n := by
      rcases Int.lt_or_le n 0 with q | q
      · have : len n = 0 := by unfold len enc; rw [dif_pos (by omega)]; rfl
        omega
      · exact q
    have := len_mono hn h'
    omega
theorem cmp_l0 (a b : List Int) (ha : Lim a) (hb : Lim b) (hl : a.length = b.length) (hla : a.length ≤ 35184372088831) : ∀ (d : Nat), d ≤ a.length → V (a.drop d) = V (b.drop d) → Ev (fun k => nat_Cmp.l0 k a b ((d : Int) - 1)) (cmpI (V a) (V b)) := by
  intro d
  induction d with
  | zero =>
    intro _ hd
    simp only [List.drop_zero] at hd
    refine Ev.step (fun k => by simp only [nat_Cmp.l0]; rfl) (Ev.neg (by omega) (Ev.const ?_))
    rw [hd, cmpI, if_neg (by omega), if_neg (by omega)]
  | succ d ih =>
    intro hda hd
    have hia : d < a.length := by omega
    have hib : d < b.length := by omega
    rw [show ((d + 1 : Nat) : Int) - 1 = (d : Int) by omega]
    refine Ev.step (fun k => by simp only [nat_Cmp.l0]; rfl) (Ev.pos (by omega) (Ev.pos (by omega) (Ev.pos (by omega) (Ev.pos (by omega) ?_))))
    rw [rd_get a d hia, rd_get b d hib, wrap_id (by omega) (by omega)]
    by_cases h1 : a[d] < b[d]
    · have := part_lt a b ha hb d hia hib hd h1
      exact Ev.pos h1 (Ev.const (by rw [cmpI, if_pos this]))
    · refine Ev.neg h1 ?_
      by_cases h2 : a[d] > b[d]
      · have := part_lt b a hb ha d hib hia hd.symm h2
        exact Ev.pos h2 (Ev.const (by rw [cmpI, if_neg (by omega), if_pos this]))
      · refine Ev.neg h2 (ih (by omega) ?_)
        rw [V_drop a d hia, V_drop b d hib, hd, show a[d] = b[d] by omega]
theorem cmp_f (a b : List Int) (ha : okL a) (hb : okL b) : Ev (fun k => nat_Cmp.f k a b) (cmpI (V a) (V b)) := by
  refine Ev.congr (fun k => by unfold nat_Cmp.f; rfl) (Ev.bind (trim_f a (by have := ha.2; omega)) (Ev.bind (trim_f b (by have := hb.2; omega)) ?_))
  have la := trim_le ha
  have lb := trim_le hb
  have h0 := V_nonneg ha.1
  have h1 := V_nonneg hb.1
  rw [len_trim ha.1, len_trim hb.1]
  by_cases h : len (V a) = len (V b)
  · refine Ev.pos (by omega) ?_
    rw [wrap_id (by omega) (by omega)]
    have := cmp_l0 (trimL a) (trimL b) ha.1.trim hb.1.trim (by rw [len_trim ha.1, len_trim hb.1, h]) (by rw [len_trim ha.1]; omega) (trimL a).length (Nat.le_refl _) (by rw [List.drop_eq_nil_of_le (Nat.le_refl _), List.drop_eq_nil_of_le (by rw [len_trim ha.1, len_trim hb.1, h]; exact Nat.le_refl _)])
    rw [V_trim, V_trim, len_trim ha.1] at this
    exact this
  · refine Ev.neg (by omega) ?_
    by_cases h2 : len (V a) < len (V b)
    · have := cmp_len h0 h2
      exact Ev.pos (by omega) (Ev.const (by rw [cmpI, if_pos this]))
    · have := cmp_len h1 (show len (V b) < len (V a) by omega)
      exact Ev.neg (by omega) (Ev.const (by rw [cmpI, if_neg (by omega), if_pos this]))

theorem rcmp_l0 (a b : List Int) (ha : Lim a) (hb : Lim b) (hl : a.length = b.length) (hla : a.length ≤ 35184372088831) : ∀ (d : Nat), d ≤ a.length → V (a.drop d) = V (b.drop d) → Ev (fun k => glossatorref01_Cmp.l0 k a b ((d : Int) - 1)) (cmpI (V a) (V b)) := by
  intro d
  induction d with
  | zero =>
    intro _ hd
    simp only [List.drop_zero] at hd
    refine Ev.step (fun k => by simp only [glossatorref01_Cmp.l0]; rfl) (Ev.neg (by omega) (Ev.const ?_))
    rw [hd, cmpI, if_neg (by omega), if_neg (by omega)]
  | succ d ih =>
    intro hda hd
    have hia : d < a.length := by omega
    have hib : d < b.length := by omega
    rw [show ((d + 1 : Nat) : Int) - 1 = (d : Int) by omega]
    refine Ev.step (fun k => by simp only [glossatorref01_Cmp.l0]; rfl) (Ev.pos (by omega) (Ev.pos (by omega) (Ev.pos (by omega) (Ev.pos (by omega) ?_))))
    rw [rd_get a d hia, rd_get b d hib, wrap_id (by omega) (by omega)]
    by_cases h1 : a[d] < b[d]
    · have := part_lt a b ha hb d hia hib hd h1
      exact Ev.pos h1 (Ev.const (by rw [cmpI, if_pos this]))
    · refine Ev.neg h1 ?_
      by_cases h2 : a[d] > b[d]
      · have := part_lt b a hb ha d hib hia hd.symm h2
        exact Ev.pos h2 (Ev.const (by rw [cmpI, if_neg (by omega), if_pos this]))
      · refine Ev.neg h2 (ih (by omega) ?_)
        rw [V_drop a d hia, V_drop b d hib, hd, show a[d] = b[d] by omega]
theorem rcmp_f (a b : List Int) (ha : okL a) (hb : okL b) : Ev (fun k => glossatorref01_Cmp.f k a b) (cmpI (V a) (V b)) := by
  refine Ev.congr (fun k => by unfold glossatorref01_Cmp.f; rfl) (Ev.bind (rtrim_f a (by have := ha.2; omega)) (Ev.bind (rtrim_f b (by have := hb.2; omega)) ?_))
  have la := trim_le ha
  have lb := trim_le hb
  have h0 := V_nonneg ha.1
  have h1 := V_nonneg hb.1
  rw [len_trim ha.1, len_trim hb.1]
  by_cases h : len (V a) = len (V b)
  · refine Ev.pos (by omega) ?_
    rw [wrap_id (by omega) (by omega)]
    have := rcmp_l0 (trimL a) (trimL b) ha.1.trim hb.1.trim (by rw [len_trim ha.1, len_trim hb.1, h]) (by rw [len_trim ha.1]; omega) (trimL a).length (Nat.le_refl _) (by rw [List.drop_eq_nil_of_le (Nat.le_refl _), List.drop_eq_nil_of_le (by rw [len_trim ha.1, len_trim hb.1, h]; exact Nat.le_refl _)])
    rw [V_trim, V_trim, len_trim ha.1] at this
    exact this
  · refine Ev.neg (by omega) ?_
    by_cases h2 : len (V a) < len (V b)
    · have := cmp_len h0 h2
      exact Ev.pos (by omega) (Ev.const (by rw [cmpI, if_pos this]))
    · have := cmp_len h1 (show len (V b) < len (V a) by omega)
      exact Ev.neg (by omega) (Ev.const (by rw [cmpI, if_neg (by omega), if_pos this]))

theorem sum_alg (W P c x y lo hi R T : Int) (e : c + x + y = lo + 4294967296 * hi) : W + P * lo + P * 4294967296 * hi + P * 4294967296 * (R + T) = W + P * c + P * (x + 4294967296 * R + (y + 4294967296 * T)) := by grind
theorem pow_up {j k : Nat} (h : j ≤ k) : (4294967296 : Int) ^ j ≤ 4294967296 ^ k := by
  obtain ⟨d, rfl⟩ := Nat.exists_eq_add_of_le h
  clear h
  induction d with
  | zero => exact Int.le_refl _
  | succ d ih =>
    rw [show j + (d + 1) = (j + d) + 1 from rfl, Int.pow_succ]
    have : (0 : Int) < 4294967296 ^ (j + d) := Int.pow_pos (by decide)
    omega
theorem sum_l0 (a b : List Int) (ha : okL a) (hb : okL b) : ∀ (d i : Nat) (out : List Int) (c : Int), i + d = max a.length b.length + 1 → out.length = i → Lim out → 0 ≤ c → c ≤ 1 →
    V out + 4294967296 ^ i * c + 4294967296 ^ i * (V (a.drop i) + V (b.drop i)) = V a + V b → Ev (fun k => glossatorref01_sum.l0 k a b out c (i : Int)) (enc (V a + V b)) := by
  have ha2 := ha.2
  have hb2 := hb.2
  have hmx : mx (a.length : Int) (b.length : Int) = ((max a.length b.length : Nat) : Int) := by unfold mx; split <;> omega
  intro d
  induction d with
  | zero =>
    intro i out c hi ho hlo c0 c1 hV
    refine Ev.step (fun k => by simp only [glossatorref01_sum.l0]; rfl) (Ev.neg (by rw [hmx]; omega) (Ev.bind (rtrim_f out (by omega)) (Ev.const ?_)))
    rw [List.drop_eq_nil_of_le (by omega), List.drop_eq_nil_of_le (by omega)] at hV
    simp only [V, Int.add_zero, Int.mul_zero] at hV
    have hc : c = 0 := by
      have h1 := V_lt ha.1
      have h2 := V_lt hb.1
      have h3 := V_nonneg hlo
      have h4 : (0 : Int) < 4294967296 ^ a.length := Int.pow_pos (by decide)
      have m1 : (4294967296 : Int) ^ a.length ≤ 4294967296 ^ (max a.length b.length) := pow_up (by omega)
      have m2 : (4294967296 : Int) ^ b.length ≤ 4294967296 ^ (max a.length b.length) := pow_up (by omega)
      have hi2 : i = max a.length b.length + 1 := by omega
      rw [hi2, Int.pow_succ] at hV
      rcases Int.lt_or_le 0 c with q | q
      · have : c = 1 := by omega
        rw [this] at hV
        omega
      · omega
    rw [trim_enc hlo]
    congr 2
    rw [hc] at hV
    omega
  | succ d ih =>
    intro i out c hi ho hlo c0 c1 hV
    have g1 := lim_bd ha.1 i
    have g2 := lim_bd hb.1 i
    refine Ev.step (fun k => by simp only [glossatorref01_sum.l0]; rfl) (Ev.pos (by rw [hmx]; omega) ?_)
    refine Ev.pre (at_f a ha.1 i) ?_
    refine Ev.pre (at_f b hb.1 i) ?_
    refine Ev.pos (show out.length < 35184372088832 by omega) ?_
    rw [u64_id (n := c + lim a i) (by omega) (by omega), u64_id (n := c + lim a i + lim b i) (by omega) (by omega), wrap_id (by omega) (by omega)]
    have := ih (i + 1) (out ++ [(c + lim a i + lim b i) % 4294967296]) ((c + lim a i + lim b i) / 4294967296) (by omega) (by simp [ho]) (hlo.app (Lim.cons (by omega) (by omega) Lim.nil)) (by omega) (by omega) ?_
    · exact this
    · rw [V_snoc, ho, Int.pow_succ, ← hV, V_lim a i, V_lim b i]
      exact sum_alg _ _ _ _ _ _ _ _ _ (by omega)
theorem sum_f (a b : List Int) (ha : okL a) (hb : okL b) : Ev (fun k => glossatorref01_sum.f k a b) (enc (V a + V b)) := by
  have := sum_l0 a b ha hb (max a.length b.length + 1) 0 [] 0 (by omega) rfl Lim.nil (by omega) (by omega) (by simp [V])
  exact this

theorem len_add {m n : Int} {k : Nat} (hm : 0 ≤ m) (hn : 0 ≤ n) (h1 : len m ≤ k) (h2 : len n ≤ k) : len (m + n) ≤ k + 1 := by
  rw [len_le (by omega)]
  have := (len_le hm).1 h1
  have := (len_le hn).1 h2
  rw [Int.pow_succ]
  have : (0 : Int) < 4294967296 ^ k := Int.pow_pos (by decide)
  omega
theorem len_up {n : Int} {j k : Nat} (h : len n ≤ j) (hjk : j ≤ k) : len n ≤ k := Nat.le_trans h hjk
theorem sumV_nonneg : ∀ ls : List (List Int), (∀ l ∈ ls, okL l) → 0 ≤ sumV ls
  | [], _ => Int.le_refl 0
  | l :: r, h => by
    have h1 := V_nonneg (h l (by simp)).1
    have h2 := sumV_nonneg r (fun x hx => h x (by simp [hx]))
    simp only [sumV]; omega
theorem radd_l0 (ls : List (List Int)) (h : ∀ l ∈ ls, okL l) (hs : short ls) (hl : ls.length ≤ 5864062014635) : ∀ (d j : Nat) (s : Int), j + d = ls.length → 0 ≤ s → len s ≤ 4096 + j → Ev (fun k => glossatorref01_Add.l0 k ls (enc s) (j : Int)) (ans (s + sumV (ls.drop j))) := by
  intro d
  induction d with
  | zero =>
    intro j s hj hs0 _
    rw [List.drop_eq_nil_of_le (by omega)]
    refine Ev.step (fun k => by simp only [glossatorref01_Add.l0]; rfl) (Ev.neg (by omega) ?_)
    simp only [sumV, Int.add_zero, ans]
    by_cases hq : len s ≤ 4096
    · rw [if_pos hq]
      exact Ev.neg (by unfold len at hq; omega) (Ev.const rfl)
    · rw [if_neg hq]
      exact Ev.pos (by unfold len at hq; omega) (Ev.const rfl)
  | succ d ih =>
    intro j s hj hs0 hsl
    have hlt : j < ls.length := by omega
    have ho := h _ (List.getElem_mem hlt)
    have hsh := hs _ (List.getElem_mem hlt)
    have hv := V_nonneg ho.1
    have hn : len (s + V ls[j]) ≤ 4096 + (j + 1) := len_add hs0 hv hsl (Nat.le_trans hsh (Nat.le_add_right 4096 j))
    refine Ev.step (fun k => by simp only [glossatorref01_Add.l0]; rfl) (Ev.pos (by omega) (Ev.pos (by omega) ?_))
    rw [rdL_get ls j hlt]
    have := sum_f (enc s) ls[j] (okL.enc (by omega)) ho
    rw [V_enc hs0] at this
    refine Ev.bind this ?_
    rw [wrap_id (by omega) (by omega)]
    refine Ev.res (ih (j + 1) (s + V ls[j]) (by omega) (by omega) hn) ?_
    rw [List.drop_eq_getElem_cons hlt]
    simp only [sumV]
    congr 1
    omega
theorem radd_f (a : List Int) (bs : List (List Int)) (ha : okL a) (hbs : ∀ l ∈ bs, okL l) (hbl : bs.length ≤ 5864062014634) : Ev (fun k => glossatorref01_Add.f k (a :: bs)) (addA a bs) := by
  have hall : ∀ l ∈ a :: bs, okL l := fun l hl => (List.mem_cons.1 hl).elim (fun e => e ▸ ha) (hbs l)
  refine Ev.congr (fun k => by unfold glossatorref01_Add.f; rfl) (Ev.bind (long_f (a :: bs) hall (by simp; omega)) ?_)
  have hiff : short (a :: bs) ↔ short [a] ∧ short bs := by
    constructor
    · intro q
      exact ⟨fun x hx => q x (by simp at hx; rw [hx]; exact List.mem_cons_self), fun x hx => q x (List.mem_cons_of_mem _ hx)⟩
    · rintro ⟨q1, q2⟩ x hx
      rcases List.mem_cons.1 hx with e | e
      · exact q1 x (by rw [e]; exact List.mem_cons_self)
      · exact q2 x e
  by_cases hq : short (a :: bs)
  · refine Ev.neg (by simpa using hq) ?_
    have := radd_l0 (a :: bs) hall hq (by simp; omega) (a :: bs).length 0 0 (by omega) (by omega) (by rw [len_zero]; omega)
    rw [enc_zero] at this
    refine Ev.res this ?_
    rw [addA, if_pos (hiff.1 hq)]
    simp only [List.drop_zero, sumV, Int.zero_add]
  · refine Ev.pos (by simpa using hq) (Ev.const ?_)
    rw [addA, if_neg (fun h => hq (hiff.2 h))]
theorem cmps_l0 (a : List Int) (bs : List (List Int)) (ha : okL a) (hbs : ∀ l ∈ bs, okL l) (hbl : bs.length ≤ 5864062014634) : ∀ (d j : Nat), j + d = bs.length → Ev (fun k => glossatorlaw01_NatAdds.l0 k a bs (j : Int)) true := by
  intro d
  induction d with
  | zero =>
    intro j hj
    exact Ev.step (fun k => by simp only [glossatorlaw01_NatAdds.l0]; rfl) (Ev.neg (by omega) (Ev.bind awake_f (Ev.const rfl)))
  | succ d ih =>
    intro j hj
    have hlt : j < bs.length := by omega
    have ho := hbs _ (List.getElem_mem hlt)
    refine Ev.step (fun k => by simp only [glossatorlaw01_NatAdds.l0]; rfl) (Ev.pos (by omega) (Ev.pos (by omega) ?_))
    rw [rdL_get bs j hlt, wrap_id (by omega) (by omega)]
    exact Ev.bind (cmp_f a _ ha ho) (Ev.bind (rcmp_f a _ ha ho) (Ev.pos rfl (ih (j + 1) (by omega))))
theorem addA_len (a : List Int) (bs : List (List Int)) : (addA a bs).1.length ≤ 4096 := by
  unfold addA
  split
  · exact ans_len _
  · simp
theorem NatAdds : glossatorlaw01_NatAdds.Pure := by
  intro a bs ⟨hza, hwa⟩ ⟨hzb, hwb⟩
  have ha : okL a := okL.of hwa hza
  have hbs : ∀ l ∈ bs, okL l := fun l hl => okL.of (hwb l hl).2 (hwb l hl).1
  refine Ev.rounds (Ev.congr (fun k => by unfold glossatorlaw01_NatAdds.f; simp only [Option.bind_some, List.nil_append, List.length_nil, Nat.zero_add, List.length_singleton, List.singleton_append]; rfl) ?_)
  refine Ev.pos (by omega) (Ev.bind (add_f a bs ha hbs (by omega)) (Ev.pos (by omega) (Ev.bind (radd_f a bs ha hbs (by omega)) (Ev.bind (limbs_f _ _ rfl (by have := addA_len a bs; omega)) (Ev.pos rfl ?_)))))
  rw [bne_self_eq_false]
  exact Ev.step (fun k => by simp only [glossatorlaw01_NatAdds.j0]; rfl) (Ev.neg (by simp) (cmps_l0 a bs ha hbs (by omega) bs.length 0 (by omega)))

end Go.Proofs.Ytflccadclkddoaa.Pure
