/- Proved: the pure statement of NatPowers: a number that is not 0 times two to a power has so many bits more, by it so many less, and its bytes are as many as its bits ask, for every number in limbs and every power. -/
import Derived.Test.YtflccadclkddoaaPNatPowersx4
import Derived.Test.YtflccadclkddoaaNatPlain
import Derived.Test.YtflccadclkddoaaNatBits
namespace Go.Proofs.Ytflccadclkddoaa.Pure
open Go.RowKit Go.Proofs.Ytflccadclkddoaa.PNatPowers Go.Proofs.YtflccadclkddoaaW.PrintWords Go.Proofs.YtflccadclkddoaaW.PrintLast Go.Proofs.YtflccadclkddoaaW.PrintMore Go.Proofs.Ytflccadclkddoaa.NatPlain

theorem Ev.pos {α : Type} {c : Prop} [Decidable c] {f g : Nat → Option α} {r : α} (h : c) (k : Ev f r) : Ev (fun n => if c then f n else g n) r := Ev.congr (fun _ => if_pos h) k
theorem Ev.neg {α : Type} {c : Prop} [Decidable c] {f g : Nat → Option α} {r : α} (h : ¬ c) (k : Ev g r) : Ev (fun n => if c then f n else g n) r := Ev.congr (fun _ => if_neg h) k
theorem Ev.const {α : Type} {x : Option α} {r : α} (h : x = some r) : Ev (fun _ => x) r := ⟨0, fun _ _ => h⟩
theorem Ev.pre {α β : Type} {x : Option α} {a : α} {f : Nat → α → Option β} {r : β} (h : x = some a) (k : Ev (fun n => f n a) r) : Ev (fun n => x.bind (f n)) r := Ev.congr (fun _ => by rw [h]; rfl) k
theorem Ev.res {α : Type} {g : Nat → Option α} {r r' : α} (k : Ev g r') (e : r' = r) : Ev g r := e ▸ k
theorem wrap_id {x : Int} (h0 : -9223372036854775808 ≤ x) (h1 : x ≤ 9223372036854775807) : wrap64 x = x := by unfold wrap64; omega

theorem wf_u32 {n : Int} (h : (Lit.int .u32 n).wf = true) : 0 ≤ n ∧ n < 4294967296 := by
  simp [Lit.wf, IntKind.min, IntKind.max, IntKind.signed, IntKind.bits] at h; omega
theorem u64_id {n : Int} (h0 : 0 ≤ n) (h1 : n < 18446744073709551616) : IntKind.u64.wrap n = n := by
  simp [IntKind.wrap, IntKind.bits, IntKind.signed]; omega
theorem u64_mod (n : Int) : IntKind.u64.wrap n = n % 18446744073709551616 := by simp [IntKind.wrap, IntKind.bits, IntKind.signed]
theorem rd_getD (l : List Int) (i : Int) : rd l i = l.getD i.toNat 0 := rfl
theorem rd_get (l : List Int) (j : Nat) (h : j < l.length) : rd l (j : Int) = l[j] := by
  rw [rd_getD, Int.toNat_natCast, List.getD_eq_getElem?_getD, List.getElem?_eq_getElem h]; rfl
/-- Limbs, no more than a slice may have. -/
def okL (l : List Int) : Prop := Lim l ∧ l.length ≤ 35184372087808
theorem okL.of {l : List Int} (hw : ∀ x ∈ l, (Lit.int .u32 x).wf = true) (hs : l.length * 4 ≤ 140737488351232) : okL l := ⟨fun x hx => wf_u32 (hw x hx), by omega⟩
theorem okL.nil : okL [] := ⟨Lim.nil, by simp⟩
theorem okL.enc {n : Int} (h : len n ≤ 35184372087808) : okL (enc n) := ⟨Lim.enc n, h⟩
theorem trim_le {l : List Int} (h : okL l) : len (V l) ≤ 35184372087808 := by rw [← len_trim h.1]; exact Nat.le_trans (trim_len l) h.2

theorem trim_l0 (l : List Int) (hl : l.length ≤ 35184372088831) : ∀ (d k : Nat), (trimL l).length + d ≤ l.length → d < k → nat_trim.l0 k l (((trimL l).length + d : Nat) : Int) = some (trimL l) := by
  intro d
  induction d with
  | zero =>
    intro k h hk
    obtain ⟨k, rfl⟩ : ∃ m, k = m + 1 := ⟨k - 1, by omega⟩
    have e : l.take (((trimL l).length + 0 : Nat) : Int).toNat = trimL l := by rw [Int.toNat_natCast]; exact trim_take l
    simp only [nat_trim.l0]
    rw [e]
    by_cases h0 : 0 < (trimL l).length
    · have hne := trim_last l h0
      have hne2 : ¬ rd l (wrap64 ((((trimL l).length + 0 : Nat) : Int) - 1)) = 0 := by
        rw [wrap_id (by omega) (by omega), rd_getD, show ((((trimL l).length + 0 : Nat) : Int) - 1).toNat = (trimL l).length - 1 by omega]
        exact hne
      rw [if_pos (by omega), if_neg hne2, wrap_id (by omega) (by omega), if_pos (by omega), if_pos (by omega), if_pos (by omega), if_pos (by omega)]
    · rw [if_neg (by omega), if_pos (by omega), if_pos (by omega)]
  | succ d ih =>
    intro k h hk
    obtain ⟨k, rfl⟩ : ∃ m, k = m + 1 := ⟨k - 1, by omega⟩
    have h0 := trim_above l ((trimL l).length + d) (by omega)
    have e : wrap64 ((((trimL l).length + (d + 1) : Nat) : Int) - 1) = (((trimL l).length + d : Nat) : Int) := by rw [wrap_id (by omega) (by omega)]; omega
    simp only [nat_trim.l0]
    rw [e, if_pos (by omega), if_pos (by omega), if_pos (by omega), if_pos (by rw [rd_getD, Int.toNat_natCast]; exact h0)]
    exact ih k (by omega) (by omega)
theorem trim_f (l : List Int) (hl : l.length ≤ 35184372088831) : Ev (fun k => nat_trim.f k l) (trimL l) := by
  refine ⟨l.length + 1, fun k hk => ?_⟩
  have := trim_l0 l hl (l.length - (trimL l).length) k (by have := trim_len l; omega) (by omega)
  rw [show (trimL l).length + (l.length - (trimL l).length) = l.length by have := trim_len l; omega] at this
  exact this

theorem rdL_get (ls : List (List Int)) (j : Nat) (h : j < ls.length) : rd_L1 ls (j : Int) = ls[j] := by
  unfold rd_L1
  rw [Int.toNat_natCast, List.getD_eq_getElem?_getD, List.getElem?_eq_getElem h]; rfl
/-- No number is too long. -/
def short (ls : List (List Int)) : Prop := ∀ l ∈ ls, len (V l) ≤ 4096
instance (ls : List (List Int)) : Decidable (short ls) := by unfold short; infer_instance
theorem fits_l0 (ls : List (List Int)) (h : ∀ l ∈ ls, okL l) (hl : ls.length ≤ 35184372088831) : ∀ (d i : Nat), i + d = ls.length → Ev (fun k => nat_fits.l0 k ls (ls.length : Int) (i : Int)) (decide (short (ls.drop i))) := by
  intro d
  induction d with
  | zero =>
    intro i hi
    refine Ev.step (fun k => by simp only [nat_fits.l0]; rfl) (Ev.neg (by omega) ?_)
    rw [List.drop_eq_nil_of_le (by omega)]
    exact Ev.const (by simp [short])
  | succ d ih =>
    intro i hi
    have hlt : i < ls.length := by omega
    have ho := h _ (List.getElem_mem hlt)
    refine Ev.step (fun k => by simp only [nat_fits.l0]; rfl) (Ev.pos (by omega) (Ev.pos (by omega) (Ev.pos (by omega) ?_)))
    rw [rdL_get ls i hlt]
    refine Ev.bind (trim_f _ (by have := ho.2; omega)) ?_
    rw [List.drop_eq_getElem_cons hlt, len_trim ho.1]
    by_cases hs : len (V ls[i]) ≤ 4096
    · refine Ev.neg (by omega) ?_
      rw [wrap_id (by omega) (by omega)]
      have : short (ls.drop (i + 1)) ↔ short (ls[i] :: ls.drop (i + 1)) := ⟨fun hq x hx => (List.mem_cons.1 hx).elim (fun e => e ▸ hs) (hq x), fun hq x hx => hq x (List.mem_cons_of_mem _ hx)⟩
      exact Ev.res (ih (i + 1) (by omega)) (by rw [decide_eq_decide]; exact this)
    · refine Ev.pos (by omega) (Ev.const ?_)
      rw [decide_eq_false (fun hq : short (ls[i] :: ls.drop (i + 1)) => hs (hq _ List.mem_cons_self))]
theorem fits_f (ls : List (List Int)) (h : ∀ l ∈ ls, okL l) (hl : ls.length ≤ 35184372088831) : Ev (fun k => nat_fits.f k ls) (decide (short ls)) := fits_l0 ls h hl ls.length 0 (by omega)

theorem clone_f (l : List Int) (hl : l.length ≤ 35184372088831) : slices_Clone_uint32_uint32.f l = some l := by
  unfold slices_Clone_uint32_uint32.f
  rw [if_pos (by omega)]

/-- An answer: a number, if it is not too long. -/
def ans (n : Int) : List Int × Int := if len n ≤ 4096 then (enc n, 0) else ([], 2)
theorem told_f (l : List Int) (h : Lim l) (hl : l.length ≤ 35184372087808) : Ev (fun k => nat_told.f k l) (ans (V l)) := by
  refine Ev.congr (fun k => by unfold nat_told.f; rfl) (Ev.bind (fits_f [l] (fun x hx => by simp at hx; exact hx ▸ ⟨h, hl⟩) (by simp)) ?_)
  by_cases hs : len (V l) ≤ 4096
  · refine Ev.pos (by simp [short, hs]) (Ev.bind (trim_f l (by omega)) (Ev.pre (clone_f _ (by have := trim_len l; omega)) (Ev.const ?_)))
    rw [ans, if_pos hs, trim_enc h]
  · refine Ev.neg (by simp [short, hs]) (Ev.const ?_)
    rw [ans, if_neg hs]
theorem okL_trim' {a : List Int} (ha : okL a) : (trimL a).length ≤ 35184372087808 := Nat.le_trans (trim_len a) ha.2

theorem low_f (n : Int) (_ : 0 ≤ n) : nat_low_uint64.f n = some (n % 4294967296, n / 4294967296) := rfl
theorem V_snoc (l : List Int) (c : Int) : V (l ++ [c]) = V l + 4294967296 ^ l.length * c := by rw [V_app]; simp [V]
theorem V_one (c : Int) : V [c] = c := by simp [V]

def sumV : List (List Int) → Int
  | [] => 0
  | l :: r => V l + sumV r

theorem add_l2 (bs : List (List Int)) (j : Nat) (x : List Int) (hx : Lim x) (r : List Int × Int) (S : Int) (L : Nat) (hxL : x.length ≤ L) (hL : L + 1 ≤ 35184372087808)
    (cont : ∀ out : List Int, Lim out → out.length ≤ L + 1 → V out = S → Ev (fun k => nat_Add.l0 k out bs (bs.length : Int) ((j : Int) + 1)) r) (hj : (j : Int) + 1 ≤ 9223372036854775807) :
    ∀ (d i : Nat) (out : List Int) (c : Int), i + d = L → out.length = L → Lim out → 0 ≤ c → c ≤ 1 → V out + c * 4294967296 ^ i + V (x.drop i) * 4294967296 ^ i = S →
      Ev (fun k => nat_Add.l2 k out x c bs (bs.length : Int) (j : Int) (L : Int) (i : Int)) r := by
  intro d
  induction d with
  | zero =>
    intro i out c hi ho hlo c0 c1 hV
    rw [List.drop_eq_nil_of_le (by omega)] at hV
    refine Ev.step (fun k => by simp only [nat_Add.l2]; rfl) (Ev.neg (by omega) ?_)
    rw [wrap_id (x := (j : Int) + 1) (by omega) hj]
    by_cases hc : c > 0
    · refine Ev.pos hc (Ev.pos (by omega) ?_)
      have hc1 : c = 1 := by omega
      subst hc1
      refine cont _ (hlo.app (Lim.cons (by decide) (by decide) Lim.nil)) (by simp; omega) ?_
      rw [V_snoc, ho, ← hV, show L = i by omega]
      simp [V]
    · refine Ev.neg hc (cont _ hlo (by omega) ?_)
      have hc0 : c = 0 := by omega
      subst hc0
      rw [← hV]
      simp [V]
  | succ d ih =>
    intro i out c hi ho hlo c0 c1 hV
    have hlt : i < out.length := by omega
    have hg := hlo.get i hlt
    refine Ev.step (fun k => by simp only [nat_Add.l2]; rfl) (Ev.pos (by omega) (Ev.pos (by omega) (Ev.pos (by omega) ?_)))
    rw [rd_get out i hlt, wrap_id (x := (i : Int) + 1) (by omega) (by omega), Int.toNat_natCast]
    have hp : (4294967296 : Int) ^ (i + 1) = 4294967296 ^ i * 4294967296 := Int.pow_succ ..
    by_cases hxi : i < x.length
    · have hgx := hx.get i hxi
      refine Ev.pos (by omega) ?_
      rw [rd_get x i hxi, u64_id (n := out[i]) (by omega) (by omega), u64_id (n := x[i]) (by omega) (by omega), u64_id (n := c + out[i]) (by omega) (by omega), u64_id (n := c + out[i] + x[i]) (by omega) (by omega)]
      refine Ev.pre (low_f _ (by omega)) ?_
      simp only
      have := ih (i + 1) (out.set i ((c + out[i] + x[i]) % 4294967296)) ((c + out[i] + x[i]) / 4294967296) (by omega) (by simp; omega) (hlo.set _ _ (by omega) (by omega)) (by omega) (by omega) ?_
      · exact this
      · rw [V_set out i _ hlt, hp]
        rw [V_drop x i hxi] at hV
        have e : (c + out[i] + x[i]) = (c + out[i] + x[i]) % 4294967296 + 4294967296 * ((c + out[i] + x[i]) / 4294967296) := by omega
        generalize (c + out[i] + x[i]) % 4294967296 = lo at e ⊢
        generalize (c + out[i] + x[i]) / 4294967296 = hi' at e ⊢
        generalize (4294967296 : Int) ^ i = P at hV ⊢
        generalize V (x.drop (i + 1)) = R at hV ⊢
        generalize V out = W at hV ⊢
        grind
    · refine Ev.neg (by omega) ?_
      rw [u64_id (n := out[i]) (by omega) (by omega), u64_id (n := c + out[i]) (by omega) (by omega)]
      refine Ev.pre (low_f _ (by omega)) ?_
      simp only
      have := ih (i + 1) (out.set i ((c + out[i]) % 4294967296)) ((c + out[i]) / 4294967296) (by omega) (by simp; omega) (hlo.set _ _ (by omega) (by omega)) (by omega) (by omega) ?_
      · exact this
      · rw [V_set out i _ hlt, hp]
        rw [List.drop_eq_nil_of_le (by omega)] at hV ⊢
        have e : (c + out[i]) = (c + out[i]) % 4294967296 + 4294967296 * ((c + out[i]) / 4294967296) := by omega
        generalize (c + out[i]) % 4294967296 = lo at e ⊢
        generalize (c + out[i]) / 4294967296 = hi' at e ⊢
        generalize (4294967296 : Int) ^ i = P at hV ⊢
        generalize V out = W at hV ⊢
        simp only [V] at hV ⊢
        grind

theorem add_l1 (bs : List (List Int)) (j : Nat) (x : List Int) (hx : Lim x) (r : List Int × Int) (S : Int) (L : Nat) (hxL : x.length ≤ L) (hL : L + 1 ≤ 35184372087808)
    (cont : ∀ out : List Int, Lim out → out.length ≤ L + 1 → V out = S → Ev (fun k => nat_Add.l0 k out bs (bs.length : Int) ((j : Int) + 1)) r) (hj : (j : Int) + 1 ≤ 9223372036854775807) :
    ∀ (d : Nat) (out : List Int), x.length - out.length = d → out.length ≤ L → Lim out → V out + V x = S → Ev (fun k => nat_Add.l1 k out x bs (bs.length : Int) (j : Int)) r := by
  intro d
  induction d with
  | zero =>
    intro out hd hoL hlo hV
    refine Ev.step (fun k => by simp only [nat_Add.l1]; rfl) (Ev.neg (by omega) ?_)
    refine add_l2 bs j x hx r S out.length (by omega) (by omega) (fun o h1 h2 h3 => cont o h1 (by omega) h3) hj out.length 0 out 0 (by omega) rfl hlo (by omega) (by omega) ?_
    simp only [List.drop_zero, Int.pow_zero]
    omega
  | succ d ih =>
    intro out hd hoL hlo hV
    refine Ev.step (fun k => by simp only [nat_Add.l1]; rfl) (Ev.pos (by omega) (Ev.pos (by omega) ?_))
    refine ih (out ++ [0]) (by simp; omega) (by simp; omega) (hlo.app (Lim.cons (by decide) (by decide) Lim.nil)) ?_
    rw [V_snoc]
    omega

theorem add_l0 (bs : List (List Int)) (hbs : ∀ l ∈ bs, okL l) (hsh : short bs) (hbl : bs.length ≤ 5864062014634) : ∀ (d j : Nat) (out : List Int), j + d = bs.length → Lim out → out.length ≤ 4096 + j → Ev (fun k => nat_Add.l0 k out bs (bs.length : Int) (j : Int)) (ans (V out + sumV (bs.drop j))) := by
  intro d
  induction d with
  | zero =>
    intro j out hj hlo hol
    rw [List.drop_eq_nil_of_le (by omega)]
    refine Ev.step (fun k => by simp only [nat_Add.l0]; rfl) (Ev.neg (by omega) ?_)
    refine Ev.bind (told_f out hlo (by omega)) (Ev.const ?_)
    simp [sumV]
  | succ d ih =>
    intro j out hj hlo hol
    have hlt : j < bs.length := by omega
    have ho := hbs _ (List.getElem_mem hlt)
    have hs := hsh _ (List.getElem_mem hlt)
    refine Ev.step (fun k => by simp only [nat_Add.l0]; rfl) (Ev.pos (by omega) (Ev.pos (by omega) (Ev.pos (by omega) ?_)))
    rw [rdL_get bs j hlt]
    refine Ev.bind (trim_f _ (by have := ho.2; omega)) ?_
    rw [List.drop_eq_getElem_cons hlt]
    have htl : (trimL bs[j]).length ≤ 4096 := by rw [len_trim ho.1]; exact hs
    refine add_l1 bs j (trimL bs[j]) ho.1.trim _ (V out + V bs[j]) (4096 + j) (by omega) (by omega) (fun o h1 h2 h3 => ?_) (by omega) _ out rfl hol hlo (by rw [V_trim])
    have := ih (j + 1) o (by omega) h1 (by omega)
    rw [h3] at this
    refine Ev.res (Ev.congr (fun k => rfl) this) ?_
    simp only [sumV]
    congr 1
    omega

/-- The sum of all, or an error. -/
def addA (a : List Int) (bs : List (List Int)) : List Int × Int := if short [a] ∧ short bs then ans (V a + sumV bs) else ([], 2)
theorem add_f (a : List Int) (bs : List (List Int)) (ha : okL a) (hbs : ∀ l ∈ bs, okL l) (hbl : bs.length ≤ 5864062014634) : Ev (fun k => nat_Add.f k a bs) (addA a bs) := by
  refine Ev.congr (fun k => by unfold nat_Add.f; rfl) (Ev.bind (fits_f [a] (fun x hx => by simp at hx; exact hx ▸ ha) (by simp)) ?_)
  have err : ∀ h : ¬ (short [a] ∧ short bs), Ev (fun k => nat_Add.j0 k a bs true) (addA a bs) := by
    intro h
    refine Ev.step (fun k => by simp only [nat_Add.j0]; rfl) (Ev.pos (by trivial) (Ev.const ?_))
    rw [addA, if_neg h]
  by_cases h1 : short [a]
  · refine Ev.pos (by simpa using h1) (Ev.bind (fits_f bs hbs (by omega)) ?_)
    by_cases h2 : short bs
    · rw [decide_eq_true h2]
      refine Ev.step (fun k => by simp only [nat_Add.j0]; rfl) (Ev.neg (by simp) ?_)
      have htl : (trimL a).length ≤ 4096 := by rw [len_trim ha.1]; exact h1 a (by simp)
      refine Ev.bind (trim_f a (by have := ha.2; omega)) (Ev.pre (clone_f _ (by omega)) ?_)
      have := add_l0 bs hbs h2 hbl bs.length 0 (trimL a) (by omega) ha.1.trim (by omega)
      rw [V_trim] at this
      refine Ev.res this ?_
      rw [addA, if_pos ⟨h1, h2⟩]
      rfl
    · rw [decide_eq_false h2]
      exact err (fun h => h2 h.2)
  · refine Ev.neg (by simpa using h1) (err (fun h => h1 h.1))

theorem small_len {n : Int} (h0 : 0 ≤ n) (h : n < 4294967296) : len n ≤ 1 := (len_le h0).2 (by simpa using h)
theorem okL_one {n : Int} (h0 : 0 ≤ n) (h : n < 4294967296) : okL [n] := ⟨Lim.cons h0 h Lim.nil, by simp⟩
theorem awake_f : Ev (fun k => glossatorlaw01_awake.f k) true := by
  have h := add_f [2] [[3]] (okL_one (by decide) (by decide)) (fun l hl => by simp at hl; exact hl ▸ okL_one (by decide) (by decide)) (by simp)
  have s2 : short [[2]] := fun l hl => by simp at hl; rw [hl, V_one]; exact Nat.le_trans (small_len (by decide) (by decide)) (by decide)
  have s3 : short [[3]] := fun l hl => by simp at hl; rw [hl, V_one]; exact Nat.le_trans (small_len (by decide) (by decide)) (by decide)
  have e : addA [2] [[3]] = ([5], 0) := by
    rw [addA, if_pos ⟨s2, s3⟩, ans]
    have : V [2] + sumV [[3]] = 5 := by simp [V, sumV]
    rw [this, if_pos (Nat.le_trans (small_len (by decide) (by decide)) (by decide)), enc_pos (by decide)]
    rw [show (5 : Int) / 4294967296 = 0 by decide, enc_zero]
    rfl
  rw [e] at h
  refine Ev.congr (fun k => by unfold glossatorlaw01_awake.f; rfl) (Ev.bind h (Ev.const ?_))
  decide
theorem ans_len (n : Int) : (ans n).1.length ≤ 4096 := by
  unfold ans
  split
  · assumption
  · simp

/-- A limb; 0 beyond. -/
def lim (l : List Int) (j : Nat) : Int := l.getD j 0
theorem lim_in (l : List Int) (j : Nat) (h : j < l.length) : lim l j = l[j] := by
  unfold lim; rw [List.getD_eq_getElem?_getD, List.getElem?_eq_getElem h]; rfl
theorem lim_out (l : List Int) (j : Nat) (h : l.length ≤ j) : lim l j = 0 := by
  unfold lim; rw [List.getD_eq_getElem?_getD, List.getElem?_eq_none h]; rfl
theorem lim_bd {l : List Int} (h : Lim l) (j : Nat) : 0 ≤ lim l j ∧ lim l j < 4294967296 := by
  by_cases hj : j < l.length
  · rw [lim_in l j hj]; exact h.get j hj
  · rw [lim_out l j (by omega)]; omega
theorem V_lim (l : List Int) (j : Nat) : V (l.drop j) = lim l j + 4294967296 * V (l.drop (j + 1)) := by
  by_cases hj : j < l.length
  · rw [V_drop l j hj, lim_in l j hj]
  · rw [List.drop_eq_nil_of_le (by omega), List.drop_eq_nil_of_le (by omega), lim_out l j (by omega)]; rfl
theorem zeros_lim (n j : Nat) : lim (List.replicate n 0) j = 0 := by
  by_cases h : j < n
  · rw [lim_in _ _ (by simpa using h)]; simp
  · exact lim_out _ _ (by simp; omega)

/-- The library's table of how many bits a byte has, as its text holds it. -/
def tab8 : ByteArray := (⟨#[0, 1, 2, 2, 3, 3, 3, 3, 4, 4, 4, 4, 4, 4, 4, 4, 5, 5, 5, 5, 5, 5, 5, 5, 5, 5, 5, 5, 5, 5, 5, 5, 6, 6, 6, 6, 6, 6, 6, 6, 6, 6, 6, 6, 6, 6, 6, 6, 6, 6, 6, 6, 6, 6, 6, 6, 6, 6, 6, 6, 6, 6, 6, 6, 7, 7, 7, 7, 7, 7, 7, 7, 7, 7, 7, 7, 7, 7, 7, 7, 7, 7, 7, 7, 7, 7, 7, 7, 7, 7, 7, 7, 7, 7, 7, 7, 7, 7, 7, 7, 7, 7, 7, 7, 7, 7, 7, 7, 7, 7, 7, 7, 7, 7, 7, 7, 7, 7, 7, 7, 7, 7, 7, 7, 7, 7, 7, 7, 8, 8, 8, 8, 8, 8, 8, 8, 8, 8, 8, 8, 8, 8, 8, 8, 8, 8, 8, 8, 8, 8, 8, 8, 8, 8, 8, 8, 8, 8, 8, 8, 8, 8, 8, 8, 8, 8, 8, 8, 8, 8, 8, 8, 8, 8, 8, 8, 8, 8, 8, 8, 8, 8, 8, 8, 8, 8, 8, 8, 8, 8, 8, 8, 8, 8, 8, 8, 8, 8, 8, 8, 8, 8, 8, 8, 8, 8, 8, 8, 8, 8, 8, 8, 8, 8, 8, 8, 8, 8, 8, 8, 8, 8, 8, 8, 8, 8, 8, 8, 8, 8, 8, 8, 8, 8, 8, 8, 8, 8, 8, 8, 8, 8, 8, 8, 8, 8, 8, 8, 8, 8, 8, 8, 8, 8, 8, 8]⟩ : ByteArray)
theorem tab8_ok : ∀ i : Nat, i < 256 → (i = 0 ∧ bt tab8 (i : Int) = 0) ∨ (1 ≤ bt tab8 (i : Int) ∧ bt tab8 (i : Int) ≤ 8 ∧ (2 : Int) ^ (bt tab8 (i : Int) - 1).toNat ≤ i ∧ (i : Int) < 2 ^ ((bt tab8 (i : Int) - 1).toNat + 1)) := by decide +kernel
theorem tab8_bl (i : Int) (h0 : 0 ≤ i) (h1 : i < 256) : bt ((⟨#[0, 1, 2, 2, 3, 3, 3, 3, 4, 4, 4, 4, 4, 4, 4, 4, 5, 5, 5, 5, 5, 5, 5, 5, 5, 5, 5, 5, 5, 5, 5, 5, 6, 6, 6, 6, 6, 6, 6, 6, 6, 6, 6, 6, 6, 6, 6, 6, 6, 6, 6, 6, 6, 6, 6, 6, 6, 6, 6, 6, 6, 6, 6, 6, 7, 7, 7, 7, 7, 7, 7, 7, 7, 7, 7, 7, 7, 7, 7, 7, 7, 7, 7, 7, 7, 7, 7, 7, 7, 7, 7, 7, 7, 7, 7, 7, 7, 7, 7, 7, 7, 7, 7, 7, 7, 7, 7, 7, 7, 7, 7, 7, 7, 7, 7, 7, 7, 7, 7, 7, 7, 7, 7, 7, 7, 7, 7, 7, 8, 8, 8, 8, 8, 8, 8, 8, 8, 8, 8, 8, 8, 8, 8, 8, 8, 8, 8, 8, 8, 8, 8, 8, 8, 8, 8, 8, 8, 8, 8, 8, 8, 8, 8, 8, 8, 8, 8, 8, 8, 8, 8, 8, 8, 8, 8, 8, 8, 8, 8, 8, 8, 8, 8, 8, 8, 8, 8, 8, 8, 8, 8, 8, 8, 8, 8, 8, 8, 8, 8, 8, 8, 8, 8, 8, 8, 8, 8, 8, 8, 8, 8, 8, 8, 8, 8, 8, 8, 8, 8, 8, 8, 8, 8, 8, 8, 8, 8, 8, 8, 8, 8, 8, 8, 8, 8, 8, 8, 8, 8, 8, 8, 8, 8, 8, 8, 8, 8, 8, 8, 8, 8, 8, 8, 8, 8, 8]⟩ : ByteArray)) i = bl i := by
  show bt tab8 i = bl i
  obtain ⟨n, rfl⟩ := Int.eq_ofNat_of_zero_le h0
  rcases tab8_ok n (by omega) with ⟨a, b⟩ | ⟨a, b, c, d⟩
  · subst a
    rw [b]
    exact (congrArg (fun z : Nat => (z : Int)) bl_zero).symm
  · have := bl_of c d
    omega
theorem wrap_two (c n : Int) (c0 : 0 ≤ c) (n0 : 0 ≤ n) (h : c + n ≤ 9223372036854775807) : wrap64 (c + wrap64 n) = c + n := by
  rw [wrap_id (x := n) (by omega) (by omega), wrap_id (by omega) h]
theorem bl_shift (x : Int) (m : Nat) (h : (2 : Int) ^ m ≤ x) : (bl x : Int) = m + bl (x / 2 ^ m) := by
  have pos : (0 : Int) < 2 ^ m := Int.pow_pos (by decide)
  rw [bl_div (by omega)]
  obtain ⟨k, hk, _⟩ := bl_ge (n := x) (by omega)
  have : ¬ bl x ≤ m := fun hq => by have := (bl_le (n := x) (k := m) (by omega)).1 hq; omega
  omega
theorem len32_f (x : Int) (h0 : 0 ≤ x) (h1 : x < 4294967296) : bits_Len32.f x = some (bl x : Int) := by
  unfold bits_Len32.f
  by_cases c1 : x ≥ 65536
  · have e1 := bl_shift x 16 c1
    rw [show (2 : Int) ^ 16 = 65536 by decide] at e1
    rw [if_pos c1]
    by_cases c2 : x / 65536 ≥ 256
    · have e2 := bl_shift (x / 65536) 8 c2
      rw [show (2 : Int) ^ 8 = 256 by decide] at e2
      rw [if_pos c2, show (x / 65536) / 256 % 256 = (x / 65536) / 256 by omega, if_pos (by omega), if_pos (by omega), tab8_bl _ (by omega) (by omega)]
      have : bl ((x / 65536) / 256) ≤ 8 := (bl_le (by omega)).2 (by show _ < (256 : Int); omega)
      rw [wrap_two _ _ (by decide) (by omega) (by omega)]
      congr 1; omega
    · rw [if_neg c2, show (x / 65536) % 256 = x / 65536 by omega, if_pos (by omega), if_pos (by omega), tab8_bl _ (by omega) (by omega)]
      have : bl (x / 65536) ≤ 8 := (bl_le (by omega)).2 (by show _ < (256 : Int); omega)
      rw [wrap_two _ _ (by decide) (by omega) (by omega)]
      congr 1; omega
  · rw [if_neg c1]
    by_cases c2 : x ≥ 256
    · have e2 := bl_shift x 8 c2
      rw [show (2 : Int) ^ 8 = 256 by decide] at e2
      rw [if_pos c2, show x / 256 % 256 = x / 256 by omega, if_pos (by omega), if_pos (by omega), tab8_bl _ (by omega) (by omega)]
      have : bl (x / 256) ≤ 8 := (bl_le (by omega)).2 (by show _ < (256 : Int); omega)
      rw [wrap_two _ _ (by decide) (by omega) (by omega)]
      congr 1; omega
    · rw [if_neg c2, show x % 256 = x by omega, if_pos (by omega), if_pos (by omega), tab8_bl _ (by omega) (by omega)]
      have : bl x ≤ 8 := (bl_le (by omega)).2 (by show _ < (256 : Int); omega)
      rw [wrap_two _ _ (by decide) (by omega) (by omega)]
      congr 1; omega
theorem bl32 {x : Int} (h0 : 0 ≤ x) (h1 : x < 4294967296) : bl x ≤ 32 := (bl_le h0).2 h1
theorem bits_f (a : List Int) (ha : okL a) : Ev (fun k => nat_Bits.f k a) (bl (V a) : Int) := by
  refine Ev.congr (fun k => by unfold nat_Bits.f; rfl) (Ev.bind (trim_f a (by have := ha.2; omega)) ?_)
  have hl := okL_trim' ha
  by_cases h : (trimL a).length = 0
  · refine Ev.pos (by omega) (Ev.const ?_)
    have : trimL a = [] := List.eq_nil_of_length_eq_zero h
    rw [← V_trim, this]
    simp [V, bl_zero]
  · have ht := trim_top a (by omega)
    have hb := bl_V (trimL a) ha.1.trim (by omega) ht
    have hg := ha.1.trim.get ((trimL a).length - 1) (by omega)
    have h32 := bl32 hg.1 hg.2
    refine Ev.neg (by omega) ?_
    rw [wrap_id (x := ((trimL a).length : Int) - 1) (by omega) (by omega)]
    refine Ev.pos (by omega) (Ev.pos (by omega) ?_)
    rw [show ((trimL a).length : Int) - 1 = (((trimL a).length - 1 : Nat) : Int) by omega, rd_get _ _ (by omega)]
    refine Ev.pre (len32_f _ hg.1 hg.2) (Ev.const ?_)
    rw [wrap_id (x := 32 * (((trimL a).length - 1 : Nat) : Int)) (by omega) (by omega), wrap_id (by omega) (by omega), ← V_trim a, hb]
    congr 1

theorem or32 (x y : Int) (s : Nat) (hs : s ≤ 32) (x0 : 0 ≤ x) (x1 : x < 2 ^ s) (y0 : 0 ≤ y) (y1 : y < 4294967296) (hy : y % 2 ^ s = 0) : Go.bits .or .u32 x y = x + y := by
  have hx : x < 4294967296 := Int.lt_of_lt_of_le x1 (by
    have h := Nat.pow_le_pow_right (n := 2) (by decide) hs
    have h2 : ((2 ^ s : Nat) : Int) ≤ ((2 ^ 32 : Nat) : Int) := Int.ofNat_le.2 h
    rw [Int.natCast_pow] at h2
    exact h2)
  have h := bits_join .u32 32 (by decide) (fun n h0 h1 => by rw [IntKind.wrap_u32]; omega) s y x y0 hy y1 x0 x1 hx
  have hc : Go.bits .or .u32 x y = Go.bits .or .u32 y x := by
    unfold Go.bits
    simp only
    rw [BitVec.or_comm]
  rw [hc, h]; omega
theorem left_alg (P D x lo hi W T : Int) (e : x * D = lo + 4294967296 * hi) (hT : T = W + P * x) : W * D + P * lo + P * 4294967296 * hi = T * D := by grind
/-- A shift to the left within a limb. -/
theorem left_l0 (a : List Int) (ha : Lim a) (s : Nat) (hs : s < 32) (L : Nat) (hL : a.length < L) (hL2 : L ≤ 35184372087808) : ∀ (d i : Nat) (out : List Int), i + d = a.length → out.length = L → Lim out → (∀ j, i < j → lim out j = 0) → lim out i < 2 ^ s → V out = V (a.take i) * 2 ^ s →
    ∃ r, Ev (fun k => nat_left.l0 k (s : Int) out a (a.length : Int) (i : Int)) r ∧ Lim r ∧ r.length = L ∧ V r = V a * 2 ^ s := by
  have hD : (0 : Int) < 2 ^ s := Int.pow_pos (by decide)
  have hD2 : (2 : Int) ^ s * 2 ^ (32 - s) = 4294967296 := by
    rw [← Int.pow_add, show s + (32 - s) = 32 by omega]; decide
  have hE : (0 : Int) < 2 ^ (32 - s) := Int.pow_pos (by decide)
  have hD3 : (2 : Int) ^ s ≤ 2147483648 := by
    have h := Nat.pow_le_pow_right (n := 2) (by decide) (show s ≤ 31 by omega)
    have h2 : ((2 ^ s : Nat) : Int) ≤ ((2 ^ 31 : Nat) : Int) := Int.ofNat_le.2 h
    rw [Int.natCast_pow] at h2
    exact h2
  intro d
  induction d with
  | zero =>
    intro i out hi ho hlo _ _ hV
    refine ⟨out, Ev.step (fun k => by simp only [nat_left.l0]; rfl) (Ev.neg (by omega) (Ev.const rfl)), hlo, ho, ?_⟩
    rw [hV, List.take_of_length_le (by omega)]
  | succ d ih =>
    intro i out hi ho hlo hz hc hV
    have hlt : i < a.length := by omega
    have hlo2 : i < out.length := by omega
    have hg := ha.get i hlt
    have hgo := hlo.get i hlo2
    rw [lim_in out i hlo2] at hc
    obtain ⟨v, hv⟩ : ∃ v : Int, v = a[i] * 2 ^ s := ⟨_, rfl⟩
    have v0 : 0 ≤ v := by rw [hv]; exact Int.mul_nonneg hg.1 (by omega)
    have v1 : v < 4294967296 * 2 ^ s := by rw [hv]; exact Int.mul_lt_mul_of_pos_right hg.2 hD
    have v2 : v < 18446744073709551616 := by omega
    have hsh : shl .u64 (IntKind.u64.wrap a[i]) (s : Int) = v := by
      unfold shl
      have e : min (s : Int).toNat IntKind.u64.bits = s := by
        have : IntKind.u64.bits = 64 := rfl
        omega
      rw [e, u64_id (n := a[i]) (by omega) (by omega), ← hv, u64_id v0 v2]
    have hdiv : v % 4294967296 % 2 ^ s = 0 := by
      have h1 : v % 4294967296 % 2 ^ s = v % 2 ^ s := Int.emod_emod_of_dvd v ⟨2 ^ (32 - s), hD2.symm⟩
      rw [h1, hv, Int.mul_emod_left]
    have hhi : v / 4294967296 < 2 ^ s := Int.ediv_lt_of_lt_mul (by decide) (by rw [Int.mul_comm]; exact v1)
    have hlow : v % 4294967296 + 2 ^ s ≤ 4294967296 := by
      have h1 := Int.mul_ediv_add_emod (v % 4294967296) (2 ^ s)
      rw [hdiv, Int.add_zero] at h1
      have h2 : v % 4294967296 / 2 ^ s < 2 ^ (32 - s) := Int.ediv_lt_of_lt_mul hD (by rw [Int.mul_comm, hD2]; omega)
      have h3 : (2 : Int) ^ s * (v % 4294967296 / 2 ^ s + 1) ≤ 2 ^ s * 2 ^ (32 - s) := Int.mul_le_mul_of_nonneg_left (by omega) (by omega)
      rw [hD2, Int.mul_add, h1] at h3
      omega
    have hor : Go.bits .or .u32 out[i] (v % 4294967296) = out[i] + v % 4294967296 := or32 _ _ s (by omega) hgo.1 hc (by omega) (by omega) hdiv
    obtain ⟨r, hr, h1, h2, h3⟩ := ih (i + 1) ((out.set i (out[i] + v % 4294967296)).set (i + 1) (v / 4294967296)) (by omega) (by simp [ho]) ((hlo.set _ _ (by omega) (by omega)).set _ _ (by omega) (by omega)) (fun j hj => by
        unfold lim
        rw [List.getD_eq_getElem?_getD, List.getElem?_set_ne (by omega), List.getElem?_set_ne (by omega)]
        have := hz j (by omega)
        unfold lim at this
        rwa [List.getD_eq_getElem?_getD] at this) (by rw [lim_in _ _ (by simp; omega), List.getElem_set_self]; exact hhi) (by
        have hz1 := hz (i + 1) (by omega)
        have hi1 : i + 1 < out.length := by omega
        rw [lim_in out _ hi1] at hz1
        rw [V_set _ _ _ (by simp; omega), V_set _ _ _ hlo2, List.getElem_set_ne (by omega), hz1, hV, V_take_succ a i hlt, Int.pow_succ]
        have := left_alg (4294967296 ^ i) (2 ^ s) a[i] (v % 4294967296) (v / 4294967296) (V (a.take i)) _ (by rw [← hv]; omega) rfl
        rw [← this]
        generalize (4294967296 : Int) ^ i = P
        generalize V (a.take i) * 2 ^ s = W
        grind)
    refine ⟨r, ?_, h1, h2, h3⟩
    refine Ev.step (fun k => by simp only [nat_left.l0]; rfl) (Ev.pos (by omega) (Ev.pos (by omega) (Ev.pos (by omega) (Ev.pos (by omega) (Ev.pos (by omega) (Ev.pre rfl ?_))))))
    rw [rd_get a i hlt, rd_get out i hlo2, hsh, hor, wrap_id (x := (i : Int) + 1) (by omega) (by omega), Int.toNat_natCast, show v / 4294967296 % 4294967296 = v / 4294967296 by omega, show ((i : Int) + 1).toNat = i + 1 by omega]
    exact Ev.pos (by omega) (Ev.pos (by omega) hr)
theorem left_f (a : List Int) (ha : Lim a) (hla : a.length ≤ 4096) (s : Nat) (hs : s < 32) : ∃ r, Ev (fun k => nat_left.f k a (s : Int) 1) r ∧ Lim r ∧ r.length = a.length + 1 ∧ V r = V a * 2 ^ s := by
  obtain ⟨r, hr, h1, h2, h3⟩ := left_l0 a ha s hs (a.length + 1) (by omega) (by omega) a.length 0 (List.replicate (a.length + 1) 0) (by omega) (by simp) (Lim.zeros _) (fun j _ => zeros_lim _ j) (by rw [zeros_lim]; exact Int.pow_pos (by decide)) (by rw [V_zeros]; simp [V])
  refine ⟨r, ?_, h1, h2, h3⟩
  refine Ev.congr (fun k => by unfold nat_left.f; rfl) ?_
  rw [wrap_id (x := (a.length : Int) + 1) (by omega) (by omega), show ((a.length : Int) + 1).toNat = a.length + 1 by omega]
  exact Ev.pos (by omega) (Ev.pos (by omega) hr)
theorem pow_split (n : Nat) : (4294967296 : Int) ^ (n / 32) * 2 ^ (n % 32) = 2 ^ n := by
  rw [pow32, ← Int.pow_add, show 32 * (n / 32) + n % 32 = n by omega]
/-- Times two to a power, or an error. -/
def shlA (a : List Int) (n : Int) : List Int × Int := if short [a] then (if n < 0 then ([], 1) else if V a = 0 then ([], 0) else if (bl (V a) : Int) + n > 131072 then ([], 2) else (enc (V a * 2 ^ n.toNat), 0)) else ([], 2)
theorem tdiv32 (n : Int) (h : 0 ≤ n) : Int.tdiv n 32 = ((n.toNat / 32 : Nat) : Int) := by rw [Int.tdiv_eq_ediv_of_nonneg h]; omega
theorem tmod32 (n : Int) (h : 0 ≤ n) : Int.tmod n 32 = ((n.toNat % 32 : Nat) : Int) := by rw [Int.tmod_eq_emod_of_nonneg h]; omega
theorem shl_f (a : List Int) (n : Int) (ha : okL a) (hn : n ≤ 9223372036854775807) : Ev (fun k => nat_Shl.f k a n) (shlA a n) := by
  refine Ev.congr (fun k => by unfold nat_Shl.f; rfl) (Ev.bind (fits_f [a] (fun x hx => by simp at hx; exact hx ▸ ha) (by simp)) ?_)
  have hv := V_nonneg ha.1
  unfold shlA
  by_cases h : short [a]
  · rw [if_pos h]
    refine Ev.pos (by simpa using h) ?_
    have hs := h a (by simp)
    have hbl := (len_bl hv).1 hs
    by_cases h1 : n < 0
    · rw [if_pos h1]; exact Ev.pos h1 (Ev.const rfl)
    · rw [if_neg h1]
      refine Ev.neg h1 (Ev.bind (bits_f a ha) ?_)
      by_cases h2 : V a = 0
      · rw [if_pos h2]
        exact Ev.pos (by rw [h2, bl_zero]; rfl) (Ev.const rfl)
      · rw [if_neg h2]
        have hb0 : ¬ bl (V a) = 0 := fun q => h2 ((bl_eq_zero hv).1 q)
        refine Ev.neg (by omega) (Ev.bind (bits_f a ha) ?_)
        rw [wrap_id (x := 131072 - (bl (V a) : Int)) (by omega) (by omega)]
        by_cases h3 : (bl (V a) : Int) + n > 131072
        · rw [if_pos h3]
          exact Ev.pos (by omega) (Ev.const rfl)
        · rw [if_neg h3]
          refine Ev.neg (by omega) ?_
          rw [tdiv32 n (by omega), tmod32 n (by omega), wrap_id (by omega) (by omega), Int.toNat_natCast]
          have htl : (trimL a).length ≤ 4096 := by rw [len_trim ha.1]; exact hs
          obtain ⟨r, hr, q1, q2, q3⟩ := left_f (trimL a) ha.1.trim htl (n.toNat % 32) (Nat.mod_lt _ (by decide))
          refine Ev.pos (by omega) (Ev.pos (by omega) (Ev.pre rfl (Ev.bind (trim_f a (by have := ha.2; omega)) (Ev.bind hr ?_))))
          refine Ev.pos (by simp; omega) (Ev.bind (told_f _ ((Lim.zeros _).app q1) (by simp; omega)) (Ev.const ?_))
          have e : V (List.replicate (n.toNat / 32) 0 ++ r) = V a * 2 ^ n.toNat := by
            rw [V_app, V_zeros, List.length_replicate, q3, V_trim, ← pow_split n.toNat]
            generalize (4294967296 : Int) ^ (n.toNat / 32) = P
            grind
          have hpos : 0 < V a := by omega
          have hl : len (V a * 2 ^ n.toNat) ≤ 4096 := (len_bl (by rw [← e]; exact V_nonneg ((Lim.zeros _).app q1))).2 (by rw [bl_mul hpos]; omega)
          rw [e, ans, if_pos hl]
  · rw [if_neg h]
    exact Ev.neg (by simpa using h) (Ev.const rfl)

theorem or64h (x y : Int) (x0 : 0 ≤ x) (x1 : x < 4294967296) (y0 : 0 ≤ y) (y1 : y < 4294967296) : Go.bits .or .u64 x (y * 4294967296) = x + 4294967296 * y := by
  have h := bits_join .u64 64 (by decide) (fun n h0 h1 => u64_id h0 h1) 32 (y * 4294967296) x (by omega) (by omega) (by omega) x0 x1 (by omega)
  have hc : Go.bits .or .u64 x (y * 4294967296) = Go.bits .or .u64 (y * 4294967296) x := by
    unfold Go.bits
    simp only
    rw [BitVec.or_comm]
  rw [hc, h]; omega
theorem shr64 (x : Int) (s : Nat) (hs : s < 32) : shr .u64 x (s : Int) = x / 2 ^ s := by
  unfold shr
  have e : min (s : Int).toNat IntKind.u64.bits = s := by
    have : IntKind.u64.bits = 64 := rfl
    omega
  rw [e]
theorem sh_get (D : Int) (l : List Int) (i : Nat) (h : i < (sh D l).length) : (sh D l)[i] = (lim l i + 4294967296 * lim l (i + 1)) / D % 4294967296 := by
  induction l generalizing i with
  | nil => simp [sh] at h
  | cons x l ih =>
    cases i with
    | zero =>
      simp only [sh, List.getElem_cons_zero]
      have : lim (x :: l) (0 + 1) = l.headD 0 := by cases l <;> rfl
      rw [this]
      rfl
    | succ i =>
      simp only [sh, List.getElem_cons_succ]
      rw [ih i (by simpa [sh] using h)]
      rfl
theorem take_set (l : List Int) (i : Nat) (x : Int) (h : i < l.length) : (l.set i x).take (i + 1) = l.take i ++ [x] := by
  rw [List.take_succ_eq_append_getElem (by simpa using h), List.take_set_of_le (Nat.le_refl _), List.getElem_set_self]
theorem shr_l0 (a : List Int) (ha : Lim a) (n : Int) (hn : 0 ≤ n) (hla : a.length ≤ 4096) : ∀ (d i : Nat) (out : List Int), i + d = a.length → out.length = a.length → out.take i = (sh (2 ^ (n.toNat % 32)) a).take i →
    Ev (fun k => nat_Shr.l0 k a n out a (a.length : Int) (i : Int)) (ans (V a / 2 ^ (n.toNat % 32))) := by
  have hE : (0 : Int) < 2 ^ (32 - n.toNat % 32) := Int.pow_pos (by decide)
  have hD : (0 : Int) < 2 ^ (n.toNat % 32) := Int.pow_pos (by decide)
  have hB : (4294967296 : Int) = 2 ^ (n.toNat % 32) * 2 ^ (32 - n.toNat % 32) := by
    rw [← Int.pow_add, show n.toNat % 32 + (32 - n.toNat % 32) = 32 by omega]; decide
  intro d
  induction d with
  | zero =>
    intro i out hi ho ht
    rw [List.take_of_length_le (by omega), List.take_of_length_le (by rw [sh_len]; omega)] at ht
    subst ht
    have := told_f (sh (2 ^ (n.toNat % 32)) a) (sh_lim _ a) (by rw [sh_len]; omega)
    rw [V_sh _ _ hD hE hB a ha] at this
    exact Ev.step (fun k => by simp only [nat_Shr.l0]; rfl) (Ev.neg (by omega) (Ev.bind this (Ev.const rfl)))
  | succ d ih =>
    intro i out hi ho ht
    have hlt : i < a.length := by omega
    have hg := ha.get i hlt
    have hnext : ∀ v : Int, v = (sh (2 ^ (n.toNat % 32)) a)[i]'(by rw [sh_len]; exact hlt) → (out.set i v).take (i + 1) = (sh (2 ^ (n.toNat % 32)) a).take (i + 1) := by
      intro v hv
      rw [take_set _ _ _ (by omega), ht, hv, ← List.take_succ_eq_append_getElem]
    refine Ev.step (fun k => by simp only [nat_Shr.l0]; rfl) (Ev.pos (by omega) (Ev.pos (by omega) (Ev.pos (by omega) ?_)))
    rw [rd_get a i hlt, wrap_id (x := (i : Int) + 1) (by omega) (by omega), tmod32 n hn, shr64 _ _ (Nat.mod_lt _ (by decide)), shr64 _ _ (Nat.mod_lt _ (by decide)), Int.toNat_natCast, u64_id (n := a[i]) (by omega) (by omega)]
    by_cases h1 : i + 1 < a.length
    · have hg1 := ha.get (i + 1) h1
      rw [show (i : Int) + 1 = ((i + 1 : Nat) : Int) by omega, rd_get a (i + 1) h1, u64_id (n := a[i + 1]) (by omega) (by omega), u64_id (n := a[i + 1] * 4294967296) (by omega) (by omega), or64h _ _ hg.1 hg.2 hg1.1 hg1.2]
      refine Ev.pos (by omega) (Ev.pos (by omega) (Ev.pos (by omega) (Ev.pos (by omega) (ih (i + 1) _ (by omega) (by simp [ho]) (hnext _ ?_)))))
      rw [sh_get, lim_in a i hlt, lim_in a (i + 1) h1]
    · rw [show (i : Int) + 1 = ((i + 1 : Nat) : Int) by omega]
      refine Ev.neg (by omega) (Ev.pos (by omega) (Ev.pos (by omega) (ih (i + 1) _ (by omega) (by simp [ho]) (hnext _ ?_))))
      rw [sh_get, lim_in a i hlt, lim_out a (i + 1) (by omega)]
      simp
/-- By two to a power, or an error. -/
def shrA (a : List Int) (n : Int) : List Int × Int := if short [a] then (if n < 0 then ([], 1) else (enc (V a / 2 ^ n.toNat), 0)) else ([], 2)
theorem drop_div (a : List Int) (ha : Lim a) (q : Nat) (h : q ≤ a.length) : V (a.drop q) = V a / 4294967296 ^ q := by
  have e := V_split a q h
  have h1 := V_lt (ha.take q)
  rw [List.length_take, Nat.min_eq_left h] at h1
  have h2 := V_nonneg (ha.take q)
  exact (div_of (n := V a) (r := V (a.take q)) (by rw [e]; omega) h2 h1).symm
theorem div_split (v : Int) (n : Nat) : v / 4294967296 ^ (n / 32) / 2 ^ (n % 32) = v / 2 ^ n := by
  rw [Int.ediv_ediv_of_nonneg (Int.le_of_lt (Int.pow_pos (by decide))), pow_split]
theorem shr_f (a : List Int) (n : Int) (ha : okL a) (hn : n ≤ 9223372036854775807) : Ev (fun k => nat_Shr.f k a n) (shrA a n) := by
  refine Ev.congr (fun k => by unfold nat_Shr.f; rfl) (Ev.bind (fits_f [a] (fun x hx => by simp at hx; exact hx ▸ ha) (by simp)) ?_)
  have hv := V_nonneg ha.1
  unfold shrA
  by_cases h : short [a]
  · rw [if_pos h]
    refine Ev.pos (by simpa using h) ?_
    have hs := h a (by simp)
    by_cases h1 : n < 0
    · rw [if_pos h1]; exact Ev.pos h1 (Ev.const rfl)
    · rw [if_neg h1]
      have htl : (trimL a).length ≤ 4096 := by rw [len_trim ha.1]; exact hs
      refine Ev.neg h1 (Ev.bind (trim_f a (by have := ha.2; omega)) ?_)
      rw [tdiv32 n (by omega), wrap_id (by omega) (by omega), Int.toNat_natCast]
      by_cases h2 : (trimL a).length ≤ n.toNat / 32
      · refine Ev.pos (by omega) (Ev.const ?_)
        have hz : V a / 2 ^ n.toNat = 0 := by
          apply Int.ediv_eq_zero_of_lt hv
          have h3 := V_lt ha.1.trim
          rw [V_trim, pow32] at h3
          have h4 : (2 : Int) ^ (32 * (trimL a).length) ≤ 2 ^ n.toNat := by
            have h := Nat.pow_le_pow_right (n := 2) (by decide) (show 32 * (trimL a).length ≤ n.toNat by omega)
            have h2 : ((2 ^ (32 * (trimL a).length) : Nat) : Int) ≤ ((2 ^ n.toNat : Nat) : Int) := Int.ofNat_le.2 h
            rw [Int.natCast_pow, Int.natCast_pow] at h2
            exact h2
          omega
        rw [hz, enc_zero]
      · refine Ev.neg (by omega) (Ev.pos (by omega) (Ev.pos (by omega) (Ev.pre rfl ?_)))
        have hd : ((trimL a).drop (n.toNat / 32)).length = (trimL a).length - n.toNat / 32 := by simp
        refine Ev.pos (by omega) (Ev.pos (by omega) ?_)
        have := shr_l0 ((trimL a).drop (n.toNat / 32)) (ha.1.trim.drop _) n (by omega) (by omega) ((trimL a).drop (n.toNat / 32)).length 0 (List.replicate ((trimL a).drop (n.toNat / 32)).length 0) (by omega) (by simp) (by simp)
        rw [drop_div _ ha.1.trim _ (by omega), V_trim, div_split] at this
        refine Ev.res this ?_
        have hl : len (V a / 2 ^ n.toNat) ≤ len (V a) := len_mono (Int.ediv_nonneg hv (Int.le_of_lt (Int.pow_pos (by decide)))) (Int.ediv_le_self _ hv)
        rw [ans, if_pos (by omega)]
  · rw [if_neg h]
    exact Ev.neg (by simpa using h) (Ev.const rfl)

theorem bytes_l0 (a : List Int) (ha : okL a) (n : Nat) (hn : n ≤ 4 * a.length) : ∀ (d i : Nat) (out : List Int), i + d = n → out.length = n → ∃ r, Ev (fun k => nat_Bytes.l0 k a (n : Int) out (n : Int) (i : Int)) r ∧ r.length = n := by
  have hal := ha.2
  intro d
  induction d with
  | zero =>
    intro i out hi ho
    exact ⟨out, Ev.step (fun k => by simp only [nat_Bytes.l0]; rfl) (Ev.neg (by omega) (Ev.const rfl)), ho⟩
  | succ d ih =>
    intro i out hi ho
    have e1 : Int.tdiv (i : Int) 4 = ((i / 4 : Nat) : Int) := by rw [Int.tdiv_eq_ediv_of_nonneg (by omega)]; omega
    have e2 : Int.tmod (i : Int) 4 = ((i % 4 : Nat) : Int) := by rw [Int.tmod_eq_emod_of_nonneg (by omega)]; omega
    obtain ⟨r, hr, hl⟩ := ih (i + 1) (out.set ((n : Int) - 1 - (i : Int)).toNat ((shr .u32 (rd a ((i / 4 : Nat) : Int)) (8 * ((i % 4 : Nat) : Int))) % 256)) (by omega) (by simp [ho])
    refine ⟨r, ?_, hl⟩
    refine Ev.step (fun k => by simp only [nat_Bytes.l0]; rfl) (Ev.pos (by omega) ?_)
    rw [e1, e2, wrap_id (x := ((i / 4 : Nat) : Int)) (by omega) (by omega), wrap_id (x := 8 * ((i % 4 : Nat) : Int)) (by omega) (by omega), wrap_id (x := (n : Int) - 1) (by omega) (by omega), wrap_id (x := (n : Int) - 1 - (i : Int)) (by omega) (by omega), wrap_id (x := (i : Int) + 1) (by omega) (by omega)]
    exact Ev.pos (by omega) (Ev.pos (by omega) (Ev.pos (by omega) (Ev.pos (by omega) (Ev.pos (by omega) hr))))
theorem bytes_len (a : List Int) (ha : okL a) : ∃ r, Ev (fun k => nat_Bytes.f k a) r ∧ r.length = (bl (V a) + 7) / 8 := by
  have hal := ha.2
  have hv := V_nonneg ha.1
  have h1 : bl (V a) ≤ 32 * a.length := (len_bl hv).1 (by rw [← len_trim ha.1]; exact trim_len a)
  obtain ⟨r, hr, hl⟩ := bytes_l0 a ha ((bl (V a) + 7) / 8) (by omega) ((bl (V a) + 7) / 8) 0 (List.replicate ((bl (V a) + 7) / 8) 0) (by omega) (by simp)
  refine ⟨r, ?_, hl⟩
  refine Ev.congr (fun k => by unfold nat_Bytes.f; rfl) (Ev.bind (bits_f a ha) ?_)
  have e : Int.tdiv ((bl (V a) : Int) + 7) 8 = (((bl (V a) + 7) / 8 : Nat) : Int) := by rw [Int.tdiv_eq_ediv_of_nonneg (by omega)]; omega
  rw [wrap_id (x := (bl (V a) : Int) + 7) (by omega) (by omega), e, wrap_id (by omega) (by omega), Int.toNat_natCast]
  refine Ev.pos (by omega) (Ev.pos (by omega) (Ev.pre rfl ?_))
  rw [List.length_replicate]
  exact hr
theorem NatPowers : glossatorlaw01_NatPowers.Pure := by
  intro a n _ hza hwa hn
  have ha := okL.of hwa hza
  have hn2 : 0 ≤ n ∧ n ≤ 65535 := by
    simp [Lit.wf, IntKind.min, IntKind.max, IntKind.signed, IntKind.bits] at hn; omega
  have va := V_nonneg ha.1
  refine Ev.rounds (Ev.congr (fun k => by unfold glossatorlaw01_NatPowers.f; rfl) ?_)
  by_cases h1 : (a.length : Int) > 1000
  · exact Ev.pos h1 (Ev.bind awake_f (Ev.const rfl))
  · refine Ev.neg h1 (Ev.bind (bits_f a ha) ?_)
    obtain ⟨m, hm, hm2⟩ : ∃ m : Nat, Int.tmod n 5000 = (m : Int) ∧ m < 5000 := ⟨(n % 5000).toNat, by rw [Int.tmod_eq_emod_of_nonneg hn2.1]; omega, by omega⟩
    rw [hm, wrap_id (x := (m : Int)) (by omega) (by omega)]
    have la : len (V a) ≤ 1000 := by rw [← len_trim ha.1]; exact Nat.le_trans (trim_len a) (by omega)
    have hb := (len_bl va).1 la
    have sa : short [a] := fun x hx => by simp at hx; rw [hx]; omega
    have hx : ∃ x : Int, 0 ≤ x ∧ shlA a (m : Int) = (enc x, 0) ∧ (bl x : Int) = (if (bl (V a) : Int) > 0 then (bl (V a) : Int) + m else 0) ∧ len x ≤ 2000 := by
      unfold shlA
      rw [if_pos sa, if_neg (by omega)]
      by_cases hz : V a = 0
      · rw [if_pos hz]
        exact ⟨0, by omega, by rw [enc_zero], by rw [hz, bl_zero]; rfl, by rw [len_zero]; omega⟩
      · have hp : 0 < V a := by omega
        have hbz : ¬ bl (V a) = 0 := fun q => hz ((bl_eq_zero va).1 q)
        rw [if_neg hz, if_neg (by omega), Int.toNat_natCast]
        have hp2 : 0 < V a * 2 ^ m := Int.mul_pos hp (Int.pow_pos (by decide))
        refine ⟨V a * 2 ^ m, by omega, rfl, ?_, ?_⟩
        · rw [if_pos (by omega), bl_mul hp]; omega
        · rw [len_bl (by omega), bl_mul hp]; omega
    obtain ⟨x, x0, hx1, hx2, hx3⟩ := hx
    have hy : shrA a (m : Int) = (enc (V a / 2 ^ m), 0) := by
      unfold shrA
      rw [if_pos sa, if_neg (by omega), Int.toNat_natCast]
    have y0 : 0 ≤ V a / 2 ^ m := Int.ediv_nonneg va (Int.le_of_lt (Int.pow_pos (by decide)))
    have hy3 : len (V a / 2 ^ m) ≤ 1000 := Nat.le_trans (len_mono y0 (Int.ediv_le_self _ va)) la
    refine Ev.bind (Ev.res (shl_f a m ha (by omega)) hx1) (Ev.bind (Ev.res (shr_f a m ha (by omega)) hy) ?_)
    have tail : ∀ want : Int, want = (bl x : Int) → Ev (fun k => glossatorlaw01_NatPowers.j0 k a (m : Int) (bl (V a) : Int) (enc x) 0 (enc (V a / 2 ^ m)) 0 want) true := by
      intro want hw
      obtain ⟨r, hr, hl⟩ := bytes_len a ha
      have b1 := bits_f (enc x) (okL.enc (by omega))
      have b2 := bits_f (enc (V a / 2 ^ m)) (okL.enc (by omega))
      rw [V_enc x0] at b1
      rw [V_enc y0, bl_div va] at b2
      refine Ev.step (fun k => by simp only [glossatorlaw01_NatPowers.j0]; rfl) ?_
      refine Ev.pos (by trivial) ?_
      refine Ev.pos (by trivial) ?_
      refine Ev.bind b1 (Ev.pos hw.symm ?_)
      refine Ev.bind b2 (Ev.pos ?_ (Ev.bind hr (Ev.pos ?_ (Ev.bind awake_f (Ev.const rfl)))))
      · rw [wrap_id (by omega) (by omega)]
        unfold mx
        split <;> omega
      · rw [wrap_id (x := (bl (V a) : Int) + 7) (by omega) (by omega), hl]
        have e : Int.tdiv ((bl (V a) : Int) + 7) 8 = (((bl (V a) + 7) / 8 : Nat) : Int) := by rw [Int.tdiv_eq_ediv_of_nonneg (by omega)]; omega
        rw [e, wrap_id (by omega) (by omega)]
    by_cases hq : (bl (V a) : Int) > 0
    · refine Ev.pos hq ?_
      rw [if_pos hq] at hx2
      rw [wrap_id (by omega) (by omega)]
      exact tail _ hx2.symm
    · refine Ev.neg hq ?_
      rw [if_neg hq] at hx2
      exact tail _ hx2.symm

end Go.Proofs.Ytflccadclkddoaa.Pure
