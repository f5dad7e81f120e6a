-- Out of texts of this seat by a program of this session: what the claim does not reach is struck
import Derived.Test.YtflccadclkddoaaZPNatTextsx10
import Derived.Test.YtflccadclkddoaaZNatPlain
import Derived.Test.YtflccadclkddoaaZNatBits
namespace Go.Proofs.Ytflccadclkddoaa.Pure
open Go.RowKit Go.Proofs.Ytflccadclkddoaa.PNatTexts Go.Proofs.YtflccadclkddoaaW.PrintWords Go.Proofs.YtflccadclkddoaaW.PrintLast Go.Proofs.YtflccadclkddoaaW.PrintMore Go.Proofs.Ytflccadclkddoaa.NatPlain
theorem Ev.pos {α : Type} {c : Prop} [Decidable c] {f g : Nat → Option α} {r : α} (h : c) (k : Ev f r) : Ev (fun n => if c then f n else g n) r := Ev.congr (fun _ => if_pos h) k
theorem Ev.neg {α : Type} {c : Prop} [Decidable c] {f g : Nat → Option α} {r : α} (h : ¬ c) (k : Ev g r) : Ev (fun n => if c then f n else g n) r := Ev.congr (fun _ => if_neg h) k
theorem Ev.const {α : Type} {x : Option α} {r : α} (h : x = some r) : Ev (fun _ => x) r := ⟨0, fun _ _ => h⟩
theorem Ev.pre {α β : Type} {x : Option α} {a : α} {f : Nat → α → Option β} {r : β} (h : x = some a) (k : Ev (fun n => f n a) r) : Ev (fun n => x.bind (f n)) r := Ev.congr (fun _ => by rw [h]; rfl) k
theorem Ev.res {α : Type} {g : Nat → Option α} {r r' : α} (k : Ev g r') (e : r' = r) : Ev g r := e ▸ k
theorem wrap_id {x : Int} (h0 : -9223372036854775808 ≤ x) (h1 : x ≤ 9223372036854775807) : wrap64 x = x := by unfold wrap64; omega
theorem wf_u32 {n : Int} (h : (Lit.int .u32 n).wf = true) : 0 ≤ n ∧ n < 4294967296 := by
  simp [Lit.wf, IntKind.min, IntKind.max, IntKind.signed, IntKind.bits] at h; omega
theorem u64_id {n : Int} (h0 : 0 ≤ n) (h1 : n < 18446744073709551616) : IntKind.u64.wrap n = n := by
  simp [IntKind.wrap, IntKind.bits, IntKind.signed]; omega
theorem rd_getD (l : List Int) (i : Int) : rd l i = l.getD i.toNat 0 := rfl
theorem rd_get (l : List Int) (j : Nat) (h : j < l.length) : rd l (j : Int) = l[j] := by
  rw [rd_getD, Int.toNat_natCast, List.getD_eq_getElem?_getD, List.getElem?_eq_getElem h]; rfl
def okL (l : List Int) : Prop := Lim l ∧ l.length ≤ 35184372087808
theorem okL.of {l : List Int} (hw : ∀ x ∈ l, (Lit.int .u32 x).wf = true) (hs : l.length * 4 ≤ 140737488351232) : okL l := ⟨fun x hx => wf_u32 (hw x hx), by omega⟩
theorem okL.nil : okL [] := ⟨Lim.nil, by simp⟩
theorem okL.enc {n : Int} (h : len n ≤ 35184372087808) : okL (enc n) := ⟨Lim.enc n, h⟩
theorem trim_l0 (l : List Int) (hl : l.length ≤ 35184372088831) : ∀ (d k : Nat), (trimL l).length + d ≤ l.length → d < k → nat_trim.l0 k l (((trimL l).length + d : Nat) : Int) = some (trimL l) := by
  intro d
  induction d with
  | zero =>
    intro k h hk
    obtain ⟨k, rfl⟩ : ∃ m, k = m + 1 := ⟨k - 1, by omega⟩
    have e : l.take (((trimL l).length + 0 : Nat) : Int).toNat = trimL l := by rw [Int.toNat_natCast]; exact trim_take l
    simp only [nat_trim.l0]
    rw [e]
    by_cases h0 : 0 < (trimL l).length
    · have hne := trim_last l h0
      have hne2 : ¬ rd l (wrap64 ((((trimL l).length + 0 : Nat) : Int) - 1)) = 0 := by
        rw [wrap_id (by omega) (by omega), rd_getD, show ((((trimL l).length + 0 : Nat) : Int) - 1).toNat = (trimL l).length - 1 by omega]
        exact hne
      rw [if_pos (by omega), if_neg hne2, wrap_id (by omega) (by omega), if_pos (by omega), if_pos (by omega), if_pos (by omega), if_pos (by omega)]
    · rw [if_neg (by omega), if_pos (by omega), if_pos (by omega)]
  | succ d ih =>
    intro k h hk
    obtain ⟨k, rfl⟩ : ∃ m, k = m + 1 := ⟨k - 1, by omega⟩
    have h0 := trim_above l ((trimL l).length + d) (by omega)
    have e : wrap64 ((((trimL l).length + (d + 1) : Nat) : Int) - 1) = (((trimL l).length + d : Nat) : Int) := by rw [wrap_id (by omega) (by omega)]; omega
    simp only [nat_trim.l0]
    rw [e, if_pos (by omega), if_pos (by omega), if_pos (by omega), if_pos (by rw [rd_getD, Int.toNat_natCast]; exact h0)]
    exact ih k (by omega) (by omega)
theorem trim_f (l : List Int) (hl : l.length ≤ 35184372088831) : Ev (fun k => nat_trim.f k l) (trimL l) := by
  refine ⟨l.length + 1, fun k hk => ?_⟩
  have := trim_l0 l hl (l.length - (trimL l).length) k (by have := trim_len l; omega) (by omega)
  rw [show (trimL l).length + (l.length - (trimL l).length) = l.length by have := trim_len l; omega] at this
  exact this
theorem rdL_get (ls : List (List Int)) (j : Nat) (h : j < ls.length) : rd_L1 ls (j : Int) = ls[j] := by
  unfold rd_L1
  rw [Int.toNat_natCast, List.getD_eq_getElem?_getD, List.getElem?_eq_getElem h]; rfl
def short (ls : List (List Int)) : Prop := ∀ l ∈ ls, len (V l) ≤ 4096
instance (ls : List (List Int)) : Decidable (short ls) := by unfold short; infer_instance
theorem fits_l0 (ls : List (List Int)) (h : ∀ l ∈ ls, okL l) (hl : ls.length ≤ 35184372088831) : ∀ (d i : Nat), i + d = ls.length → Ev (fun k => nat_fits.l0 k ls (ls.length : Int) (i : Int)) (decide (short (ls.drop i))) := by
  intro d
  induction d with
  | zero =>
    intro i hi
    refine Ev.step (fun k => by simp only [nat_fits.l0]; rfl) (Ev.neg (by omega) ?_)
    rw [List.drop_eq_nil_of_le (by omega)]
    exact Ev.const (by simp [short])
  | succ d ih =>
    intro i hi
    have hlt : i < ls.length := by omega
    have ho := h _ (List.getElem_mem hlt)
    refine Ev.step (fun k => by simp only [nat_fits.l0]; rfl) (Ev.pos (by omega) (Ev.pos (by omega) (Ev.pos (by omega) ?_)))
    rw [rdL_get ls i hlt]
    refine Ev.bind (trim_f _ (by have := ho.2; omega)) ?_
    rw [List.drop_eq_getElem_cons hlt, len_trim ho.1]
    by_cases hs : len (V ls[i]) ≤ 4096
    · refine Ev.neg (by omega) ?_
      rw [wrap_id (by omega) (by omega)]
      have : short (ls.drop (i + 1)) ↔ short (ls[i] :: ls.drop (i + 1)) := ⟨fun hq x hx => (List.mem_cons.1 hx).elim (fun e => e ▸ hs) (hq x), fun hq x hx => hq x (List.mem_cons_of_mem _ hx)⟩
      exact Ev.res (ih (i + 1) (by omega)) (by rw [decide_eq_decide]; exact this)
    · refine Ev.pos (by omega) (Ev.const ?_)
      rw [decide_eq_false (fun hq : short (ls[i] :: ls.drop (i + 1)) => hs (hq _ List.mem_cons_self))]
theorem fits_f (ls : List (List Int)) (h : ∀ l ∈ ls, okL l) (hl : ls.length ≤ 35184372088831) : Ev (fun k => nat_fits.f k ls) (decide (short ls)) := fits_l0 ls h hl ls.length 0 (by omega)
theorem clone_f (l : List Int) (hl : l.length ≤ 35184372088831) : slices_Clone_uint32_uint32.f l = some l := by
  unfold slices_Clone_uint32_uint32.f
  rw [if_pos (by omega)]
def ans (n : Int) : List Int × Int := if len n ≤ 4096 then (enc n, 0) else ([], 2)
theorem told_f (l : List Int) (h : Lim l) (hl : l.length ≤ 35184372087808) : Ev (fun k => nat_told.f k l) (ans (V l)) := by
  refine Ev.congr (fun k => by unfold nat_told.f; rfl) (Ev.bind (fits_f [l] (fun x hx => by simp at hx; exact hx ▸ ⟨h, hl⟩) (by simp)) ?_)
  by_cases hs : len (V l) ≤ 4096
  · refine Ev.pos (by simp [short, hs]) (Ev.bind (trim_f l (by omega)) (Ev.pre (clone_f _ (by have := trim_len l; omega)) (Ev.const ?_)))
    rw [ans, if_pos hs, trim_enc h]
  · refine Ev.neg (by simp [short, hs]) (Ev.const ?_)
    rw [ans, if_neg hs]
theorem okL_trim' {a : List Int} (ha : okL a) : (trimL a).length ≤ 35184372087808 := Nat.le_trans (trim_len a) ha.2
theorem low_f (n : Int) (_ : 0 ≤ n) : nat_low_uint64.f n = some (n % 4294967296, n / 4294967296) := rfl
theorem V_snoc (l : List Int) (c : Int) : V (l ++ [c]) = V l + 4294967296 ^ l.length * c := by rw [V_app]; simp [V]
theorem V_one (c : Int) : V [c] = c := by simp [V]
def sumV : List (List Int) → Int
  | [] => 0
  | l :: r => V l + sumV r
theorem add_l2 (bs : List (List Int)) (j : Nat) (x : List Int) (hx : Lim x) (r : List Int × Int) (S : Int) (L : Nat) (hxL : x.length ≤ L) (hL : L + 1 ≤ 35184372087808)
    (cont : ∀ out : List Int, Lim out → out.length ≤ L + 1 → V out = S → Ev (fun k => nat_Add.l0 k out bs (bs.length : Int) ((j : Int) + 1)) r) (hj : (j : Int) + 1 ≤ 9223372036854775807) :
    ∀ (d i : Nat) (out : List Int) (c : Int), i + d = L → out.length = L → Lim out → 0 ≤ c → c ≤ 1 → V out + c * 4294967296 ^ i + V (x.drop i) * 4294967296 ^ i = S →
      Ev (fun k => nat_Add.l2 k out x c bs (bs.length : Int) (j : Int) (L : Int) (i : Int)) r := by
  intro d
  induction d with
  | zero =>
    intro i out c hi ho hlo c0 c1 hV
    rw [List.drop_eq_nil_of_le (by omega)] at hV
    refine Ev.step (fun k => by simp only [nat_Add.l2]; rfl) (Ev.neg (by omega) ?_)
    rw [wrap_id (x := (j : Int) + 1) (by omega) hj]
    by_cases hc : c > 0
    · refine Ev.pos hc (Ev.pos (by omega) ?_)
      have hc1 : c = 1 := by omega
      subst hc1
      refine cont _ (hlo.app (Lim.cons (by decide) (by decide) Lim.nil)) (by simp; omega) ?_
      rw [V_snoc, ho, ← hV, show L = i by omega]
      simp [V]
    · refine Ev.neg hc (cont _ hlo (by omega) ?_)
      have hc0 : c = 0 := by omega
      subst hc0
      rw [← hV]
      simp [V]
  | succ d ih =>
    intro i out c hi ho hlo c0 c1 hV
    have hlt : i < out.length := by omega
    have hg := hlo.get i hlt
    refine Ev.step (fun k => by simp only [nat_Add.l2]; rfl) (Ev.pos (by omega) (Ev.pos (by omega) (Ev.pos (by omega) ?_)))
    rw [rd_get out i hlt, wrap_id (x := (i : Int) + 1) (by omega) (by omega), Int.toNat_natCast]
    have hp : (4294967296 : Int) ^ (i + 1) = 4294967296 ^ i * 4294967296 := Int.pow_succ ..
    by_cases hxi : i < x.length
    · have hgx := hx.get i hxi
      refine Ev.pos (by omega) ?_
      rw [rd_get x i hxi, u64_id (n := out[i]) (by omega) (by omega), u64_id (n := x[i]) (by omega) (by omega), u64_id (n := c + out[i]) (by omega) (by omega), u64_id (n := c + out[i] + x[i]) (by omega) (by omega)]
      refine Ev.pre (low_f _ (by omega)) ?_
      simp only
      have := ih (i + 1) (out.set i ((c + out[i] + x[i]) % 4294967296)) ((c + out[i] + x[i]) / 4294967296) (by omega) (by simp; omega) (hlo.set _ _ (by omega) (by omega)) (by omega) (by omega) ?_
      · exact this
      · rw [V_set out i _ hlt, hp]
        rw [V_drop x i hxi] at hV
        have e : (c + out[i] + x[i]) = (c + out[i] + x[i]) % 4294967296 + 4294967296 * ((c + out[i] + x[i]) / 4294967296) := by omega
        generalize (c + out[i] + x[i]) % 4294967296 = lo at e ⊢
        generalize (c + out[i] + x[i]) / 4294967296 = hi' at e ⊢
        generalize (4294967296 : Int) ^ i = P at hV ⊢
        generalize V (x.drop (i + 1)) = R at hV ⊢
        generalize V out = W at hV ⊢
        grind
    · refine Ev.neg (by omega) ?_
      rw [u64_id (n := out[i]) (by omega) (by omega), u64_id (n := c + out[i]) (by omega) (by omega)]
      refine Ev.pre (low_f _ (by omega)) ?_
      simp only
      have := ih (i + 1) (out.set i ((c + out[i]) % 4294967296)) ((c + out[i]) / 4294967296) (by omega) (by simp; omega) (hlo.set _ _ (by omega) (by omega)) (by omega) (by omega) ?_
      · exact this
      · rw [V_set out i _ hlt, hp]
        rw [List.drop_eq_nil_of_le (by omega)] at hV ⊢
        have e : (c + out[i]) = (c + out[i]) % 4294967296 + 4294967296 * ((c + out[i]) / 4294967296) := by omega
        generalize (c + out[i]) % 4294967296 = lo at e ⊢
        generalize (c + out[i]) / 4294967296 = hi' at e ⊢
        generalize (4294967296 : Int) ^ i = P at hV ⊢
        generalize V out = W at hV ⊢
        simp only [V] at hV ⊢
        grind
theorem add_l1 (bs : List (List Int)) (j : Nat) (x : List Int) (hx : Lim x) (r : List Int × Int) (S : Int) (L : Nat) (hxL : x.length ≤ L) (hL : L + 1 ≤ 35184372087808)
    (cont : ∀ out : List Int, Lim out → out.length ≤ L + 1 → V out = S → Ev (fun k => nat_Add.l0 k out bs (bs.length : Int) ((j : Int) + 1)) r) (hj : (j : Int) + 1 ≤ 9223372036854775807) :
    ∀ (d : Nat) (out : List Int), x.length - out.length = d → out.length ≤ L → Lim out → V out + V x = S → Ev (fun k => nat_Add.l1 k out x bs (bs.length : Int) (j : Int)) r := by
  intro d
  induction d with
  | zero =>
    intro out hd hoL hlo hV
    refine Ev.step (fun k => by simp only [nat_Add.l1]; rfl) (Ev.neg (by omega) ?_)
    refine add_l2 bs j x hx r S out.length (by omega) (by omega) (fun o h1 h2 h3 => cont o h1 (by omega) h3) hj out.length 0 out 0 (by omega) rfl hlo (by omega) (by omega) ?_
    simp only [List.drop_zero, Int.pow_zero]
    omega
  | succ d ih =>
    intro out hd hoL hlo hV
    refine Ev.step (fun k => by simp only [nat_Add.l1]; rfl) (Ev.pos (by omega) (Ev.pos (by omega) ?_))
    refine ih (out ++ [0]) (by simp; omega) (by simp; omega) (hlo.app (Lim.cons (by decide) (by decide) Lim.nil)) ?_
    rw [V_snoc]
    omega
theorem add_l0 (bs : List (List Int)) (hbs : ∀ l ∈ bs, okL l) (hsh : short bs) (hbl : bs.length ≤ 5864062014634) : ∀ (d j : Nat) (out : List Int), j + d = bs.length → Lim out → out.length ≤ 4096 + j → Ev (fun k => nat_Add.l0 k out bs (bs.length : Int) (j : Int)) (ans (V out + sumV (bs.drop j))) := by
  intro d
  induction d with
  | zero =>
    intro j out hj hlo hol
    rw [List.drop_eq_nil_of_le (by omega)]
    refine Ev.step (fun k => by simp only [nat_Add.l0]; rfl) (Ev.neg (by omega) ?_)
    refine Ev.bind (told_f out hlo (by omega)) (Ev.const ?_)
    simp [sumV]
  | succ d ih =>
    intro j out hj hlo hol
    have hlt : j < bs.length := by omega
    have ho := hbs _ (List.getElem_mem hlt)
    have hs := hsh _ (List.getElem_mem hlt)
    refine Ev.step (fun k => by simp only [nat_Add.l0]; rfl) (Ev.pos (by omega) (Ev.pos (by omega) (Ev.pos (by omega) ?_)))
    rw [rdL_get bs j hlt]
    refine Ev.bind (trim_f _ (by have := ho.2; omega)) ?_
    rw [List.drop_eq_getElem_cons hlt]
    have htl : (trimL bs[j]).length ≤ 4096 := by rw [len_trim ho.1]; exact hs
    refine add_l1 bs j (trimL bs[j]) ho.1.trim _ (V out + V bs[j]) (4096 + j) (by omega) (by omega) (fun o h1 h2 h3 => ?_) (by omega) _ out rfl hol hlo (by rw [V_trim])
    have := ih (j + 1) o (by omega) h1 (by omega)
    rw [h3] at this
    refine Ev.res (Ev.congr (fun k => rfl) this) ?_
    simp only [sumV]
    congr 1
    omega
def addA (a : List Int) (bs : List (List Int)) : List Int × Int := if short [a] ∧ short bs then ans (V a + sumV bs) else ([], 2)
theorem add_f (a : List Int) (bs : List (List Int)) (ha : okL a) (hbs : ∀ l ∈ bs, okL l) (hbl : bs.length ≤ 5864062014634) : Ev (fun k => nat_Add.f k a bs) (addA a bs) := by
  refine Ev.congr (fun k => by unfold nat_Add.f; rfl) (Ev.bind (fits_f [a] (fun x hx => by simp at hx; exact hx ▸ ha) (by simp)) ?_)
  have err : ∀ h : ¬ (short [a] ∧ short bs), Ev (fun k => nat_Add.j0 k a bs true) (addA a bs) := by
    intro h
    refine Ev.step (fun k => by simp only [nat_Add.j0]; rfl) (Ev.pos (by trivial) (Ev.const ?_))
    rw [addA, if_neg h]
  by_cases h1 : short [a]
  · refine Ev.pos (by simpa using h1) (Ev.bind (fits_f bs hbs (by omega)) ?_)
    by_cases h2 : short bs
    · rw [decide_eq_true h2]
      refine Ev.step (fun k => by simp only [nat_Add.j0]; rfl) (Ev.neg (by simp) ?_)
      have htl : (trimL a).length ≤ 4096 := by rw [len_trim ha.1]; exact h1 a (by simp)
      refine Ev.bind (trim_f a (by have := ha.2; omega)) (Ev.pre (clone_f _ (by omega)) ?_)
      have := add_l0 bs hbs h2 hbl bs.length 0 (trimL a) (by omega) ha.1.trim (by omega)
      rw [V_trim] at this
      refine Ev.res this ?_
      rw [addA, if_pos ⟨h1, h2⟩]
      rfl
    · rw [decide_eq_false h2]
      exact err (fun h => h2 h.2)
  · refine Ev.neg (by simpa using h1) (err (fun h => h1 h.1))
theorem small_len {n : Int} (h0 : 0 ≤ n) (h : n < 4294967296) : len n ≤ 1 := (len_le h0).2 (by simpa using h)
theorem okL_one {n : Int} (h0 : 0 ≤ n) (h : n < 4294967296) : okL [n] := ⟨Lim.cons h0 h Lim.nil, by simp⟩
theorem awake_f : Ev (fun k => glossatorlaw01_awake.f k) true := by
  have h := add_f [2] [[3]] (okL_one (by decide) (by decide)) (fun l hl => by simp at hl; exact hl ▸ okL_one (by decide) (by decide)) (by simp)
  have s2 : short [[2]] := fun l hl => by simp at hl; rw [hl, V_one]; exact Nat.le_trans (small_len (by decide) (by decide)) (by decide)
  have s3 : short [[3]] := fun l hl => by simp at hl; rw [hl, V_one]; exact Nat.le_trans (small_len (by decide) (by decide)) (by decide)
  have e : addA [2] [[3]] = ([5], 0) := by
    rw [addA, if_pos ⟨s2, s3⟩, ans]
    have : V [2] + sumV [[3]] = 5 := by simp [V, sumV]
    rw [this, if_pos (Nat.le_trans (small_len (by decide) (by decide)) (by decide)), enc_pos (by decide)]
    rw [show (5 : Int) / 4294967296 = 0 by decide, enc_zero]
    rfl
  rw [e] at h
  refine Ev.congr (fun k => by unfold glossatorlaw01_awake.f; rfl) (Ev.bind h (Ev.const ?_))
  decide
theorem limbs_l0 (a : List Int) (hl : a.length ≤ 35184372088831) : ∀ (d i : Nat), i + d = a.length → Ev (fun k => glossatorlaw01_limbs.l0 k a a (i : Int)) true := by
  intro d
  induction d with
  | zero =>
    intro i hi
    exact Ev.step (fun k => by simp only [glossatorlaw01_limbs.l0]; rfl) (Ev.neg (by omega) (Ev.const rfl))
  | succ d ih =>
    intro i hi
    refine Ev.step (fun k => by simp only [glossatorlaw01_limbs.l0]; rfl) (Ev.pos (by omega) (Ev.pos (by omega) (Ev.pos (by omega) (Ev.pos (by trivial) ?_))))
    rw [wrap_id (by omega) (by omega)]
    exact ih (i + 1) (by omega)
theorem limbs_f (a b : List Int) (h : a = b) (hl : a.length ≤ 35184372088831) : Ev (fun k => glossatorlaw01_limbs.f k a b) true := by
  subst h
  exact Ev.congr (fun k => by unfold glossatorlaw01_limbs.f; rfl) (Ev.pos (by trivial) (limbs_l0 a hl a.length 0 (by omega)))
def lim (l : List Int) (j : Nat) : Int := l.getD j 0
theorem lim_in (l : List Int) (j : Nat) (h : j < l.length) : lim l j = l[j] := by
  unfold lim; rw [List.getD_eq_getElem?_getD, List.getElem?_eq_getElem h]; rfl
theorem lim_out (l : List Int) (j : Nat) (h : l.length ≤ j) : lim l j = 0 := by
  unfold lim; rw [List.getD_eq_getElem?_getD, List.getElem?_eq_none h]; rfl
theorem lim_bd {l : List Int} (h : Lim l) (j : Nat) : 0 ≤ lim l j ∧ lim l j < 4294967296 := by
  by_cases hj : j < l.length
  · rw [lim_in l j hj]; exact h.get j hj
  · rw [lim_out l j (by omega)]; omega
theorem V_lim (l : List Int) (j : Nat) : V (l.drop j) = lim l j + 4294967296 * V (l.drop (j + 1)) := by
  by_cases hj : j < l.length
  · rw [V_drop l j hj, lim_in l j hj]
  · rw [List.drop_eq_nil_of_le (by omega), List.drop_eq_nil_of_le (by omega), lim_out l j (by omega)]; rfl
theorem rd_lim (l : List Int) (j : Nat) : rd l (j : Int) = lim l j := by rw [rd_getD, Int.toNat_natCast]; rfl
theorem V_set_lim (l : List Int) (i : Nat) (x : Int) (h : i < l.length) : V (l.set i x) = V l + 4294967296 ^ i * (x - lim l i) := by rw [V_set l i x h, lim_in l i h]
theorem rtrim_l0 (l : List Int) (hl : l.length ≤ 35184372088831) : ∀ (d k : Nat), (trimL l).length + d ≤ l.length → d < k → glossatorref01_Trim.l0 k l (((trimL l).length + d : Nat) : Int) = some (trimL l) := by
  intro d
  induction d with
  | zero =>
    intro k h hk
    obtain ⟨k, rfl⟩ : ∃ m, k = m + 1 := ⟨k - 1, by omega⟩
    have e : l.take (((trimL l).length + 0 : Nat) : Int).toNat = trimL l := by rw [Int.toNat_natCast]; exact trim_take l
    simp only [glossatorref01_Trim.l0, Option.bind_some, List.nil_append, List.length_nil, Nat.zero_add]
    rw [e]
    by_cases h0 : 0 < (trimL l).length
    · have hne := trim_last l h0
      have hne2 : ¬ rd l (wrap64 ((((trimL l).length + 0 : Nat) : Int) - 1)) = 0 := by
        rw [wrap_id (by omega) (by omega), rd_getD, show ((((trimL l).length + 0 : Nat) : Int) - 1).toNat = (trimL l).length - 1 by omega]
        exact hne
      rw [if_pos (by omega), if_neg hne2, wrap_id (by omega) (by omega), if_pos (by omega), if_pos (by omega), if_pos (by omega), if_pos (by omega), if_pos (by omega)]
    · rw [if_neg (by omega), if_pos (by omega), if_pos (by omega), if_pos (by omega)]
  | succ d ih =>
    intro k h hk
    obtain ⟨k, rfl⟩ : ∃ m, k = m + 1 := ⟨k - 1, by omega⟩
    have h0 := trim_above l ((trimL l).length + d) (by omega)
    have e : wrap64 ((((trimL l).length + (d + 1) : Nat) : Int) - 1) = (((trimL l).length + d : Nat) : Int) := by rw [wrap_id (by omega) (by omega)]; omega
    simp only [glossatorref01_Trim.l0]
    rw [e, if_pos (by omega), if_pos (by omega), if_pos (by omega), if_pos (by rw [rd_getD, Int.toNat_natCast]; exact h0)]
    exact ih k (by omega) (by omega)
theorem rtrim_f (l : List Int) (hl : l.length ≤ 35184372088831) : Ev (fun k => glossatorref01_Trim.f k l) (trimL l) := by
  refine ⟨l.length + 1, fun k hk => ?_⟩
  have := rtrim_l0 l hl (l.length - (trimL l).length) k (by have := trim_len l; omega) (by omega)
  rw [show (trimL l).length + (l.length - (trimL l).length) = l.length by have := trim_len l; omega] at this
  exact this
theorem long_l0 (ls : List (List Int)) (h : ∀ l ∈ ls, okL l) (hl : ls.length ≤ 35184372088831) : ∀ (d i : Nat), i + d = ls.length → Ev (fun k => glossatorref01_long.l0 k ls (i : Int)) (decide (¬ short (ls.drop i))) := by
  intro d
  induction d with
  | zero =>
    intro i hi
    refine Ev.step (fun k => by simp only [glossatorref01_long.l0]; rfl) (Ev.neg (by omega) ?_)
    rw [List.drop_eq_nil_of_le (by omega)]
    exact Ev.const (by simp [short])
  | succ d ih =>
    intro i hi
    have hlt : i < ls.length := by omega
    have ho := h _ (List.getElem_mem hlt)
    refine Ev.step (fun k => by simp only [glossatorref01_long.l0]; rfl) (Ev.pos (by omega) (Ev.pos (by omega) ?_))
    rw [rdL_get ls i hlt]
    refine Ev.bind (rtrim_f _ (by have := ho.2; omega)) ?_
    rw [List.drop_eq_getElem_cons hlt, len_trim ho.1]
    by_cases hs : len (V ls[i]) ≤ 4096
    · refine Ev.neg (by omega) ?_
      rw [wrap_id (by omega) (by omega)]
      have : short (ls.drop (i + 1)) ↔ short (ls[i] :: ls.drop (i + 1)) := ⟨fun hq x hx => (List.mem_cons.1 hx).elim (fun e => e ▸ hs) (hq x), fun hq x hx => hq x (List.mem_cons_of_mem _ hx)⟩
      exact Ev.res (ih (i + 1) (by omega)) (by rw [decide_eq_decide, this])
    · refine Ev.pos (by omega) (Ev.const ?_)
      rw [decide_eq_true (show ¬ short (ls[i] :: ls.drop (i + 1)) from fun hq => hs (hq _ List.mem_cons_self))]
theorem long_f (ls : List (List Int)) (h : ∀ l ∈ ls, okL l) (hl : ls.length ≤ 35184372088831) : Ev (fun k => glossatorref01_long.f k ls) (decide (¬ short ls)) := long_l0 ls h hl ls.length 0 (by omega)
theorem at_in (l : List Int) (h : Lim l) (j : Nat) (hj : j < l.length) : glossatorref01_at.f l (j : Int) = some l[j] := by
  have hg := h.get j hj
  unfold glossatorref01_at.f
  rw [if_neg (by omega), if_neg (by omega), if_pos (by omega), if_pos (by omega), rd_get l j hj, u64_id (by omega) (by omega)]
theorem at_out (l : List Int) (i : Int) (hi : (l.length : Int) ≤ i) : glossatorref01_at.f l i = some 0 := by
  unfold glossatorref01_at.f
  rw [if_neg (by omega), if_pos (by omega)]
theorem at_f (l : List Int) (h : Lim l) (j : Nat) : glossatorref01_at.f l (j : Int) = some (lim l j) := by
  by_cases hj : j < l.length
  · rw [at_in l h j hj, lim_in l j hj]
  · rw [at_out l j (by omega), lim_out l j (by omega)]
theorem mul_step (W P lo hi o c x y : Int) (e : c + o + x * y = lo + 4294967296 * hi) : W + P * (lo - o) + hi * (P * 4294967296) = W + c * P + P * (x * y) := by grind
theorem mul_bd {c o x y : Int} (c0 : 0 ≤ c) (c1 : c < 4294967296) (o0 : 0 ≤ o) (o1 : o < 4294967296) (x0 : 0 ≤ x) (x1 : x < 4294967296) (y0 : 0 ≤ y) (y1 : y < 4294967296) : 0 ≤ x * y ∧ x * y ≤ 18446744065119617025 ∧ 0 ≤ c + o + x * y ∧ c + o + x * y < 18446744073709551616 := by
  have h1 : 0 ≤ x * y := Int.mul_nonneg x0 y0
  have h2 : x * y ≤ 4294967295 * 4294967295 := Int.mul_le_mul (by omega) (by omega) y0 (by decide)
  omega
theorem mul_l1 (b a : List Int) (hb : Lim b) (i : Nat) (hi : i < a.length) (x : Int) (x0 : 0 ≤ x) (x1 : x < 4294967296) (r : List Int × Int) (S : Int) (hla : a.length ≤ 4096) (hlb : b.length ≤ 4096)
    (cont : ∀ out : List Int, Lim out → out.length = a.length + b.length → (∀ j, i + 1 + b.length ≤ j → lim out j = 0) → V out = S → Ev (fun k => nat_Mul.l0 k b out a (a.length : Int) ((i : Int) + 1)) r) :
    ∀ (d m : Nat) (out : List Int) (c : Int), m + d = b.length → out.length = a.length + b.length → Lim out → (∀ j, i + b.length ≤ j → lim out j = 0) → 0 ≤ c → c < 4294967296 →
      V out + c * 4294967296 ^ (i + m) + x * 4294967296 ^ (i + m) * V (b.drop m) = S →
      Ev (fun k => nat_Mul.l1 k b out (i : Int) x c a (a.length : Int) (i : Int) b (b.length : Int) (m : Int)) r := by
  intro d
  induction d with
  | zero =>
    intro m out c hm ho hlo hz c0 c1 hV
    have hmb : m = b.length := by omega
    subst hmb
    have hlt : i + b.length < out.length := by omega
    have hz0 := hz (i + b.length) (Nat.le_refl _)
    rw [lim_in out _ hlt] at hz0
    refine Ev.step (fun k => by simp only [nat_Mul.l1]; rfl) (Ev.neg (by omega) ?_)
    rw [wrap_id (x := (i : Int) + (b.length : Int)) (by omega) (by omega), wrap_id (x := (i : Int) + 1) (by omega) (by omega), show c % 4294967296 = c by omega, show ((i : Int) + (b.length : Int)).toNat = i + b.length by omega]
    refine Ev.pos (by omega) (Ev.pos (by omega) (cont _ (hlo.set _ _ c0 c1) (by simp [ho]) (fun j hj => ?_) ?_))
    · unfold lim
      rw [List.getD_eq_getElem?_getD, List.getElem?_set_ne (by omega)]
      have := hz j (by omega)
      unfold lim at this
      rwa [List.getD_eq_getElem?_getD] at this
    · rw [V_set out _ c hlt, hz0, ← hV, List.drop_eq_nil_of_le (Nat.le_refl _)]
      simp only [V, Int.sub_zero]
      rw [Int.mul_comm c]
      omega
  | succ d ih =>
    intro m out c hm ho hlo hz c0 c1 hV
    have hmb : m < b.length := by omega
    have hlt : i + m < out.length := by omega
    have ho' := hlo.get (i + m) hlt
    have hb' := hb.get m hmb
    have bd := mul_bd c0 c1 ho'.1 ho'.2 x0 x1 hb'.1 hb'.2
    refine Ev.step (fun k => by simp only [nat_Mul.l1]; rfl) (Ev.pos (by omega) (Ev.pos (by omega) (Ev.pos (by omega) ?_)))
    rw [wrap_id (x := (i : Int) + (m : Int)) (by omega) (by omega), wrap_id (x := (m : Int) + 1) (by omega) (by omega), rd_get b m hmb, show (i : Int) + (m : Int) = ((i + m : Nat) : Int) by omega, rd_get out (i + m) hlt, Int.toNat_natCast]
    refine Ev.pos (by omega) (Ev.pos (by omega) ?_)
    rw [u64_id (n := x) (by omega) (by omega), u64_id (n := b[m]) (by omega) (by omega), u64_id (n := out[i + m]) (by omega) (by omega), u64_id (n := x * b[m]) (by omega) (by omega), u64_id (n := c + out[i + m]) (by omega) (by omega), u64_id (n := c + out[i + m] + x * b[m]) (by omega) (by omega)]
    refine Ev.pre (low_f _ (by omega)) ?_
    simp only
    have := ih (m + 1) (out.set (i + m) ((c + out[i + m] + x * b[m]) % 4294967296)) ((c + out[i + m] + x * b[m]) / 4294967296) (by omega) (by simp [ho]) (hlo.set _ _ (by omega) (by omega)) (fun j hj => ?_) (by omega) (by omega) ?_
    · exact this
    · unfold lim
      rw [List.getD_eq_getElem?_getD, List.getElem?_set_ne (by omega)]
      have := hz j hj
      unfold lim at this
      rwa [List.getD_eq_getElem?_getD] at this
    · rw [V_set out _ _ hlt, show i + (m + 1) = (i + m) + 1 by omega, Int.pow_succ]
      rw [V_drop b m hmb] at hV
      have e : c + out[i + m] + x * b[m] = (c + out[i + m] + x * b[m]) % 4294967296 + 4294967296 * ((c + out[i + m] + x * b[m]) / 4294967296) := by omega
      have hs := mul_step (V out) ((4294967296 : Int) ^ (i + m)) _ _ _ _ _ _ e
      rw [hs, ← hV]
      generalize (4294967296 : Int) ^ (i + m) = P
      generalize V (b.drop (m + 1)) = R
      grind
theorem mul_l0 (b a : List Int) (hb : Lim b) (ha : Lim a) (hla : a.length ≤ 4096) (hlb : b.length ≤ 4096) : ∀ (d i : Nat) (out : List Int), i + d = a.length → out.length = a.length + b.length → Lim out → (∀ j, i + b.length ≤ j → lim out j = 0) →
    V out + 4294967296 ^ i * V (a.drop i) * V b = V a * V b → Ev (fun k => nat_Mul.l0 k b out a (a.length : Int) (i : Int)) (ans (V a * V b)) := by
  intro d
  induction d with
  | zero =>
    intro i out hi ho hlo _ hV
    refine Ev.step (fun k => by simp only [nat_Mul.l0]; rfl) (Ev.neg (by omega) ?_)
    refine Ev.bind (told_f out hlo (by omega)) (Ev.const ?_)
    rw [List.drop_eq_nil_of_le (by omega)] at hV
    simp only [V, Int.mul_zero, Int.zero_mul, Int.add_zero] at hV
    rw [hV]
  | succ d ih =>
    intro i out hi ho hlo hz hV
    have hlt : i < a.length := by omega
    have hg := ha.get i hlt
    refine Ev.step (fun k => by simp only [nat_Mul.l0]; rfl) (Ev.pos (by omega) (Ev.pos (by omega) (Ev.pos (by omega) ?_)))
    rw [rd_get a i hlt]
    refine mul_l1 b a hb i hlt a[i] hg.1 hg.2 _ (V out + a[i] * 4294967296 ^ i * V b) hla hlb (fun o h1 h2 h3 h4 => ?_) b.length 0 out 0 (by omega) ho hlo hz (by omega) (by omega) ?_
    · refine ih (i + 1) o (by omega) h2 h1 h3 ?_
      rw [h4, ← hV, V_drop a i hlt, Int.pow_succ]
      generalize (4294967296 : Int) ^ i = P
      generalize V (a.drop (i + 1)) = R
      generalize V b = Y
      grind
    · simp
def mulA (a b : List Int) : List Int × Int := if short [a, b] then ans (V a * V b) else ([], 2)
theorem mul_f (a b : List Int) (ha : okL a) (hb : okL b) : Ev (fun k => nat_Mul.f k a b) (mulA a b) := by
  refine Ev.congr (fun k => by unfold nat_Mul.f; rfl) (Ev.bind (fits_f [a, b] (fun x hx => by simp at hx; rcases hx with rfl | rfl <;> assumption) (by simp)) ?_)
  by_cases h : short [a, b]
  · refine Ev.pos (by simpa using h) (Ev.bind (trim_f a (by have := ha.2; omega)) (Ev.bind (trim_f b (by have := hb.2; omega)) ?_))
    have h1 : (trimL a).length ≤ 4096 := by rw [len_trim ha.1]; exact h a (by simp)
    have h2 : (trimL b).length ≤ 4096 := by rw [len_trim hb.1]; exact h b (by simp)
    rw [wrap_id (x := ((trimL a).length : Int) + ((trimL b).length : Int)) (by omega) (by omega), show (((trimL a).length : Int) + ((trimL b).length : Int)).toNat = (trimL a).length + (trimL b).length by omega]
    refine Ev.pos (by omega) (Ev.pos (by omega) ?_)
    have := mul_l0 (trimL b) (trimL a) hb.1.trim ha.1.trim h1 h2 (trimL a).length 0 (List.replicate ((trimL a).length + (trimL b).length) 0) (by omega) (by simp) (Lim.zeros _) (fun j _ => ?_) ?_
    · rw [V_trim, V_trim] at this
      refine Ev.res this ?_
      rw [mulA, if_pos h]
    · unfold lim
      by_cases hj : j < (trimL a).length + (trimL b).length
      · rw [List.getD_eq_getElem?_getD, List.getElem?_replicate_of_lt hj]; rfl
      · rw [List.getD_eq_getElem?_getD, List.getElem?_eq_none (by simp; omega)]; rfl
    · rw [V_zeros]
      simp
  · refine Ev.neg (by simpa using h) (Ev.const ?_)
    rw [mulA, if_neg h]
theorem times_step (W P lo hi o c x y : Int) (e : c + o + x * y = lo + 4294967296 * hi) : W + P * (lo - o) + hi * (P * 4294967296) = W + c * P + P * (x * y) := by grind
theorem times_l1 (b a : List Int) (ha : Lim a) (hb : Lim b) (i : Nat) (hi : i < a.length) (r : List Int) (S : Int) (hla : a.length ≤ 4096) (hlb : b.length ≤ 4096) (hS : S < 4294967296 ^ (i + 1 + b.length))
    (cont : ∀ out : List Int, Lim out → out.length = a.length + b.length + 1 → V out = S → Ev (fun k => glossatorref01_Times.l0 k a b out ((i : Int) + 1)) r) :
    ∀ (d m : Nat) (out : List Int) (c : Int), m + d = b.length + 1 → out.length = a.length + b.length + 1 → Lim out → 0 ≤ c → c < 4294967296 →
      V out + c * 4294967296 ^ (i + m) + a[i] * 4294967296 ^ (i + m) * V (b.drop m) = S →
      Ev (fun k => glossatorref01_Times.l1 k a b out (i : Int) c (m : Int)) r := by
  intro d
  have hga := ha.get i hi
  induction d with
  | zero =>
    intro m out c hm ho hlo c0 c1 hV
    have hc : c = 0 := by
      rw [List.drop_eq_nil_of_le (by omega)] at hV
      have hv := V_nonneg hlo
      rw [show i + 1 + b.length = i + m by omega] at hS
      have pos : (0 : Int) < 4294967296 ^ (i + m) := Int.pow_pos (by decide)
      simp only [V, Int.mul_zero, Int.add_zero] at hV
      by_cases h : c = 0
      · exact h
      · have : 1 * 4294967296 ^ (i + m) ≤ c * 4294967296 ^ (i + m) := Int.mul_le_mul_of_nonneg_right (by omega) (by omega)
        omega
    subst hc
    refine Ev.step (fun k => by simp only [glossatorref01_Times.l1]; rfl) (Ev.neg (by omega) ?_)
    refine Ev.step (fun k => by simp only [glossatorref01_Times.j2]; rfl) (Ev.neg (by simp) ?_)
    rw [wrap_id (by omega) (by omega)]
    refine cont out hlo ho ?_
    rw [← hV, List.drop_eq_nil_of_le (by omega)]
    simp [V]
  | succ d ih =>
    intro m out c hm ho hlo c0 c1 hV
    have hlt : i + m < out.length := by omega
    have ho' := hlo.get (i + m) hlt
    have hb' := lim_bd hb m
    have bd := mul_bd c0 c1 ho'.1 ho'.2 hga.1 hga.2 hb'.1 hb'.2
    have body : Ev (fun k => glossatorref01_Times.j2 k a b out (i : Int) c (m : Int) true) r := by
      refine Ev.step (fun k => by simp only [glossatorref01_Times.j2]; rfl) (Ev.pos (by trivial) ?_)
      rw [wrap_id (x := (i : Int) + (m : Int)) (by omega) (by omega), wrap_id (x := (m : Int) + 1) (by omega) (by omega), show (i : Int) + (m : Int) = ((i + m : Nat) : Int) by omega, rd_get out (i + m) hlt, Int.toNat_natCast]
      refine Ev.pos (by omega) (Ev.pos (by omega) (Ev.pre (at_in a ha i hi) (Ev.pre (at_f b hb m) ?_)))
      rw [u64_id (n := out[i + m]) (by omega) (by omega), u64_id (n := a[i] * lim b m) (by omega) (by omega), u64_id (n := c + out[i + m]) (by omega) (by omega), u64_id (n := c + out[i + m] + a[i] * lim b m) (by omega) (by omega)]
      have := ih (m + 1) (out.set (i + m) ((c + out[i + m] + a[i] * lim b m) % 4294967296)) ((c + out[i + m] + a[i] * lim b m) / 4294967296) (by omega) (by simp [ho]) (hlo.set _ _ (by omega) (by omega)) (by omega) (by omega) ?_
      · exact this
      · rw [V_set out _ _ hlt, show i + (m + 1) = (i + m) + 1 by omega, Int.pow_succ]
        rw [V_lim b m] at hV
        have e : c + out[i + m] + a[i] * lim b m = (c + out[i + m] + a[i] * lim b m) % 4294967296 + 4294967296 * ((c + out[i + m] + a[i] * lim b m) / 4294967296) := by omega
        have hs := times_step (V out) ((4294967296 : Int) ^ (i + m)) _ _ _ _ _ _ e
        rw [hs, ← hV]
        generalize (4294967296 : Int) ^ (i + m) = P
        generalize V (b.drop (m + 1)) = R
        grind
    refine Ev.step (fun k => by simp only [glossatorref01_Times.l1]; rfl) ?_
    by_cases hmb : (m : Int) < (b.length : Int)
    · exact Ev.pos hmb body
    · refine Ev.neg hmb ?_
      by_cases hc : c > 0
      · rw [decide_eq_true hc]; exact body
      · rw [decide_eq_false hc]
        have hc0 : c = 0 := by omega
        subst hc0
        refine Ev.step (fun k => by simp only [glossatorref01_Times.j2]; rfl) (Ev.neg (by simp) ?_)
        rw [wrap_id (by omega) (by omega)]
        refine cont out hlo ho ?_
        rw [← hV, List.drop_eq_nil_of_le (by omega)]
        simp [V]
theorem times_l0 (b a : List Int) (hb : Lim b) (ha : Lim a) (hla : a.length ≤ 4096) (hlb : b.length ≤ 4096) : ∀ (d i : Nat) (out : List Int), i + d = a.length → out.length = a.length + b.length + 1 → Lim out →
    V out = V (a.take i) * V b → Ev (fun k => glossatorref01_Times.l0 k a b out (i : Int)) (enc (V a * V b)) := by
  intro d
  induction d with
  | zero =>
    intro i out hi ho hlo hV
    refine Ev.step (fun k => by simp only [glossatorref01_Times.l0]; rfl) (Ev.neg (by omega) ?_)
    refine Ev.bind (rtrim_f out (by omega)) (Ev.const ?_)
    rw [List.take_of_length_le (by omega)] at hV
    rw [trim_enc hlo, hV]
  | succ d ih =>
    intro i out hi ho hlo hV
    have hlt : i < a.length := by omega
    have hg := ha.get i hlt
    refine Ev.step (fun k => by simp only [glossatorref01_Times.l0]; rfl) (Ev.pos (by omega) ?_)
    have hS : V (a.take (i + 1)) * V b < 4294967296 ^ (i + 1 + b.length) := by
      have h1 := V_lt (ha.take (i + 1))
      have h2 := V_lt hb
      have h3 := V_nonneg (ha.take (i + 1))
      have h4 := V_nonneg hb
      rw [List.length_take, Nat.min_eq_left (by omega)] at h1
      rw [Int.pow_add]
      have p1 : (0 : Int) < 4294967296 ^ b.length := Int.pow_pos (by decide)
      have q1 : V (a.take (i + 1)) * V b ≤ V (a.take (i + 1)) * 4294967296 ^ b.length := Int.mul_le_mul_of_nonneg_left (by omega) h3
      have q2 : V (a.take (i + 1)) * 4294967296 ^ b.length < 4294967296 ^ (i + 1) * 4294967296 ^ b.length := Int.mul_lt_mul_of_pos_right h1 p1
      omega
    refine times_l1 b a ha hb i hlt _ (V (a.take (i + 1)) * V b) hla hlb hS (fun o h1 h2 h4 => ih (i + 1) o (by omega) h2 h1 h4) (b.length + 1) 0 out 0 (by omega) ho hlo (by omega) (by omega) ?_
    rw [hV, V_take_succ a i hlt]
    simp only [List.drop_zero, Nat.add_zero]
    generalize (4294967296 : Int) ^ i = P
    generalize V (a.take i) = R
    generalize V b = Y
    grind
theorem times_f (a b : List Int) (ha : Lim a) (hb : Lim b) (hla : a.length ≤ 4096) (hlb : b.length ≤ 4096) : Ev (fun k => glossatorref01_Times.f k a b) (enc (V a * V b)) := by
  refine Ev.congr (fun k => by unfold glossatorref01_Times.f; rfl) ?_
  rw [wrap_id (x := (a.length : Int) + (b.length : Int)) (by omega) (by omega), wrap_id (x := (a.length : Int) + (b.length : Int) + 1) (by omega) (by omega), show ((a.length : Int) + (b.length : Int) + 1).toNat = a.length + b.length + 1 by omega]
  refine Ev.pos (by omega) (Ev.pos (by omega) ?_)
  exact times_l0 b a hb ha hla hlb a.length 0 _ (by omega) (by simp) (Lim.zeros _) (by rw [V_zeros]; simp [V])
theorem sum_alg (W P c x y lo hi R T : Int) (e : c + x + y = lo + 4294967296 * hi) : W + P * lo + P * 4294967296 * hi + P * 4294967296 * (R + T) = W + P * c + P * (x + 4294967296 * R + (y + 4294967296 * T)) := by grind
theorem pow_up {j k : Nat} (h : j ≤ k) : (4294967296 : Int) ^ j ≤ 4294967296 ^ k := by
  obtain ⟨d, rfl⟩ := Nat.exists_eq_add_of_le h
  clear h
  induction d with
  | zero => exact Int.le_refl _
  | succ d ih =>
    rw [show j + (d + 1) = (j + d) + 1 from rfl, Int.pow_succ]
    have : (0 : Int) < 4294967296 ^ (j + d) := Int.pow_pos (by decide)
    omega
theorem sum_l0 (a b : List Int) (ha : okL a) (hb : okL b) : ∀ (d i : Nat) (out : List Int) (c : Int), i + d = max a.length b.length + 1 → out.length = i → Lim out → 0 ≤ c → c ≤ 1 →
    V out + 4294967296 ^ i * c + 4294967296 ^ i * (V (a.drop i) + V (b.drop i)) = V a + V b → Ev (fun k => glossatorref01_sum.l0 k a b out c (i : Int)) (enc (V a + V b)) := by
  have ha2 := ha.2
  have hb2 := hb.2
  have hmx : mx (a.length : Int) (b.length : Int) = ((max a.length b.length : Nat) : Int) := by unfold mx; split <;> omega
  intro d
  induction d with
  | zero =>
    intro i out c hi ho hlo c0 c1 hV
    refine Ev.step (fun k => by simp only [glossatorref01_sum.l0]; rfl) (Ev.neg (by rw [hmx]; omega) (Ev.bind (rtrim_f out (by omega)) (Ev.const ?_)))
    rw [List.drop_eq_nil_of_le (by omega), List.drop_eq_nil_of_le (by omega)] at hV
    simp only [V, Int.add_zero, Int.mul_zero] at hV
    have hc : c = 0 := by
      have h1 := V_lt ha.1
      have h2 := V_lt hb.1
      have h3 := V_nonneg hlo
      have h4 : (0 : Int) < 4294967296 ^ a.length := Int.pow_pos (by decide)
      have m1 : (4294967296 : Int) ^ a.length ≤ 4294967296 ^ (max a.length b.length) := pow_up (by omega)
      have m2 : (4294967296 : Int) ^ b.length ≤ 4294967296 ^ (max a.length b.length) := pow_up (by omega)
      have hi2 : i = max a.length b.length + 1 := by omega
      rw [hi2, Int.pow_succ] at hV
      rcases Int.lt_or_le 0 c with q | q
      · have : c = 1 := by omega
        rw [this] at hV
        omega
      · omega
    rw [trim_enc hlo]
    congr 2
    rw [hc] at hV
    omega
  | succ d ih =>
    intro i out c hi ho hlo c0 c1 hV
    have g1 := lim_bd ha.1 i
    have g2 := lim_bd hb.1 i
    refine Ev.step (fun k => by simp only [glossatorref01_sum.l0]; rfl) (Ev.pos (by rw [hmx]; omega) ?_)
    refine Ev.pre (at_f a ha.1 i) ?_
    refine Ev.pre (at_f b hb.1 i) ?_
    refine Ev.pos (show out.length < 35184372088832 by omega) ?_
    rw [u64_id (n := c + lim a i) (by omega) (by omega), u64_id (n := c + lim a i + lim b i) (by omega) (by omega), wrap_id (by omega) (by omega)]
    have := ih (i + 1) (out ++ [(c + lim a i + lim b i) % 4294967296]) ((c + lim a i + lim b i) / 4294967296) (by omega) (by simp [ho]) (hlo.app (Lim.cons (by omega) (by omega) Lim.nil)) (by omega) (by omega) ?_
    · exact this
    · rw [V_snoc, ho, Int.pow_succ, ← hV, V_lim a i, V_lim b i]
      exact sum_alg _ _ _ _ _ _ _ _ _ (by omega)
theorem sum_f (a b : List Int) (ha : okL a) (hb : okL b) : Ev (fun k => glossatorref01_sum.f k a b) (enc (V a + V b)) := by
  have := sum_l0 a b ha hb (max a.length b.length + 1) 0 [] 0 (by omega) rfl Lim.nil (by omega) (by omega) (by simp [V])
  exact this
def tab8 : ByteArray := (⟨#[0, 1, 2, 2, 3, 3, 3, 3, 4, 4, 4, 4, 4, 4, 4, 4, 5, 5, 5, 5, 5, 5, 5, 5, 5, 5, 5, 5, 5, 5, 5, 5, 6, 6, 6, 6, 6, 6, 6, 6, 6, 6, 6, 6, 6, 6, 6, 6, 6, 6, 6, 6, 6, 6, 6, 6, 6, 6, 6, 6, 6, 6, 6, 6, 7, 7, 7, 7, 7, 7, 7, 7, 7, 7, 7, 7, 7, 7, 7, 7, 7, 7, 7, 7, 7, 7, 7, 7, 7, 7, 7, 7, 7, 7, 7, 7, 7, 7, 7, 7, 7, 7, 7, 7, 7, 7, 7, 7, 7, 7, 7, 7, 7, 7, 7, 7, 7, 7, 7, 7, 7, 7, 7, 7, 7, 7, 7, 7, 8, 8, 8, 8, 8, 8, 8, 8, 8, 8, 8, 8, 8, 8, 8, 8, 8, 8, 8, 8, 8, 8, 8, 8, 8, 8, 8, 8, 8, 8, 8, 8, 8, 8, 8, 8, 8, 8, 8, 8, 8, 8, 8, 8, 8, 8, 8, 8, 8, 8, 8, 8, 8, 8, 8, 8, 8, 8, 8, 8, 8, 8, 8, 8, 8, 8, 8, 8, 8, 8, 8, 8, 8, 8, 8, 8, 8, 8, 8, 8, 8, 8, 8, 8, 8, 8, 8, 8, 8, 8, 8, 8, 8, 8, 8, 8, 8, 8, 8, 8, 8, 8, 8, 8, 8, 8, 8, 8, 8, 8, 8, 8, 8, 8, 8, 8, 8, 8, 8, 8, 8, 8, 8, 8, 8, 8, 8, 8]⟩ : ByteArray)
theorem tab8_ok : ∀ i : Nat, i < 256 → (i = 0 ∧ bt tab8 (i : Int) = 0) ∨ (1 ≤ bt tab8 (i : Int) ∧ bt tab8 (i : Int) ≤ 8 ∧ (2 : Int) ^ (bt tab8 (i : Int) - 1).toNat ≤ i ∧ (i : Int) < 2 ^ ((bt tab8 (i : Int) - 1).toNat + 1)) := by decide +kernel
theorem tab8_bl (i : Int) (h0 : 0 ≤ i) (h1 : i < 256) : bt ((⟨#[0, 1, 2, 2, 3, 3, 3, 3, 4, 4, 4, 4, 4, 4, 4, 4, 5, 5, 5, 5, 5, 5, 5, 5, 5, 5, 5, 5, 5, 5, 5, 5, 6, 6, 6, 6, 6, 6, 6, 6, 6, 6, 6, 6, 6, 6, 6, 6, 6, 6, 6, 6, 6, 6, 6, 6, 6, 6, 6, 6, 6, 6, 6, 6, 7, 7, 7, 7, 7, 7, 7, 7, 7, 7, 7, 7, 7, 7, 7, 7, 7, 7, 7, 7, 7, 7, 7, 7, 7, 7, 7, 7, 7, 7, 7, 7, 7, 7, 7, 7, 7, 7, 7, 7, 7, 7, 7, 7, 7, 7, 7, 7, 7, 7, 7, 7, 7, 7, 7, 7, 7, 7, 7, 7, 7, 7, 7, 7, 8, 8, 8, 8, 8, 8, 8, 8, 8, 8, 8, 8, 8, 8, 8, 8, 8, 8, 8, 8, 8, 8, 8, 8, 8, 8, 8, 8, 8, 8, 8, 8, 8, 8, 8, 8, 8, 8, 8, 8, 8, 8, 8, 8, 8, 8, 8, 8, 8, 8, 8, 8, 8, 8, 8, 8, 8, 8, 8, 8, 8, 8, 8, 8, 8, 8, 8, 8, 8, 8, 8, 8, 8, 8, 8, 8, 8, 8, 8, 8, 8, 8, 8, 8, 8, 8, 8, 8, 8, 8, 8, 8, 8, 8, 8, 8, 8, 8, 8, 8, 8, 8, 8, 8, 8, 8, 8, 8, 8, 8, 8, 8, 8, 8, 8, 8, 8, 8, 8, 8, 8, 8, 8, 8, 8, 8, 8, 8]⟩ : ByteArray)) i = bl i := by
  show bt tab8 i = bl i
  obtain ⟨n, rfl⟩ := Int.eq_ofNat_of_zero_le h0
  rcases tab8_ok n (by omega) with ⟨a, b⟩ | ⟨a, b, c, d⟩
  · subst a
    rw [b]
    exact (congrArg (fun z : Nat => (z : Int)) bl_zero).symm
  · have := bl_of c d
    omega
theorem wrap_two (c n : Int) (c0 : 0 ≤ c) (n0 : 0 ≤ n) (h : c + n ≤ 9223372036854775807) : wrap64 (c + wrap64 n) = c + n := by
  rw [wrap_id (x := n) (by omega) (by omega), wrap_id (by omega) h]
theorem bl_shift (x : Int) (m : Nat) (h : (2 : Int) ^ m ≤ x) : (bl x : Int) = m + bl (x / 2 ^ m) := by
  have pos : (0 : Int) < 2 ^ m := Int.pow_pos (by decide)
  rw [bl_div (by omega)]
  obtain ⟨k, hk, _⟩ := bl_ge (n := x) (by omega)
  have : ¬ bl x ≤ m := fun hq => by have := (bl_le (n := x) (k := m) (by omega)).1 hq; omega
  omega
theorem len32_f (x : Int) (h0 : 0 ≤ x) (h1 : x < 4294967296) : bits_Len32.f x = some (bl x : Int) := by
  unfold bits_Len32.f
  by_cases c1 : x ≥ 65536
  · have e1 := bl_shift x 16 c1
    rw [show (2 : Int) ^ 16 = 65536 by decide] at e1
    rw [if_pos c1]
    by_cases c2 : x / 65536 ≥ 256
    · have e2 := bl_shift (x / 65536) 8 c2
      rw [show (2 : Int) ^ 8 = 256 by decide] at e2
      rw [if_pos c2, show (x / 65536) / 256 % 256 = (x / 65536) / 256 by omega, if_pos (by omega), if_pos (by omega), tab8_bl _ (by omega) (by omega)]
      have : bl ((x / 65536) / 256) ≤ 8 := (bl_le (by omega)).2 (by show _ < (256 : Int); omega)
      rw [wrap_two _ _ (by decide) (by omega) (by omega)]
      congr 1; omega
    · rw [if_neg c2, show (x / 65536) % 256 = x / 65536 by omega, if_pos (by omega), if_pos (by omega), tab8_bl _ (by omega) (by omega)]
      have : bl (x / 65536) ≤ 8 := (bl_le (by omega)).2 (by show _ < (256 : Int); omega)
      rw [wrap_two _ _ (by decide) (by omega) (by omega)]
      congr 1; omega
  · rw [if_neg c1]
    by_cases c2 : x ≥ 256
    · have e2 := bl_shift x 8 c2
      rw [show (2 : Int) ^ 8 = 256 by decide] at e2
      rw [if_pos c2, show x / 256 % 256 = x / 256 by omega, if_pos (by omega), if_pos (by omega), tab8_bl _ (by omega) (by omega)]
      have : bl (x / 256) ≤ 8 := (bl_le (by omega)).2 (by show _ < (256 : Int); omega)
      rw [wrap_two _ _ (by decide) (by omega) (by omega)]
      congr 1; omega
    · rw [if_neg c2, show x % 256 = x by omega, if_pos (by omega), if_pos (by omega), tab8_bl _ (by omega) (by omega)]
      have : bl x ≤ 8 := (bl_le (by omega)).2 (by show _ < (256 : Int); omega)
      rw [wrap_two _ _ (by decide) (by omega) (by omega)]
      congr 1; omega
theorem bl32 {x : Int} (h0 : 0 ≤ x) (h1 : x < 4294967296) : bl x ≤ 32 := (bl_le h0).2 h1
theorem bits_f (a : List Int) (ha : okL a) : Ev (fun k => nat_Bits.f k a) (bl (V a) : Int) := by
  refine Ev.congr (fun k => by unfold nat_Bits.f; rfl) (Ev.bind (trim_f a (by have := ha.2; omega)) ?_)
  have hl := okL_trim' ha
  by_cases h : (trimL a).length = 0
  · refine Ev.pos (by omega) (Ev.const ?_)
    have : trimL a = [] := List.eq_nil_of_length_eq_zero h
    rw [← V_trim, this]
    simp [V, bl_zero]
  · have ht := trim_top a (by omega)
    have hb := bl_V (trimL a) ha.1.trim (by omega) ht
    have hg := ha.1.trim.get ((trimL a).length - 1) (by omega)
    have h32 := bl32 hg.1 hg.2
    refine Ev.neg (by omega) ?_
    rw [wrap_id (x := ((trimL a).length : Int) - 1) (by omega) (by omega)]
    refine Ev.pos (by omega) (Ev.pos (by omega) ?_)
    rw [show ((trimL a).length : Int) - 1 = (((trimL a).length - 1 : Nat) : Int) by omega, rd_get _ _ (by omega)]
    refine Ev.pre (len32_f _ hg.1 hg.2) (Ev.const ?_)
    rw [wrap_id (x := 32 * (((trimL a).length - 1 : Nat) : Int)) (by omega) (by omega), wrap_id (by omega) (by omega), ← V_trim a, hb]
    congr 1
theorem or32 (x y : Int) (s : Nat) (hs : s ≤ 32) (x0 : 0 ≤ x) (x1 : x < 2 ^ s) (y0 : 0 ≤ y) (y1 : y < 4294967296) (hy : y % 2 ^ s = 0) : Go.bits .or .u32 x y = x + y := by
  have hx : x < 4294967296 := Int.lt_of_lt_of_le x1 (by
    have h := Nat.pow_le_pow_right (n := 2) (by decide) hs
    have h2 : ((2 ^ s : Nat) : Int) ≤ ((2 ^ 32 : Nat) : Int) := Int.ofNat_le.2 h
    rw [Int.natCast_pow] at h2
    exact h2)
  have h := bits_join .u32 32 (by decide) (fun n h0 h1 => by rw [IntKind.wrap_u32]; omega) s y x y0 hy y1 x0 x1 hx
  have hc : Go.bits .or .u32 x y = Go.bits .or .u32 y x := by
    unfold Go.bits
    simp only
    rw [BitVec.or_comm]
  rw [hc, h]; omega
theorem drop_div (a : List Int) (ha : Lim a) (q : Nat) (h : q ≤ a.length) : V (a.drop q) = V a / 4294967296 ^ q := by
  have e := V_split a q h
  have h1 := V_lt (ha.take q)
  rw [List.length_take, Nat.min_eq_left h] at h1
  have h2 := V_nonneg (ha.take q)
  exact (div_of (n := V a) (r := V (a.take q)) (by rw [e]; omega) h2 h1).symm
theorem V_inj : ∀ (a b : List Int), Lim a → Lim b → a.length = b.length → V a = V b → a = b
  | [], [], _, _, _, _ => rfl
  | [], _ :: _, _, _, h, _ => by simp at h
  | _ :: _, [], _, _, h, _ => by simp at h
  | x :: a, y :: b, ha, hb, hl, hv => by
    have h1 := ha.head
    have h2 := hb.head
    simp only [V] at hv
    have hxy : x = y := by omega
    subst hxy
    rw [V_inj a b ha.tail hb.tail (by simpa using hl) (by omega)]
theorem lim_part (a : List Int) (ha : Lim a) (q s t : Nat) (hq : q ≤ a.length) (hst : s + t ≤ 32) : lim a q / 2 ^ s % 2 ^ t = V a / 2 ^ (32 * q + s) % 2 ^ t := by
  have hD : (0 : Int) < 2 ^ s := Int.pow_pos (by decide)
  have e0 : V a / 2 ^ (32 * q + s) = V (a.drop q) / 2 ^ s := by
    rw [drop_div a ha q hq, pow32, Int.pow_add, Int.ediv_ediv_of_nonneg (Int.le_of_lt (Int.pow_pos (by decide)))]
  rw [e0, V_lim a q]
  obtain ⟨z, hz⟩ : ∃ z, V (a.drop (q + 1)) = z := ⟨_, rfl⟩
  rw [hz]
  have e32 : (4294967296 : Int) * z = (2 ^ (32 - s - t) * z * 2 ^ t) * 2 ^ s := by
    have : (4294967296 : Int) = 2 ^ (32 - s - t) * 2 ^ t * 2 ^ s := by
      rw [← Int.pow_add, ← Int.pow_add, show 32 - s - t + t + s = 32 by omega]; decide
    rw [this]; grind
  rw [e32, Int.add_mul_ediv_right _ _ (by omega), Int.add_mul_emod_self_right]
theorem pow256n (i : Nat) : (256 : Int) ^ i = 2 ^ (8 * i) := by
  rw [Int.pow_mul]; rfl
theorem four (i : Nat) : 32 * (i / 4) + 8 * (i % 4) = 8 * i := by omega
theorem td4 (i : Nat) : Int.tdiv (i : Int) 4 = ((i / 4 : Nat) : Int) := by rw [Int.tdiv_eq_ediv_of_nonneg (by omega)]; omega
theorem tm4 (i : Nat) : Int.tmod (i : Int) 4 = ((i % 4 : Nat) : Int) := by rw [Int.tmod_eq_emod_of_nonneg (by omega)]; omega
def lowD : Nat → Int → List Int
  | 0, _ => []
  | i + 1, v => v / 256 ^ i % 256 :: lowD i v
theorem lowD_len : ∀ (n : Nat) (v : Int), (lowD n v).length = n
  | 0, _ => rfl
  | n + 1, v => by simp [lowD, lowD_len n]
theorem lowD_back : ∀ (n : Nat) (v : Int), lowD (n + 1) v = lowD n (v / 256) ++ [v % 256]
  | 0, v => by simp [lowD]
  | n + 1, v => by
    rw [lowD, lowD_back n v, lowD, List.cons_append]
    congr 2
    rw [Int.pow_succ, Int.mul_comm, Int.ediv_ediv_of_nonneg (by decide)]
def nby (v : Int) : Nat := (bl v + 7) / 8
theorem nby_le {v : Int} (h0 : 0 ≤ v) (k : Nat) : nby v ≤ k ↔ v < 256 ^ k := by
  rw [pow256n, ← bl_le h0]; unfold nby; omega
theorem byte_of (a : List Int) (ha : Lim a) (i : Nat) (hi : i / 4 < a.length) : shr .u32 (lim a (i / 4)) ((8 * (i % 4) : Nat) : Int) % 256 = V a / 256 ^ i % 256 := by
  have h9 := shr_small (k := .u32) (x := lim a (i / 4)) (y := ((8 * (i % 4) : Nat) : Int)) rfl (show ((8 * (i % 4) : Nat) : Int) ≤ ((32 : Nat) : Int) by omega)
  rw [← h9, Int.toNat_natCast]
  have := lim_part a ha (i / 4) (8 * (i % 4)) 8 (by omega) (by omega)
  rw [four] at this
  rw [pow256n]
  exact this
theorem set_rep (m : Nat) (L : List Int) (c : Int) : (List.replicate (m + 1) 0 ++ L).set m c = List.replicate m 0 ++ c :: L := by
  rw [List.replicate_succ', List.append_assoc, List.set_append_right _ _ (by simp)]
  simp
theorem bytes_l0 (a : List Int) (ha : Lim a) (n : Nat) (hn : n ≤ 281474976710656) (hla : n ≤ 4 * a.length) : ∀ (d i : Nat), i + d = n → Ev (fun k => nat_Bytes.l0 k a (n : Int) (List.replicate d 0 ++ lowD i (V a)) (n : Int) (i : Int)) (lowD n (V a)) := by
  intro d
  induction d with
  | zero =>
    intro i hi
    have : i = n := by omega
    subst this
    exact Ev.step (fun k => by simp only [nat_Bytes.l0]; rfl) (Ev.neg (by omega) (Ev.const (by simp)))
  | succ d ih =>
    intro i hi
    have hL : (List.replicate (d + 1) 0 ++ lowD i (V a)).length = n := by simp [lowD_len]; omega
    have e1 : wrap64 (Int.tdiv (i : Int) 4) = ((i / 4 : Nat) : Int) := by rw [td4, wrap_id (by omega) (by omega)]
    have e2 : wrap64 (8 * Int.tmod (i : Int) 4) = ((8 * (i % 4) : Nat) : Int) := by rw [tm4, wrap_id (by omega) (by omega)]; omega
    have e3 : wrap64 (wrap64 ((n : Int) - 1) - (i : Int)) = (d : Int) := by rw [wrap_id (x := (n : Int) - 1) (by omega) (by omega), wrap_id (by omega) (by omega)]; omega
    refine Ev.step (fun k => by simp only [nat_Bytes.l0]; rfl) ?_
    rw [e1, e2, e3, hL, rd_lim, byte_of a ha i (by omega), Int.toNat_natCast, set_rep, wrap_id (x := (i : Int) + 1) (by omega) (by omega)]
    refine Ev.pos (by omega) (Ev.pos (by omega) (Ev.pos (by omega) (Ev.pos (by omega) (Ev.pos (by omega) (Ev.pos (by omega) ?_)))))
    exact ih (i + 1) (by omega)
theorem bl_len (a : List Int) (ha : Lim a) : bl (V a) ≤ 32 * a.length := (len_bl (V_nonneg ha)).1 (by rw [← len_trim ha]; exact trim_len a)
theorem bytes_f (a : List Int) (ha : okL a) : Ev (fun k => nat_Bytes.f k a) (lowD (nby (V a)) (V a)) := by
  refine Ev.congr (fun k => by unfold nat_Bytes.f; rfl) (Ev.bind (bits_f a ha) ?_)
  have hl := bl_len a ha.1
  have hs := ha.2
  have e : wrap64 (Int.tdiv (wrap64 ((bl (V a) : Int) + 7)) 8) = (nby (V a) : Int) := by
    have h2 : Int.tdiv ((bl (V a) : Int) + 7) 8 = ((nby (V a) : Nat) : Int) := by rw [Int.tdiv_eq_ediv_of_nonneg (by omega)]; unfold nby; omega
    have h3 : nby (V a) ≤ 281474976710656 := by unfold nby; omega
    rw [wrap_id (x := (bl (V a) : Int) + 7) (by omega) (by omega), h2, wrap_id (by omega) (by omega)]
  have h3 : nby (V a) ≤ 281474976710656 := by unfold nby; omega
  rw [e, Int.toNat_natCast]
  refine Ev.pos (by omega) (Ev.pos h3 (Ev.pre rfl ?_))
  rw [List.length_replicate]
  have := bytes_l0 a ha.1 (nby (V a)) h3 (by unfold nby; omega) (nby (V a)) 0 (by omega)
  simpa [lowD] using this
def beV : List Int → Int
  | [] => 0
  | c :: l => c * 256 ^ l.length + beV l
def Byt (l : List Int) : Prop := ∀ x ∈ l, 0 ≤ x ∧ x < 256
theorem Byt.tail {x : Int} {l : List Int} (h : Byt (x :: l)) : Byt l := fun y hy => h y (by simp [hy])
theorem Byt.drop {l : List Int} (h : Byt l) (n : Nat) : Byt (l.drop n) := fun x hx => h x (List.mem_of_mem_drop hx)
theorem Byt.get {l : List Int} (h : Byt l) (j : Nat) (hj : j < l.length) : 0 ≤ l[j] ∧ l[j] < 256 := h _ (List.getElem_mem hj)
theorem beV_bd : ∀ (l : List Int), Byt l → 0 ≤ beV l ∧ beV l < 256 ^ l.length
  | [], _ => by simp [beV]
  | c :: l, h => by
    have ih := beV_bd l h.tail
    have hc := h c (by simp)
    simp only [beV, List.length_cons, Int.pow_succ]
    have h1 : c * 256 ^ l.length ≤ 255 * 256 ^ l.length := Int.mul_le_mul_of_nonneg_right (by omega) (Int.le_of_lt (Int.pow_pos (by decide)))
    have h2 : 0 ≤ c * 256 ^ l.length := Int.mul_nonneg hc.1 (Int.le_of_lt (Int.pow_pos (by decide)))
    omega
theorem beV_app : ∀ (a b : List Int), beV (a ++ b) = beV a * 256 ^ b.length + beV b
  | [], b => by simp [beV]
  | c :: a, b => by
    simp only [List.cons_append, beV, beV_app a b, List.length_append, Int.pow_add]
    grind
def dz : List Int → List Int
  | [] => []
  | x :: l => if x = 0 then dz l else x :: l
theorem lim_small (out : List Int) (ho : Lim out) (q s : Nat) (hq : q < out.length) (h : V out < 2 ^ (32 * q + s)) : lim out q < 2 ^ s := by
  have pos : (0 : Int) < 4294967296 ^ q := Int.pow_pos (by decide)
  have e := V_split out q (by omega)
  rw [V_lim out q] at e
  have h1 := V_nonneg (ho.take q)
  have h2 := V_nonneg (ho.drop (q + 1))
  rcases Int.lt_or_le (lim out q) (2 ^ s) with g | g
  · exact g
  · exfalso
    have h3 : (4294967296 : Int) ^ q * 2 ^ s ≤ 4294967296 ^ q * (lim out q + 4294967296 * V (out.drop (q + 1))) := Int.mul_le_mul_of_nonneg_left (by omega) (by omega)
    rw [Int.pow_add, ← pow32] at h
    omega
theorem pow_mono2 {a b : Nat} (h : a ≤ b) : (2 : Int) ^ a ≤ 2 ^ b := by
  have h := Nat.pow_le_pow_right (n := 2) (by decide) h
  have h2 : ((2 ^ a : Nat) : Int) ≤ ((2 ^ b : Nat) : Int) := Int.ofNat_le.2 h
  rw [Int.natCast_pow, Int.natCast_pow] at h2
  exact h2
theorem shl_byte (c : Int) (c0 : 0 ≤ c) (c1 : c < 256) (s : Nat) (hs : s ≤ 24) : shl .u32 (c % 4294967296) (s : Int) = c * 2 ^ s := by
  unfold shl
  have e : min (s : Int).toNat IntKind.u32.bits = s := by
    have : IntKind.u32.bits = 32 := rfl
    omega
  have h1 : c * 2 ^ s ≤ 255 * 2 ^ s := Int.mul_le_mul_of_nonneg_right (by omega) (Int.le_of_lt (Int.pow_pos (by decide)))
  have h2 : (2 : Int) ^ s ≤ 16777216 := pow_mono2 hs
  have h3 : 0 ≤ c * 2 ^ s := Int.mul_nonneg c0 (Int.le_of_lt (Int.pow_pos (by decide)))
  rw [e, show c % 4294967296 = c by omega, IntKind.wrap_u32]
  omega
def lby (n : Nat) : Nat := (n + 3) / 4
theorem fb_step (out : List Int) (ho : Lim out) (i : Nat) (c : Int) (c0 : 0 ≤ c) (c1 : c < 256) (hi : i / 4 < out.length) (hV : V out < 256 ^ i) :
    Go.bits .or .u32 (lim out (i / 4)) (c * 2 ^ (8 * (i % 4))) = lim out (i / 4) + c * 2 ^ (8 * (i % 4)) ∧ 0 ≤ lim out (i / 4) + c * 2 ^ (8 * (i % 4)) ∧ lim out (i / 4) + c * 2 ^ (8 * (i % 4)) < 4294967296 ∧
      V (out.set (i / 4) (lim out (i / 4) + c * 2 ^ (8 * (i % 4)))) = V out + c * 256 ^ i := by
  have hD : (0 : Int) < 2 ^ (8 * (i % 4)) := Int.pow_pos (by decide)
  have hs := lim_small out ho (i / 4) (8 * (i % 4)) hi (by rw [four, ← pow256n]; exact hV)
  have hg := lim_bd ho (i / 4)
  have h2 : (2 : Int) ^ (8 * (i % 4)) ≤ 16777216 := Int.le_trans (pow_mono2 (a := 8 * (i % 4)) (b := 24) (by omega)) (by decide)
  have h3 : 0 ≤ c * 2 ^ (8 * (i % 4)) := Int.mul_nonneg c0 (by omega)
  have h4 : (c + 1) * 2 ^ (8 * (i % 4)) ≤ 256 * 2 ^ (8 * (i % 4)) := Int.mul_le_mul_of_nonneg_right (by omega) (by omega)
  rw [Int.add_mul, Int.one_mul] at h4
  refine ⟨or32 _ _ (8 * (i % 4)) (by omega) hg.1 hs h3 (by omega) (Int.mul_emod_left _ _), by omega, by omega, ?_⟩
  rw [V_set_lim out _ _ hi, pow256n, ← four i, Int.pow_add, ← pow32]
  grind
theorem fb_nums (n d i : Nat) (hl : n ≤ 16384) (hi : i + (d + 1) = n) :
    wrap64 (Int.tdiv (i : Int) 4) = ((i / 4 : Nat) : Int) ∧ wrap64 (8 * Int.tmod (i : Int) 4) = ((8 * (i % 4) : Nat) : Int) ∧ wrap64 (wrap64 ((n : Int) - 1) - (i : Int)) = (d : Int) ∧ wrap64 ((i : Int) + 1) = ((i + 1 : Nat) : Int) ∧ i / 4 < lby n ∧ d < n ∧ n - (d + 1) = i ∧ (i : Int) < (n : Int) ∧ 8 * (i % 4) ≤ 24 ∧ i + 1 + d = n := by
  refine ⟨?_, ?_, ?_, by rw [wrap_id (by omega) (by omega)]; omega, by unfold lby; omega, by omega, by omega, by omega, by omega, by omega⟩
  · rw [td4, wrap_id (by omega) (by omega)]
  · rw [tm4, wrap_id (by omega) (by omega)]; omega
  · rw [wrap_id (x := (n : Int) - 1) (by omega) (by omega), wrap_id (by omega) (by omega)]; omega
theorem fb_l1 (l : List Int) (hb : Byt l) (hl : l.length ≤ 16384) : ∀ (d i : Nat) (out : List Int), i + d = l.length → out.length = lby l.length → Lim out → V out = beV (l.drop d) →
    ∃ r, Ev (fun k => nat_FromBytes.l1 k l out (l.length : Int) (i : Int)) (r, 0) ∧ Lim r ∧ r.length = lby l.length ∧ V r = beV l := by
  intro d
  induction d with
  | zero =>
    intro i out hi ho hlo hV
    exact ⟨out, Ev.step (fun k => by simp only [nat_FromBytes.l1]; rfl) (Ev.neg (by omega) (Ev.const rfl)), hlo, ho, hV⟩
  | succ d ih =>
    intro i out hi ho hlo hV
    obtain ⟨e1, e2, e3, e4, hq', hd, hni, hlt, h24, hi2⟩ := fb_nums l.length d i hl hi
    have hc := hb.get d hd
    have hq : i / 4 < out.length := by rw [ho]; exact hq'
    have hVb : V out < 256 ^ i := by
      rw [hV]
      have := (beV_bd _ (hb.drop (d + 1))).2
      rwa [List.length_drop, hni] at this
    obtain ⟨g1, g2, g3, g4⟩ := fb_step out hlo i l[d] hc.1 hc.2 hq hVb
    obtain ⟨r, h1, h2⟩ := ih (i + 1) (out.set (i / 4) (lim out (i / 4) + l[d] * 2 ^ (8 * (i % 4)))) hi2 (by rw [List.length_set]; exact ho) (hlo.set _ _ g2 g3) (by
      rw [g4, hV, List.drop_eq_getElem_cons hd, beV, List.length_drop, hni, Int.add_comm])
    refine ⟨r, Ev.step (fun k => by simp only [nat_FromBytes.l1]; rfl) ?_, h2⟩
    rw [e1, e2, e3, e4, rd_lim, rd_lim, lim_in l d hd, shl_byte _ hc.1 hc.2 _ h24, g1, Int.toNat_natCast]
    exact Ev.pos hlt (Ev.pos (Int.natCast_nonneg _) (Ev.pos (Int.ofNat_lt.2 hq) (Ev.pos (Int.natCast_nonneg _) (Ev.pos (Int.ofNat_lt.2 hd) (Ev.pos (Int.natCast_nonneg _) h1)))))
def FbA (l : List Int) (r : List Int × Int) : Prop := if (dz l).length > 16384 then r = ([], 2) else r.2 = 0 ∧ Lim r.1 ∧ r.1.length = lby (dz l).length ∧ V r.1 = beV (dz l)
theorem FbA_inj {l : List Int} {r r' : List Int × Int} (h : FbA l r) (h' : FbA l r') : r = r' := by
  unfold FbA at h h'
  split at h
  · rename_i g; rw [if_pos g] at h'; rw [h, h']
  · rename_i g; rw [if_neg g] at h'
    exact Prod.ext (V_inj _ _ h.2.1 h'.2.1 (h.2.2.1.trans h'.2.2.1.symm) (h.2.2.2.trans h'.2.2.2.symm)) (h.1.trans h'.1.symm)
theorem lby_wrap (n : Nat) (h : n ≤ 16384) : wrap64 (Int.tdiv (wrap64 ((n : Int) + 3)) 4) = (lby n : Int) := by
  have h2 : Int.tdiv ((n : Int) + 3) 4 = ((lby n : Nat) : Int) := by rw [Int.tdiv_eq_ediv_of_nonneg (by omega)]; unfold lby; omega
  have h3 : lby n ≤ 281474976710656 := by unfold lby; omega
  rw [wrap_id (x := (n : Int) + 3) (by omega) (by omega), h2, wrap_id (by omega) (by omega)]
theorem fb_j1 (l : List Int) (hb : Byt l) (h : dz l = l) : ∃ r, Ev (fun k => nat_FromBytes.j1 k l) r ∧ FbA l r := by
  unfold FbA
  rw [h]
  by_cases hl : l.length > 16384
  · exact ⟨([], 2), Ev.step (fun k => by simp only [nat_FromBytes.j1]; rfl) (Ev.pos (by omega) (Ev.const rfl)), by rw [if_pos hl]⟩
  · obtain ⟨r, h1, h2, h3, h4⟩ := fb_l1 l hb (by omega) l.length 0 (List.replicate (lby l.length) 0) (by omega) (by simp) (Lim.zeros _) (by rw [V_zeros, List.drop_length]; rfl)
    refine ⟨(r, 0), Ev.step (fun k => by simp only [nat_FromBytes.j1]; rfl) (Ev.neg (by omega) ?_), by rw [if_neg hl]; exact ⟨rfl, h2, h3, h4⟩⟩
    rw [lby_wrap _ (by omega), Int.toNat_natCast]
    have : lby l.length ≤ 16384 := by unfold lby; omega
    exact Ev.pos (by omega) (Ev.pos (by omega) h1)
theorem fb_l0 : ∀ (l : List Int), Byt l → l.length ≤ 140737488355327 → ∃ r, Ev (fun k => nat_FromBytes.l0 k l) r ∧ FbA l r
  | [], hb, _ => by
    obtain ⟨r, h1, h2⟩ := fb_j1 [] hb rfl
    exact ⟨r, Ev.step (fun k => by simp only [nat_FromBytes.l0]; rfl) (Ev.neg (by simp) h1), h2⟩
  | x :: l, hb, hl => by
    by_cases hx : x = 0
    · obtain ⟨r, h1, h2⟩ := fb_l0 l hb.tail (by simp at hl; omega)
      refine ⟨r, Ev.step (fun k => by simp only [nat_FromBytes.l0]; rfl) (Ev.pos (by simp only [List.length_cons]; omega) (Ev.pos (by simp only [List.length_cons]; omega) (Ev.pos (by simpa [rd] using hx) (Ev.pos (by simp only [List.length_cons]; omega) h1)))), ?_⟩
      unfold FbA at h2 ⊢
      simpa only [dz, if_pos hx] using h2
    · obtain ⟨r, h1, h2⟩ := fb_j1 (x :: l) hb (by simp only [dz, if_neg hx])
      exact ⟨r, Ev.step (fun k => by simp only [nat_FromBytes.l0]; rfl) (Ev.pos (by simp only [List.length_cons]; omega) (Ev.pos (by simp only [List.length_cons]; omega) (Ev.neg (by simpa [rd] using hx) h1))), h2⟩
theorem fb_f (l : List Int) (hb : Byt l) (hl : l.length ≤ 140737488355327) : ∃ r, Ev (fun k => nat_FromBytes.f k l) r ∧ FbA l r := by
  obtain ⟨r, h1, h2⟩ := fb_l0 l hb hl
  exact ⟨r, Ev.congr (fun k => by unfold nat_FromBytes.f; rfl) h1, h2⟩
theorem rfb_nums (n i : Nat) (hl : n ≤ 16384) (hi : i < n) :
    wrap64 (Int.tdiv (wrap64 (wrap64 ((n : Int) - 1) - (i : Int))) 4) = (((n - 1 - i) / 4 : Nat) : Int) ∧ wrap64 (8 * Int.tmod (wrap64 (wrap64 ((n : Int) - 1) - (i : Int))) 4) = ((8 * ((n - 1 - i) % 4) : Nat) : Int) ∧ wrap64 ((i : Int) + 1) = ((i + 1 : Nat) : Int) ∧ (n - 1 - i) / 4 < lby n ∧ (i : Int) < (n : Int) ∧ 8 * ((n - 1 - i) % 4) ≤ 24 ∧ n - (i + 1) = n - 1 - i ∧ n - i = n - 1 - i + 1 ∧ 8 * ((n - 1 - i) % 4) + 8 ≤ 32 := by
  have e : wrap64 (wrap64 ((n : Int) - 1) - (i : Int)) = ((n - 1 - i : Nat) : Int) := by rw [wrap_id (x := (n : Int) - 1) (by omega) (by omega), wrap_id (by omega) (by omega)]; omega
  refine ⟨?_, ?_, by rw [wrap_id (by omega) (by omega)]; omega, by unfold lby; omega, by omega, by omega, by omega, by omega, by omega⟩
  · rw [e, td4, wrap_id (by omega) (by omega)]
  · rw [e, tm4, wrap_id (by omega) (by omega)]; omega
theorem rfb_step (out : List Int) (ho : Lim out) (k : Nat) (c T : Int) (c0 : 0 ≤ c) (c1 : c < 256) (hk : k / 4 < out.length) (hV : V out = T * 256 ^ (k + 1)) :
    Go.bits .or .u32 (lim out (k / 4)) (c * 2 ^ (8 * (k % 4))) = lim out (k / 4) + c * 2 ^ (8 * (k % 4)) ∧ 0 ≤ lim out (k / 4) + c * 2 ^ (8 * (k % 4)) ∧ lim out (k / 4) + c * 2 ^ (8 * (k % 4)) < 4294967296 ∧
      V (out.set (k / 4) (lim out (k / 4) + c * 2 ^ (8 * (k % 4)))) = V out + c * 256 ^ k := by
  have hD : (0 : Int) < 2 ^ (8 * (k % 4)) := Int.pow_pos (by decide)
  have hg := lim_bd ho (k / 4)
  have hm : lim out (k / 4) % 2 ^ (8 * (k % 4) + 8) = 0 := by
    have h := lim_part out ho (k / 4) 0 (8 * (k % 4) + 8) (by omega) (by omega)
    rw [Int.pow_zero, Int.ediv_one] at h
    have e9 : 32 * (k / 4) + 0 = 32 * (k / 4) := rfl
    rw [e9] at h
    rw [h, hV, pow256n, show 8 * (k + 1) = (8 * (k % 4) + 8) + 32 * (k / 4) by omega, Int.pow_add, ← Int.mul_assoc, Int.mul_ediv_cancel _ (by have : (0 : Int) < 2 ^ (32 * (k / 4)) := Int.pow_pos (by decide); omega), Int.mul_emod_left]
  have h2 : (2 : Int) ^ (8 * (k % 4)) ≤ 16777216 := Int.le_trans (pow_mono2 (a := 8 * (k % 4)) (b := 24) (by omega)) (by decide)
  have h3 : 0 ≤ c * 2 ^ (8 * (k % 4)) := Int.mul_nonneg c0 (by omega)
  have h4 : (c + 1) * 2 ^ (8 * (k % 4)) ≤ 256 * 2 ^ (8 * (k % 4)) := Int.mul_le_mul_of_nonneg_right (by omega) (by omega)
  rw [Int.add_mul, Int.one_mul] at h4
  have e8 : (2 : Int) ^ (8 * (k % 4) + 8) = 256 * 2 ^ (8 * (k % 4)) := by rw [Int.pow_add, Int.mul_comm]; rfl
  have hlow : lim out (k / 4) + 256 * 2 ^ (8 * (k % 4)) ≤ 4294967296 := by
    have hE : (4294967296 : Int) = 2 ^ (8 * (k % 4) + 8) * 2 ^ (32 - (8 * (k % 4) + 8)) := by rw [← Int.pow_add, show 8 * (k % 4) + 8 + (32 - (8 * (k % 4) + 8)) = 32 by omega]; decide
    have h5 := Int.mul_ediv_add_emod (lim out (k / 4)) (2 ^ (8 * (k % 4) + 8))
    rw [hm, Int.add_zero] at h5
    have hp : (0 : Int) < 2 ^ (8 * (k % 4) + 8) := Int.pow_pos (by decide)
    have h6 : lim out (k / 4) / 2 ^ (8 * (k % 4) + 8) < 2 ^ (32 - (8 * (k % 4) + 8)) := Int.ediv_lt_of_lt_mul hp (by rw [Int.mul_comm, ← hE]; exact hg.2)
    have h7 : (2 : Int) ^ (8 * (k % 4) + 8) * (lim out (k / 4) / 2 ^ (8 * (k % 4) + 8) + 1) ≤ 2 ^ (8 * (k % 4) + 8) * 2 ^ (32 - (8 * (k % 4) + 8)) := Int.mul_le_mul_of_nonneg_left (by omega) (by omega)
    rw [← hE, Int.mul_add, h5, Int.mul_one, e8] at h7
    exact h7
  refine ⟨?_, by omega, by omega, ?_⟩
  · exact bits_join .u32 32 (by decide) (fun n h0 h1 => by rw [IntKind.wrap_u32]; omega) (8 * (k % 4) + 8) _ _ hg.1 hm hg.2 h3 (by rw [e8]; omega) (by omega)
  · rw [V_set_lim out _ _ hk, pow256n, ← four k, Int.pow_add, ← pow32]
    grind
theorem beV_snoc (l : List Int) (i : Nat) (hi : i < l.length) : beV (l.take (i + 1)) = beV (l.take i) * 256 + l[i] := by
  rw [List.take_succ_eq_append_getElem hi, beV_app]
  simp [beV]
theorem rfb_l1 (l : List Int) (hb : Byt l) (hl : l.length ≤ 16384) : ∀ (d i : Nat) (out : List Int), i + d = l.length → out.length = lby l.length → Lim out → V out = beV (l.take i) * 256 ^ (l.length - i) →
    ∃ r, Ev (fun k => glossatorref01_FromBytes.l1 k l out (i : Int)) (r, 0) ∧ Lim r ∧ r.length = lby l.length ∧ V r = beV l := by
  intro d
  induction d with
  | zero =>
    intro i out hi ho hlo hV
    refine ⟨out, Ev.step (fun k => by simp only [glossatorref01_FromBytes.l1]; rfl) (Ev.neg (by omega) (Ev.const rfl)), hlo, ho, ?_⟩
    rw [hV, List.take_of_length_le (by omega), show l.length - i = 0 by omega]; simp
  | succ d ih =>
    intro i out hi ho hlo hV
    have hil : i < l.length := by omega
    have hi2 : i + 1 + d = l.length := by omega
    obtain ⟨e1, e2, e4, hq', hlt, h24, hni, hni2, h32⟩ := rfb_nums l.length i hl hil
    have hc := hb.get i hil
    have hq : (l.length - 1 - i) / 4 < out.length := by rw [ho]; exact hq'
    rw [hni2] at hV
    obtain ⟨g1, g2, g3, g4⟩ := rfb_step out hlo (l.length - 1 - i) l[i] (beV (l.take i)) hc.1 hc.2 hq hV
    obtain ⟨r, h1, h2⟩ := ih (i + 1) (out.set ((l.length - 1 - i) / 4) (lim out ((l.length - 1 - i) / 4) + l[i] * 2 ^ (8 * ((l.length - 1 - i) % 4)))) hi2 (by rw [List.length_set]; exact ho) (hlo.set _ _ g2 g3) (by
      rw [g4, hV, beV_snoc l i hil, hni, Int.pow_succ]; grind)
    refine ⟨r, Ev.step (fun k => by simp only [glossatorref01_FromBytes.l1]; rfl) ?_, h2⟩
    rw [e1, e2, e4, rd_lim, rd_lim, lim_in l i hil, shl_byte _ hc.1 hc.2 _ h24, g1, Int.toNat_natCast]
    exact Ev.pos hlt (Ev.pos (Int.natCast_nonneg _) (Ev.pos (Int.ofNat_lt.2 hq) (Ev.pos (Int.natCast_nonneg _) (Ev.pos (Int.natCast_nonneg _) h1))))
theorem rfb_j1 (l : List Int) (i : Nat) (hi : i ≤ l.length) (hb : Byt (l.drop i)) (h : dz (l.drop i) = l.drop i) : ∃ r, Ev (fun k => glossatorref01_FromBytes.j1 k l (i : Int)) r ∧ FbA (l.drop i) r := by
  unfold FbA
  rw [h]
  obtain ⟨m, hm⟩ : ∃ m, l.drop i = m := ⟨_, rfl⟩
  rw [hm] at hb ⊢
  by_cases hl : m.length > 16384
  · refine ⟨([], 2), Ev.step (fun k => by simp only [glossatorref01_FromBytes.j1]; rfl) ?_, by rw [if_pos hl]⟩
    rw [Int.toNat_natCast, hm]
    exact Ev.pos (by omega) (Ev.pos (by omega) (Ev.pos (by omega) (Ev.const rfl)))
  · obtain ⟨r, h1, h2, h3, h4⟩ := rfb_l1 m hb (by omega) m.length 0 (List.replicate (lby m.length) 0) (by omega) (by simp) (Lim.zeros _) (by rw [V_zeros]; simp [beV])
    refine ⟨(r, 0), Ev.step (fun k => by simp only [glossatorref01_FromBytes.j1]; rfl) ?_, by rw [if_neg hl]; exact ⟨rfl, h2, h3, h4⟩⟩
    rw [Int.toNat_natCast, hm, lby_wrap _ (by omega), Int.toNat_natCast]
    have : lby m.length ≤ 16384 := by unfold lby; omega
    exact Ev.pos (by omega) (Ev.pos (by omega) (Ev.neg (by omega) (Ev.pos (by omega) (Ev.pos (by omega) h1))))
theorem rfb_l0 (l : List Int) (hb : Byt l) (hl : l.length ≤ 140737488355327) : ∀ (d i : Nat), i + d = l.length → ∃ r, Ev (fun k => glossatorref01_FromBytes.l0 k l (i : Int)) r ∧ FbA (l.drop i) r := by
  intro d
  induction d with
  | zero =>
    intro i hi
    have hn : l.drop i = [] := List.drop_eq_nil_of_le (by omega)
    obtain ⟨r, h1, h2⟩ := rfb_j1 l i (by omega) (hb.drop i) (by rw [hn]; rfl)
    exact ⟨r, Ev.step (fun k => by simp only [glossatorref01_FromBytes.l0]; rfl) (Ev.neg (by omega) h1), h2⟩
  | succ d ih =>
    intro i hi
    have hil : i < l.length := by omega
    have hd := List.drop_eq_getElem_cons hil
    by_cases hx : l[i] = 0
    · obtain ⟨r, h1, h2⟩ := ih (i + 1) (by omega)
      refine ⟨r, Ev.step (fun k => by simp only [glossatorref01_FromBytes.l0]; rfl) ?_, ?_⟩
      · rw [rd_lim, lim_in l i hil, wrap_id (by omega) (by omega)]
        exact Ev.pos (by omega) (Ev.pos (by omega) (Ev.pos hx h1))
      · unfold FbA at h2 ⊢
        simpa only [hd, dz, if_pos hx] using h2
    · obtain ⟨r, h1, h2⟩ := rfb_j1 l i (by omega) (hb.drop i) (by rw [hd]; simp only [dz, if_neg hx])
      refine ⟨r, Ev.step (fun k => by simp only [glossatorref01_FromBytes.l0]; rfl) ?_, h2⟩
      rw [rd_lim, lim_in l i hil]
      exact Ev.pos (by omega) (Ev.pos (by omega) (Ev.neg hx h1))
theorem rfb_f (l : List Int) (hb : Byt l) (hl : l.length ≤ 140737488355327) : ∃ r, Ev (fun k => glossatorref01_FromBytes.f k l) r ∧ FbA l r := by
  obtain ⟨r, h1, h2⟩ := rfb_l0 l hb hl l.length 0 (by omega)
  exact ⟨r, Ev.congr (fun k => by unfold glossatorref01_FromBytes.f; rfl) h1, h2⟩
def upB (v : Int) (p : Nat) : List Int := lowD (nby (v / 256 ^ p)) (v / 256 ^ p)
theorem upB_step (v : Int) (h0 : 0 ≤ v) (p : Nat) : upB v p = if upB v (p + 1) = [] ∧ v / 256 ^ p % 256 = 0 then [] else upB v (p + 1) ++ [v / 256 ^ p % 256] := by
  have pp : (0 : Int) < 256 ^ p := Int.pow_pos (by decide)
  obtain ⟨x, hx⟩ : ∃ x, v / 256 ^ p = x := ⟨_, rfl⟩
  have x0 : 0 ≤ x := by rw [← hx]; exact Int.ediv_nonneg h0 (Int.le_of_lt pp)
  have hx1 : v / 256 ^ (p + 1) = x / 256 := by rw [Int.pow_succ, ← Int.ediv_ediv_of_nonneg (Int.le_of_lt pp), hx]
  unfold upB
  rw [hx, hx1]
  have hnil : lowD (nby (x / 256)) (x / 256) = [] ↔ x / 256 = 0 := by
    rw [← List.length_eq_zero_iff, lowD_len, ← Nat.le_zero, nby_le (by omega)]
    simp; omega
  by_cases h : x = 0
  · rw [if_pos ⟨hnil.2 (by omega), by omega⟩, h]
    have : nby 0 = 0 := by unfold nby; rw [bl_zero]
    rw [this]; rfl
  · have hn : nby x = nby (x / 256) + 1 := by
      unfold nby
      have := bl_div (n := x) x0 8
      rw [show (2 : Int) ^ 8 = 256 by decide] at this
      rw [this]
      obtain ⟨k, hk, _⟩ := bl_ge (n := x) (by omega)
      by_cases h8 : bl x ≤ 8
      · omega
      · omega
    rw [if_neg (fun hc => by have := hnil.1 hc.1; omega), hn, lowD_back]
theorem upB_len (v : Int) (h0 : 0 ≤ v) (p : Nat) : (upB v p).length ≤ nby v := by
  unfold upB
  rw [lowD_len, nby_le (Int.ediv_nonneg h0 (Int.le_of_lt (Int.pow_pos (by decide))))]
  have h1 := (nby_le h0 (nby v)).1 (Nat.le_refl _)
  have := Int.ediv_le_self (256 ^ p) h0
  omega
theorem rby_l1 (x : List Int) (hx : Lim x) (hlx : x.length ≤ 35184372087808) (hs : nby (V x) ≤ 140737488355000) (j : Nat) (hj : j < x.length) (res : List Int)
    (cont : Ev (fun k => glossatorref01_Bytes.l0 k x (upB (V x) (4 * j)) ((j : Int) - 1)) res) : ∀ (m : Nat), m ≤ 4 → Ev (fun k => glossatorref01_Bytes.l1 k x (upB (V x) (4 * j + m)) (j : Int) (8 * (m : Int) - 8)) res := by
  intro m
  induction m with
  | zero =>
    intro _
    refine Ev.step (fun k => by simp only [glossatorref01_Bytes.l1]; rfl) (Ev.neg (by omega) ?_)
    rw [wrap_id (by omega) (by omega)]
    exact cont
  | succ m ih =>
    intro hm
    have hv := V_nonneg hx
    have e : (8 * ((m + 1 : Nat) : Int) - 8) = ((8 * m : Nat) : Int) := by omega
    have hb := byte_of x hx (4 * j + m) (by omega)
    rw [show (4 * j + m) / 4 = j by omega, show (4 * j + m) % 4 = m by omega] at hb
    have hst := upB_step (V x) hv (4 * j + m)
    have hln := upB_len (V x) hv (4 * j + m + 1)
    refine Ev.step (fun k => by simp only [glossatorref01_Bytes.l1]; rfl) ?_
    rw [e, rd_lim, hb, wrap_id (x := ((8 * m : Nat) : Int) - 8) (by omega) (by omega), show ((8 * m : Nat) : Int) - 8 = 8 * (m : Int) - 8 by omega]
    have ih' := ih (by omega)
    refine Ev.pos (by omega) (Ev.pos (by omega) (Ev.pos (by omega) (Ev.pos (by omega) ?_)))
    show Ev _ res
    rw [show 4 * j + (m + 1) = 4 * j + m + 1 by omega]
    by_cases hn : upB (V x) (4 * j + m + 1) = []
    · refine Ev.neg (by rw [hn]; simp) ?_
      by_cases hz : V x / 256 ^ (4 * j + m) % 256 = 0
      · rw [if_pos ⟨hn, hz⟩] at hst
        refine Ev.pos hz ?_
        rw [hn, ← hst]
        exact ih'
      · rw [if_neg (fun h => hz h.2)] at hst
        refine Ev.neg hz (Ev.pos (by omega) ?_)
        rw [← hst]
        exact ih'
    · rw [if_neg (fun h => hn h.1)] at hst
      have hpos : 0 < (upB (V x) (4 * j + m + 1)).length := List.length_pos_iff.2 hn
      refine Ev.pos (by omega) (Ev.pos (by omega) ?_)
      rw [← hst]
      exact ih'
theorem rby_l0 (x : List Int) (hx : Lim x) (hlx : x.length ≤ 35184372087808) (hs : nby (V x) ≤ 140737488355000) : ∀ (j : Nat), j ≤ x.length → Ev (fun k => glossatorref01_Bytes.l0 k x (upB (V x) (4 * j)) ((j : Int) - 1)) (upB (V x) 0) := by
  intro j
  induction j with
  | zero => intro _; exact Ev.step (fun k => by simp only [glossatorref01_Bytes.l0]; rfl) (Ev.neg (by omega) (Ev.const rfl))
  | succ j ih =>
    intro hj
    have e : (((j + 1 : Nat) : Int) - 1) = (j : Int) := by omega
    have := rby_l1 x hx hlx hs j (by omega) _ (ih (by omega)) 4 (by omega)
    refine Ev.step (fun k => by simp only [glossatorref01_Bytes.l0]; rfl) ?_
    rw [e, show 4 * (j + 1) = 4 * j + 4 by omega]
    exact Ev.pos (by omega) this
theorem rby_f (a : List Int) (ha : okL a) : Ev (fun k => glossatorref01_Bytes.f k a) (lowD (nby (V a)) (V a)) := by
  refine Ev.congr (fun k => by unfold glossatorref01_Bytes.f; rfl) (Ev.bind (rtrim_f a (by have := ha.2; omega)) ?_)
  have hl := okL_trim' ha
  have hb := bl_len a ha.1
  have h2 := ha.2
  rw [wrap_id (by omega) (by omega)]
  have := rby_l0 (trimL a) ha.1.trim hl (by rw [V_trim]; unfold nby; omega) (trimL a).length (Nat.le_refl _)
  rw [V_trim] at this
  have hz : upB (V a) (4 * (trimL a).length) = [] := by
    have h3 := V_lt ha.1.trim
    rw [V_trim, pow32] at h3
    have h4 : V a / 256 ^ (4 * (trimL a).length) = 0 := by
      rw [pow256n, show 8 * (4 * (trimL a).length) = 32 * (trimL a).length by omega]
      exact Int.ediv_eq_zero_of_lt (V_nonneg ha.1) h3
    unfold upB
    rw [h4]
    have : nby 0 = 0 := by unfold nby; rw [bl_zero]
    rw [this]; rfl
  rw [hz] at this
  have h0 : upB (V a) 0 = lowD (nby (V a)) (V a) := by unfold upB; rw [Int.pow_zero, Int.ediv_one]
  rw [h0] at this
  exact this
def dsmA (a : List Int) (d : Int) : List Int × Int × Int := if short [a] then (if d = 0 then ([], 0, 1) else (enc (V a / d), V a % d, 0)) else ([], 0, 2)
theorem div32_f (r x d : Int) (r0 : 0 ≤ r) (r1 : r < d) (x0 : 0 ≤ x) (x1 : x < 4294967296) (d1 : d < 4294967296) : bits_Div32.f r x d = some ((r * 4294967296 + x) / d, (r * 4294967296 + x) % d) := by
  have hor : Go.bits .or .u64 (IntKind.u64.wrap (r * 4294967296)) x = r * 4294967296 + x := by
    rw [u64_id (by omega) (by omega)]
    exact bits_join .u64 64 (by decide) (fun n h0 h1 => u64_id h0 h1) 32 _ _ (by omega) (by omega) (by omega) x0 x1 (by omega)
  have h0 : 0 ≤ (r * 4294967296 + x) / d := Int.ediv_nonneg (by omega) (by omega)
  have h1 : (r * 4294967296 + x) / d < 4294967296 := by
    rw [Int.ediv_lt_iff_lt_mul (by omega)]
    have : (r + 1) * 4294967296 ≤ d * 4294967296 := Int.mul_le_mul_of_nonneg_right (by omega) (by decide)
    omega
  have h2 := Int.emod_nonneg (r * 4294967296 + x) (show d ≠ 0 by omega)
  have h3 := Int.emod_lt_of_pos (r * 4294967296 + x) (show 0 < d by omega)
  unfold bits_Div32.f
  rw [if_neg (by omega), if_neg (by omega), u64_id (n := r) (by omega) (by omega), u64_id (n := x) (by omega) (by omega), u64_id (n := d) (by omega) (by omega), hor, if_neg (by omega), Int.tdiv_eq_ediv_of_nonneg (by omega), Int.tmod_eq_emod_of_nonneg (by omega), u64_id (n := (r * 4294967296 + x) / d) h0 (by omega), show (r * 4294967296 + x) / d % 4294967296 = (r * 4294967296 + x) / d by omega, show (r * 4294967296 + x) % d % 4294967296 = (r * 4294967296 + x) % d by omega]
theorem horner (a Q R x d : Int) (hR : a = d * Q + R) (_hd : 0 < d) : x + 4294967296 * a = d * ((R * 4294967296 + x) / d + 4294967296 * Q) + (R * 4294967296 + x) % d := by
  have h := Int.mul_ediv_add_emod (R * 4294967296 + x) d
  have h3 : x + 4294967296 * (d * Q + R) = (R * 4294967296 + x) + 4294967296 * d * Q := by grind
  rw [hR, h3, Int.mul_add]
  have h2 : d * (4294967296 * Q) = 4294967296 * d * Q := by grind
  omega
theorem quo_of {a d q r : Int} (h : a = d * q + r) (r0 : 0 ≤ r) (r1 : r < d) : a / d = q ∧ a % d = r := by
  have hd : 0 < d := by omega
  have e1 : a / d = q := div_of h r0 r1
  refine ⟨e1, ?_⟩
  have := Int.emod_def a d
  rw [this, e1]; omega
theorem dsm_l0 (a : List Int) (ha : Lim a) (d : Int) (d0 : 0 < d) (d1 : d < 4294967296) (hla : a.length ≤ 4096) : ∀ (i : Nat) (out : List Int) (r : Int), i ≤ a.length → out.length = a.length → Lim out → out.take i = a.take i → 0 ≤ r → r < d → V (a.drop i) = d * V (out.drop i) + r →
    Ev (fun k => nat_DivSmall.l0 k d out r ((i : Int) - 1)) (enc (V a / d), V a % d, 0) := by
  intro i
  induction i with
  | zero =>
    intro out r hi ho hlo ht r0 r1 hV
    simp only [List.drop_zero] at hV
    obtain ⟨e1, e2⟩ := quo_of hV r0 r1
    have hs : len (V out) ≤ 4096 := by
      have := trim_len out
      rw [len_trim hlo] at this
      omega
    refine Ev.step (fun k => by simp only [nat_DivSmall.l0]; rfl) (Ev.neg (by omega) (Ev.bind (told_f out hlo (by omega)) (Ev.const ?_)))
    rw [ans, if_pos hs, e1, e2]
  | succ i ih =>
    intro out r hi ho hlo ht r0 r1 hV
    have hia : i < a.length := by omega
    have hio : i < out.length := by omega
    have hx : lim out i = lim a i := by
      rw [lim_in out i hio, lim_in a i hia]
      have h1 := List.getElem_of_eq ht (i := i) (by simp; omega)
      simpa using h1
    have gx := lim_bd ha i
    have hq0 : 0 ≤ (r * 4294967296 + lim a i) / d := Int.ediv_nonneg (by omega) (by omega)
    have hq1 : (r * 4294967296 + lim a i) / d < 4294967296 := by
      rw [Int.ediv_lt_iff_lt_mul d0]
      have : (r + 1) * 4294967296 ≤ d * 4294967296 := Int.mul_le_mul_of_nonneg_right (by omega) (by decide)
      omega
    have e : (((i + 1 : Nat) : Int) - 1) = (i : Int) := by omega
    refine Ev.step (fun k => by simp only [nat_DivSmall.l0]; rfl) ?_
    rw [e, rd_lim, hx, wrap_id (x := (i : Int) - 1) (by omega) (by omega), Int.toNat_natCast]
    refine Ev.pos (by omega) (Ev.pos (by omega) (Ev.pos (by omega) (Ev.pre (div32_f r (lim a i) d r0 r1 gx.1 gx.2 d1) ?_)))
    refine ih (out.set i ((r * 4294967296 + lim a i) / d)) ((r * 4294967296 + lim a i) % d) (by omega) (by simp [ho]) (hlo.set _ _ hq0 hq1) ?_ (Int.emod_nonneg _ (by omega)) (Int.emod_lt_of_pos _ d0) ?_
    · rw [List.take_set_of_le (by omega)]
      have := congrArg (List.take i) ht
      rwa [List.take_take, List.take_take, Nat.min_eq_left (by omega)] at this
    · rw [V_lim a i, V_lim (out.set i _) i, List.drop_set_of_lt (by omega), lim_in (out.set i ((r * 4294967296 + lim a i) / d)) i (by simp; omega), List.getElem_set_self]
      exact horner _ _ _ _ _ hV d0
theorem dsm_f (a : List Int) (d : Int) (ha : okL a) (d0 : 0 ≤ d) (d1 : d < 4294967296) : Ev (fun k => nat_DivSmall.f k a d) (dsmA a d) := by
  refine Ev.congr (fun k => by unfold nat_DivSmall.f; rfl) (Ev.bind (fits_f [a] (fun x hx => by simp at hx; exact hx ▸ ha) (by simp)) ?_)
  by_cases h : short [a]
  · refine Ev.pos (by simpa using h) ?_
    by_cases hd : d = 0
    · exact Ev.pos hd (Ev.const (by rw [dsmA, if_pos h, if_pos hd]))
    · refine Ev.neg hd (Ev.bind (trim_f a (by have := ha.2; omega)) (Ev.pre (clone_f _ (by have := okL_trim' ha; omega)) ?_))
      have hl : (trimL a).length ≤ 4096 := by rw [len_trim ha.1]; exact h a (by simp)
      rw [wrap_id (x := ((trimL a).length : Int) - 1) (by omega) (by omega)]
      have := dsm_l0 (trimL a) ha.1.trim d (by omega) d1 hl (trimL a).length (trimL a) 0 (Nat.le_refl _) rfl ha.1.trim rfl (by omega) (by omega) (by simp [V])
      rw [V_trim] at this
      exact Ev.res this (by rw [dsmA, if_pos h, if_neg hd])
  · exact Ev.neg (by simpa using h) (Ev.const (by rw [dsmA, if_neg h]))
theorem rdsm_l0 (a : List Int) (ha : Lim a) (d : Int) (d0 : 0 < d) (d1 : d < 4294967296) (hla : a.length ≤ 4096) : ∀ (i : Nat) (out : List Int) (r : Int), i ≤ a.length → out.length = a.length → Lim out → out.take i = a.take i → 0 ≤ r → r < d → V (a.drop i) = d * V (out.drop i) + r →
    Ev (fun k => glossatorref01_DivSmall.l0 k d out r ((i : Int) - 1)) (enc (V a / d), V a % d, 0) := by
  intro i
  induction i with
  | zero =>
    intro out r hi ho hlo ht r0 r1 hV
    simp only [List.drop_zero] at hV
    obtain ⟨e1, e2⟩ := quo_of hV r0 r1
    refine Ev.step (fun k => by simp only [glossatorref01_DivSmall.l0]; rfl) (Ev.neg (by omega) (Ev.bind (rtrim_f out (by omega)) (Ev.const ?_)))
    rw [trim_enc hlo, e1, e2, show r % 4294967296 = r by omega]
  | succ i ih =>
    intro out r hi ho hlo ht r0 r1 hV
    have hia : i < a.length := by omega
    have hio : i < out.length := by omega
    have hx : lim out i = lim a i := by
      rw [lim_in out i hio, lim_in a i hia]
      have h1 := List.getElem_of_eq ht (i := i) (by simp; omega)
      simpa using h1
    have gx := lim_bd ha i
    have hq0 : 0 ≤ (r * 4294967296 + lim a i) / d := Int.ediv_nonneg (by omega) (by omega)
    have hq1 : (r * 4294967296 + lim a i) / d < 4294967296 := by
      rw [Int.ediv_lt_iff_lt_mul d0]
      have : (r + 1) * 4294967296 ≤ d * 4294967296 := Int.mul_le_mul_of_nonneg_right (by omega) (by decide)
      omega
    have hor : Go.bits .or .u64 (IntKind.u64.wrap (r * 4294967296)) (lim a i) = r * 4294967296 + lim a i := by
      rw [u64_id (by omega) (by omega)]
      exact bits_join .u64 64 (by decide) (fun n h0 h1 => u64_id h0 h1) 32 _ _ (by omega) (by omega) (by omega) gx.1 gx.2 (by omega)
    have e : (((i + 1 : Nat) : Int) - 1) = (i : Int) := by omega
    refine Ev.step (fun k => by simp only [glossatorref01_DivSmall.l0]; rfl) ?_
    rw [e, rd_lim, hx, wrap_id (x := (i : Int) - 1) (by omega) (by omega), Int.toNat_natCast, u64_id (n := lim a i) (by omega) (by omega), u64_id (n := d) (by omega) (by omega), hor, Int.tdiv_eq_ediv_of_nonneg (by omega), Int.tmod_eq_emod_of_nonneg (by omega), u64_id (n := (r * 4294967296 + lim a i) / d) hq0 (by omega), show (r * 4294967296 + lim a i) / d % 4294967296 = (r * 4294967296 + lim a i) / d by omega]
    refine Ev.pos (by omega) (Ev.pos (by omega) (Ev.pos (by omega) (Ev.neg (by omega) ?_)))
    refine ih (out.set i ((r * 4294967296 + lim a i) / d)) ((r * 4294967296 + lim a i) % d) (by omega) (by simp [ho]) (hlo.set _ _ hq0 hq1) ?_ (Int.emod_nonneg _ (by omega)) (Int.emod_lt_of_pos _ d0) ?_
    · rw [List.take_set_of_le (by omega)]
      have := congrArg (List.take i) ht
      rwa [List.take_take, List.take_take, Nat.min_eq_left (by omega)] at this
    · rw [V_lim a i, V_lim (out.set i _) i, List.drop_set_of_lt (by omega), lim_in (out.set i ((r * 4294967296 + lim a i) / d)) i (by simp; omega), List.getElem_set_self]
      exact horner _ _ _ _ _ hV d0
theorem rdsm_f (a : List Int) (d : Int) (ha : okL a) (d0 : 0 ≤ d) (d1 : d < 4294967296) : Ev (fun k => glossatorref01_DivSmall.f k a d) (dsmA a d) := by
  refine Ev.congr (fun k => by unfold glossatorref01_DivSmall.f; rfl) (Ev.bind (long_f [a] (fun x hx => by simp at hx; exact hx ▸ ha) (by simp)) ?_)
  by_cases h : short [a]
  · refine Ev.neg (by simpa using h) ?_
    by_cases hd : d = 0
    · exact Ev.pos hd (Ev.const (by rw [dsmA, if_pos h, if_pos hd]))
    · refine Ev.neg hd (Ev.bind (rtrim_f a (by have := ha.2; omega)) ?_)
      have hl : (trimL a).length ≤ 4096 := by rw [len_trim ha.1]; exact h a (by simp)
      rw [wrap_id (x := ((trimL a).length : Int) - 1) (by omega) (by omega)]
      have := rdsm_l0 (trimL a) ha.1.trim d (by omega) d1 hl (trimL a).length (trimL a) 0 (Nat.le_refl _) rfl ha.1.trim rfl (by omega) (by omega) (by simp [V])
      rw [V_trim] at this
      exact Ev.res this (by rw [dsmA, if_pos h, if_neg hd])
  · exact Ev.pos (by simpa using h) (Ev.const (by rw [dsmA, if_neg h]))
def decL (v : Int) : List Int := if h : v ≤ 0 then [] else (48 + v % 10) :: decL (v / 10)
termination_by v.toNat
decreasing_by omega
theorem decL_zero : decL 0 = [] := by unfold decL; rfl
theorem decL_pos {v : Int} (h : 0 < v) : decL v = (48 + v % 10) :: decL (v / 10) := by rw [decL, dif_neg (by omega)]
theorem decL_len : ∀ (k : Nat) (v : Int), 0 ≤ v → v < 2 ^ k → (decL v).length ≤ k
  | 0, v, h0, h1 => by
    rw [Int.pow_zero] at h1
    rw [show v = 0 by omega, decL_zero]; simp
  | k + 1, v, h0, h1 => by
    rw [Int.pow_succ] at h1
    by_cases h : v = 0
    · rw [h, decL_zero]; simp
    · rw [decL_pos (by omega), List.length_cons]
      have := decL_len k (v / 10) (by omega) (by omega)
      omega
theorem dec_split (A r d10 q : Int) (hA : A = q * d10) : q * (d10 * 10) + r = A * 10 + r := by rw [hA]; grind
theorem dec_step (q r : Int) (d : Nat) (_q0 : 0 ≤ q) (_r0 : 0 ≤ r) (hN : 0 < q * 10 ^ (d + 1) + r) : decL (q * 10 ^ (d + 1) + r) = (48 + r % 10) :: decL (q * 10 ^ d + r / 10) := by
  obtain ⟨A, hA⟩ : ∃ A, q * 10 ^ d = A := ⟨_, rfl⟩
  have e : q * 10 ^ (d + 1) + r = A * 10 + r := by rw [Int.pow_succ]; exact dec_split A r _ q hA.symm
  rw [e] at hN ⊢
  rw [decL_pos hN, hA, show (A * 10 + r) % 10 = r % 10 by omega, show (A * 10 + r) / 10 = A + r / 10 by omega]
theorem pow10_9 (d : Nat) (h : d ≤ 9) : (10 : Int) ^ d ≤ 1000000000 := by
  have h := Nat.pow_le_pow_right (n := 10) (by decide) h
  have h2 : ((10 ^ d : Nat) : Int) ≤ ((10 ^ 9 : Nat) : Int) := Int.ofNat_le.2 h
  rw [Int.natCast_pow] at h2
  exact h2
theorem enc_len_pos {q : Int} (h : 0 < q) : 0 < (enc q).length := by rw [enc_pos h]; simp
theorem dg_nums (d : Nat) (h : d + 1 ≤ 9) (r : Int) (r0 : 0 ≤ r) (r1 : r < 10 ^ (d + 1)) :
    (48 + Int.tmod r 10) % 256 = 48 + r % 10 ∧ Int.tdiv r 10 % 4294967296 = r / 10 ∧ wrap64 (((9 - (d + 1) : Nat) : Int) + 1) = ((9 - d : Nat) : Int) ∧ ((9 - (d + 1) : Nat) : Int) < 9 ∧ 0 ≤ r / 10 ∧ r / 10 < 10 ^ d := by
  have h9 := pow10_9 (d + 1) h
  rw [Int.pow_succ] at r1 h9
  rw [Int.tmod_eq_emod_of_nonneg r0, Int.tdiv_eq_ediv_of_nonneg r0]
  exact ⟨by omega, by omega, by rw [wrap_id (by omega) (by omega)]; omega, by omega, by omega, by omega⟩
theorem dg_l1 (total : List Int) (hT : total.length ≤ 200000) (res : ByteArray × Int) (q : Int) (q0 : 0 ≤ q) (cont : ∀ out, out ++ decL q = total → Ev (fun k => nat_Digits.l0 k (enc q) out) res) :
    ∀ (d : Nat) (r : Int) (out : List Int), d ≤ 9 → 0 ≤ r → r < 10 ^ d → out ++ decL (q * 10 ^ d + r) = total → Ev (fun k => nat_Digits.l1 k (enc q) out r ((9 - d : Nat) : Int)) res := by
  intro d
  induction d with
  | zero =>
    intro r out _ r0 r1 ho
    rw [Int.pow_zero] at r1
    rw [show r = 0 by omega, Int.pow_zero, Int.mul_one, Int.add_zero] at ho
    exact Ev.step (fun k => by simp only [nat_Digits.l1]; rfl) (Ev.neg (by omega) (cont out ho))
  | succ d ih =>
    intro r out hd r0 r1 ho
    obtain ⟨e1, e2, e3, e4, g0, g1⟩ := dg_nums d hd r r0 r1
    have app : 0 < q * 10 ^ (d + 1) + r → out.length < 140737488355328 ∧ Ev (fun k => nat_Digits.l1 k (enc q) (out ++ [48 + r % 10]) (r / 10) ((9 - d : Nat) : Int)) res := by
      intro hN
      rw [dec_step q r d q0 r0 hN] at ho
      have hl : out.length ≤ total.length := by rw [← ho]; simp
      exact ⟨by omega, ih (r / 10) (out ++ [48 + r % 10]) (by omega) g0 g1 (by rw [List.append_assoc]; exact ho)⟩
    have hq : 0 ≤ q * 10 ^ (d + 1) := Int.mul_nonneg q0 (Int.le_of_lt (Int.pow_pos (by decide)))
    refine Ev.step (fun k => by simp only [nat_Digits.l1]; rfl) ?_
    rw [e1, e2, e3]
    refine Ev.pos e4 ?_
    by_cases hr : r > 0
    · obtain ⟨h1, h2⟩ := app (by omega)
      exact Ev.pos hr (Ev.pos h1 h2)
    · refine Ev.neg hr ?_
      by_cases hq0 : 0 < q
      · have hp := enc_len_pos hq0
        have : 0 < q * 10 ^ (d + 1) := Int.mul_pos hq0 (Int.pow_pos (by decide))
        obtain ⟨h1, h2⟩ := app (by omega)
        exact Ev.pos (by omega) (Ev.pos h1 h2)
      · have hz : q = 0 := by omega
        have hz2 : q * 10 ^ (d + 1) + r = 0 := by rw [hz]; simp; omega
        rw [hz2, decL_zero] at ho
        refine Ev.neg (by rw [hz, enc_zero]; simp) (cont out ?_)
        rw [hz, decL_zero]; exact ho
theorem rev_end (l x : List Int) (i : Nat) (hx : x.length = l.length) (h : ∀ p, p < l.length → x.getD p 0 = if p < i ∨ l.length ≤ p + i then l.getD (l.length - 1 - p) 0 else l.getD p 0) (hi : l.length ≤ 2 * i + 1) : x = l.reverse := by
  apply List.ext_getElem (by rw [List.length_reverse]; exact hx)
  intro p h1 h2
  have hp : p < l.length := by omega
  have := h p hp
  rw [List.getElem_reverse]
  rw [List.getD_eq_getElem?_getD, List.getElem?_eq_getElem h1] at this
  have hg : ∀ j (hj : j < l.length), l.getD j 0 = l[j] := fun j hj => by rw [List.getD_eq_getElem?_getD, List.getElem?_eq_getElem hj]; rfl
  split at this
  · rw [hg _ (by omega)] at this; exact this
  · rename_i hc
    rw [hg _ hp] at this
    have e : l.length - 1 - p = p := by omega
    simp only [e]
    exact this
theorem rev_nums (n i : Nat) (hn : n ≤ 200000) (h : 2 * i + 1 < n) : ((n : Int) - 1 - (i : Int)) = ((n - 1 - i : Nat) : Int) ∧ wrap64 ((i : Int) + 1) = ((i + 1 : Nat) : Int) ∧ wrap64 ((n : Int) - 1 - (i : Int) - 1) = (n : Int) - 1 - ((i + 1 : Nat) : Int) ∧ (i : Int) < (n : Int) - 1 - (i : Int) ∧ n - 1 - i < n ∧ i < n ∧ i < n - 1 - i := by
  refine ⟨by omega, ?_, ?_, by omega, by omega, by omega, by omega⟩
  · rw [wrap_id (by omega) (by omega)]; omega
  · rw [wrap_id (by omega) (by omega)]; omega
theorem rev_l0 (l : List Int) (hl : l.length ≤ 200000) : ∀ (d i : Nat) (x : List Int), l.length ≤ 2 * i + d → x.length = l.length → (∀ p, p < l.length → x.getD p 0 = if p < i ∨ l.length ≤ p + i then l.getD (l.length - 1 - p) 0 else l.getD p 0) →
    Ev (fun k => slices_Reverse_byte_byte.l0 k x (i : Int) ((l.length : Int) - 1 - (i : Int))) l.reverse := by
  intro d
  induction d with
  | zero =>
    intro i x hd hx h
    exact Ev.step (fun k => by simp only [slices_Reverse_byte_byte.l0]; rfl) (Ev.neg (by omega) (Ev.const (by rw [rev_end l x i hx h (by omega)])))
  | succ d ih =>
    intro i x hd hx h
    by_cases hc : 2 * i + 1 < l.length
    · obtain ⟨e1, e2, e3, g1, g2, g3, g4⟩ := rev_nums l.length i hl hc
      refine Ev.step (fun k => by simp only [slices_Reverse_byte_byte.l0]; rfl) ?_
      rw [e2, e3]
      refine Ev.pos g1 ?_
      rw [e1, rd_lim, rd_lim, Int.toNat_natCast, Int.toNat_natCast, hx]
      refine Ev.pos (Int.natCast_nonneg _) (Ev.pos (Int.ofNat_lt.2 g2) (Ev.pos (Int.natCast_nonneg _) (Ev.pos (Int.ofNat_lt.2 g3) ?_)))
      refine ih (i + 1) _ (by omega) (by rw [List.length_set, List.length_set]; exact hx) (fun p hp => ?_)
      have hi := h i g3
      have hj := h (l.length - 1 - i) g2
      rw [if_neg (by omega)] at hi hj
      have hpp := h p hp
      unfold lim
      rw [hi, hj]
      simp only [List.getD_eq_getElem?_getD] at hpp ⊢
      by_cases hpj : l.length - 1 - i = p
      · rw [if_pos (by omega), hpj, List.getElem?_set_self (by rw [List.length_set, hx]; exact hp), Option.getD_some, show l.length - 1 - p = i by omega]
      · rw [List.getElem?_set_ne hpj]
        by_cases hpi : i = p
        · rw [if_pos (by omega), hpi, List.getElem?_set_self (by rw [hx]; exact hp), Option.getD_some]
        · rw [List.getElem?_set_ne hpi, hpp]
          by_cases hq : p < i ∨ l.length ≤ p + i
          · rw [if_pos hq, if_pos (by omega)]
          · rw [if_neg hq, if_neg (by omega)]
    · exact Ev.step (fun k => by simp only [slices_Reverse_byte_byte.l0]; rfl) (Ev.neg (by omega) (Ev.const (by rw [rev_end l x i hx h (by omega)])))
theorem rev_f (l : List Int) (hl : l.length ≤ 200000) : Ev (fun k => slices_Reverse_byte_byte.f k l) l.reverse := by
  refine Ev.congr (fun k => by unfold slices_Reverse_byte_byte.f; rfl) ?_
  have := rev_l0 l hl l.length 0 l (by omega) rfl (fun p hp => by rw [if_neg (by omega)])
  rw [wrap_id (by omega) (by omega)]
  simpa using this
def resD (total : List Int) : ByteArray × Int := (if total = [] then ⟨#[48]⟩ else strOfNums total.reverse, 0)
theorem dg_l0 (total : List Int) (hT : total.length ≤ 200000) : ∀ (m : Nat) (v : Int), v.toNat = m → 0 ≤ v → len v ≤ 4096 → ∀ out, out ++ decL v = total → Ev (fun k => nat_Digits.l0 k (enc v) out) (resD total) := by
  intro m
  induction m using Nat.strongRecOn with
  | _ m ih =>
    intro v hm v0 lv out ho
    by_cases hv : v = 0
    · subst hv
      rw [decL_zero, List.append_nil] at ho
      subst ho
      refine Ev.step (fun k => by simp only [nat_Digits.l0]; rfl) (Ev.neg (by rw [enc_zero]; simp) ?_)
      by_cases hn : out = []
      · exact Ev.pos (by rw [hn]; rfl) (Ev.const (by rw [resD, if_pos hn]))
      · have : 0 < out.length := List.length_pos_iff.2 hn
        exact Ev.neg (by omega) (Ev.bind (rev_f out hT) (Ev.const (by rw [resD, if_neg hn])))
    · have hp := enc_len_pos (q := v) (by omega)
      have sh : short [enc v] := fun x hx => by simp at hx; subst hx; rw [V_enc v0]; exact lv
      have hd := dsm_f (enc v) 1000000000 (okL.enc (by omega)) (by decide) (by decide)
      unfold dsmA at hd
      rw [if_pos sh, if_neg (by decide), V_enc v0] at hd
      have lq : len (v / 1000000000) ≤ 4096 := Nat.le_trans (len_mono (by omega) (by omega)) lv
      refine Ev.step (fun k => by simp only [nat_Digits.l0]; rfl) (Ev.pos (by omega) (Ev.bind hd ?_))
      refine dg_l1 total hT (resD total) (v / 1000000000) (by omega) (fun out' ho' => ih (v / 1000000000).toNat (by omega) _ rfl (by omega) lq out' ho') 9 (v % 1000000000) out (Nat.le_refl _) (by omega) (by show _ < (1000000000 : Int); omega) ?_
      rw [show v / 1000000000 * 10 ^ 9 + v % 1000000000 = v by show v / 1000000000 * 1000000000 + v % 1000000000 = v; omega]
      exact ho
def dgA (a : List Int) : ByteArray × Int := if short [a] then resD (decL (V a)) else (⟨#[]⟩, 2)
theorem decL_short (a : List Int) (ha : Lim a) (h : short [a]) : (decL (V a)).length ≤ 200000 := by
  have v0 := V_nonneg ha
  have h1 := (len_bl v0).1 (h a (by simp))
  have := decL_len (bl (V a)) (V a) v0 (lt_bl v0)
  omega
theorem dg_f (a : List Int) (ha : okL a) : Ev (fun k => nat_Digits.f k a) (dgA a) := by
  refine Ev.congr (fun k => by unfold nat_Digits.f; rfl) (Ev.bind (fits_f [a] (fun x hx => by simp at hx; exact hx ▸ ha) (by simp)) ?_)
  unfold dgA
  by_cases h : short [a]
  · rw [if_pos h]
    refine Ev.pos (by simpa using h) (Ev.bind (trim_f a (by have := ha.2; omega)) (Ev.pre (clone_f (trimL a) (by have := okL_trim' ha; omega)) ?_))
    rw [trim_enc ha.1]
    exact dg_l0 _ (decL_short a ha.1 h) _ (V a) rfl (V_nonneg ha.1) (h a (by simp)) [] rfl
  · rw [if_neg h]
    exact Ev.neg (by simpa using h) (Ev.const rfl)
theorem bytesOf_byt (s : ByteArray) : Byt (bytesOf s) := fun x hx => by
  unfold bytesOf at hx
  obtain ⟨b, _, rfl⟩ := List.mem_map.1 hx
  have := b.toNat_lt
  omega
theorem bytesOf_extract (s : ByteArray) (a b : Nat) : bytesOf (s.extract a b) = ((bytesOf s).take b).drop a := by
  unfold bytesOf
  rw [ByteArray.data_extract, Array.toList_extract, ← List.map_take, ← List.map_drop]
  congr 1
  rw [List.extract_eq_take_drop, List.drop_take]
theorem toList_nil (s : ByteArray) : s.toList = [] ↔ s.size = 0 := by
  rw [show s.toList = s.data.toList from ByteArray.toList_eq s, ← List.length_eq_zero_iff, data_length]
def decV : Int → List Int → Int
  | a, [] => a
  | a, c :: l => decV (a * 10 + (c - 48)) l
def Dg (l : List Int) : Prop := ∀ x ∈ l, 48 ≤ x ∧ x ≤ 57
theorem Dg.tail {x : Int} {l : List Int} (h : Dg (x :: l)) : Dg l := fun y hy => h y (by simp [hy])
theorem Dg.take {l : List Int} (h : Dg l) (n : Nat) : Dg (l.take n) := fun x hx => h x (List.mem_of_mem_take hx)
theorem Dg.drop {l : List Int} (h : Dg l) (n : Nat) : Dg (l.drop n) := fun x hx => h x (List.mem_of_mem_drop hx)
theorem decV_app : ∀ (l m : List Int) (a : Int), decV a (l ++ m) = decV (decV a l) m
  | [], m, a => rfl
  | c :: l, m, a => by simp only [List.cons_append, decV]; exact decV_app l m _
theorem decV_lin : ∀ (l : List Int) (a : Int), decV a l = a * 10 ^ l.length + decV 0 l
  | [], a => by simp [decV]
  | c :: l, a => by
    simp only [decV, List.length_cons]
    rw [decV_lin l (a * 10 + (c - 48)), decV_lin l (0 * 10 + (c - 48)), Int.pow_succ]
    grind
theorem decV_bd : ∀ (l : List Int), Dg l → 0 ≤ decV 0 l ∧ decV 0 l < 10 ^ l.length
  | [], _ => by simp [decV]
  | c :: l, h => by
    have ih := decV_bd l h.tail
    have hc := h c (by simp)
    simp only [decV, List.length_cons]
    rw [decV_lin, Int.pow_succ]
    have h1 : (c - 48) * 10 ^ l.length ≤ 9 * 10 ^ l.length := Int.mul_le_mul_of_nonneg_right (by omega) (Int.le_of_lt (Int.pow_pos (by decide)))
    have h2 : 0 ≤ (c - 48) * 10 ^ l.length := Int.mul_nonneg (by omega) (Int.le_of_lt (Int.pow_pos (by decide)))
    rw [show (0 : Int) * 10 + (c - 48) = c - 48 by omega]
    omega
theorem fd_l2 (s : ByteArray) (x : List Int) (n : Int) (t : List Int) (ht : Dg t) (hl : t.length ≤ 9) (res : List Int × Int) (cont : Ev (fun k => nat_FromDigits.l2 k s x n (decV 0 t) (10 ^ t.length) t (t.length : Int) (t.length : Int)) res) :
    ∀ (d i : Nat), i + d = t.length → Ev (fun k => nat_FromDigits.l2 k s x n (decV 0 (t.take i)) (10 ^ i) t (t.length : Int) (i : Int)) res := by
  intro d
  induction d with
  | zero =>
    intro i hi
    have : i = t.length := by omega
    subst this
    rw [List.take_length]
    exact cont
  | succ d ih =>
    intro i hi
    have hit : i < t.length := by omega
    have hc := ht _ (List.getElem_mem hit)
    have hb := decV_bd _ (ht.take i)
    rw [List.length_take, Nat.min_eq_left (by omega)] at hb
    have h9 := pow10_9 (i + 1) (by omega)
    have hp : (0 : Int) < 10 ^ i := Int.pow_pos (by decide)
    rw [Int.pow_succ] at h9
    refine Ev.step (fun k => by simp only [nat_FromDigits.l2]; rfl) ?_
    have e1 : ((10 * decV 0 (t.take i)) % 4294967296 + (t[i] - 48) % 256) % 4294967296 = decV 0 (t.take (i + 1)) := by
      rw [List.take_succ_eq_append_getElem hit, decV_app]
      simp only [decV]
      omega
    have e2 : (10 * (10 : Int) ^ i) % 4294967296 = 10 ^ (i + 1) := by rw [Int.pow_succ]; omega
    rw [rd_get t i hit, e1, e2, wrap_id (x := (i : Int) + 1) (by omega) (by omega)]
    exact Ev.pos (by omega) (Ev.pos (by omega) (Ev.pos (by omega) (ih (i + 1) (by omega))))
theorem dec_short {v : Int} {k : Nat} (h0 : 0 ≤ v) (h : v < 10 ^ k) (hk : k ≤ 4096) : len v ≤ 4096 := by
  refine Nat.le_trans ((len_le h0).2 ?_) hk
  have h1 := Nat.pow_le_pow_left (show 10 ≤ 4294967296 by decide) k
  have h2 : ((10 ^ k : Nat) : Int) ≤ ((4294967296 ^ k : Nat) : Int) := Int.ofNat_le.2 h1
  rw [Int.natCast_pow, Int.natCast_pow] at h2
  exact Int.lt_of_lt_of_le h h2
theorem fd_nums (m : Nat) (hm : 0 < m) (hl : m ≤ 4096) : ∃ n : Nat, wrap64 (Int.tmod (wrap64 ((m : Int) - 1)) 9 + 1) = (n : Int) ∧ 0 < n ∧ n ≤ 9 ∧ n ≤ m := by
  refine ⟨(m - 1) % 9 + 1, ?_, by omega, by omega, by omega⟩
  rw [wrap_id (x := (m : Int) - 1) (by omega) (by omega), Int.tmod_eq_emod_of_nonneg (by omega), wrap_id (by omega) (by omega)]
  omega
theorem fd_l1 : ∀ (m : Nat) (s : ByteArray) (v : Int) (e : Nat), s.size = m → Dg (bytesOf s) → 0 ≤ v → v < 10 ^ e → e + m ≤ 4096 → Ev (fun k => nat_FromDigits.l1 k s (enc v)) (enc (decV v (bytesOf s)), 0) := by
  intro m
  induction m using Nat.strongRecOn with
  | _ m ih =>
    intro s v e hs hd v0 v1 he
    by_cases hm : m = 0
    · have hb : bytesOf s = [] := List.eq_nil_of_length_eq_zero (by rw [bytesOf_length]; omega)
      refine Ev.step (fun k => by simp only [nat_FromDigits.l1]; rfl) (Ev.pos ((toList_nil s).2 (by omega)) (Ev.const ?_))
      rw [hb]; rfl
    · obtain ⟨n, en, n0, n9, nm⟩ := fd_nums m (by omega) (by omega)
      have ht : bytesOf (s.extract 0 n) = (bytesOf s).take n := by rw [bytesOf_extract]; simp
      have hr : bytesOf (s.extract n s.size) = (bytesOf s).drop n := by
        rw [bytesOf_extract, List.take_of_length_le (by rw [bytesOf_length]; exact Nat.le_refl _)]
      have hsz : (s.extract 0 n).size = n := by rw [← bytesOf_length, ht, List.length_take, bytesOf_length]; omega
      have hrz : (s.extract n s.size).size = m - n := by rw [← bytesOf_length, hr, List.length_drop, bytesOf_length, hs]
      have htd : Dg ((bytesOf s).take n) := hd.take n
      have htl : ((bytesOf s).take n).length = n := by rw [List.length_take, bytesOf_length]; omega
      have hpb := decV_bd _ htd
      rw [htl] at hpb
      have h9 := pow10_9 n n9
      have hp : (0 : Int) < 10 ^ n := Int.pow_pos (by decide)
      obtain ⟨p, hpp⟩ : ∃ p, decV 0 ((bytesOf s).take n) = p := ⟨_, rfl⟩
      rw [hpp] at hpb
      have hvn : v * 10 ^ n + p < 10 ^ (e + n) := by
        rw [Int.pow_add]
        have : (v + 1) * 10 ^ n ≤ 10 ^ e * 10 ^ n := Int.mul_le_mul_of_nonneg_right (by omega) (by omega)
        rw [Int.add_mul, Int.one_mul] at this
        omega
      have hv0 : 0 ≤ v * 10 ^ n := Int.mul_nonneg v0 (by omega)
      have l1 : len v ≤ 4096 := dec_short v0 v1 (by omega)
      have l2 : len (v * 10 ^ n + p) ≤ 4096 := dec_short (by omega) hvn (by omega)
      have l3 : len (v * 10 ^ n) ≤ 4096 := Nat.le_trans (len_mono hv0 (by omega)) l2
      have okby : okL [(10 : Int) ^ n] := okL_one (by omega) (by omega)
      have okp : okL [p] := okL_one hpb.1 (by omega)
      have sm1 : short [enc v, [(10 : Int) ^ n]] := fun x hx => by
        simp at hx
        rcases hx with rfl | rfl
        · rw [V_enc v0]; exact l1
        · rw [V_one]; have := small_len (n := (10 : Int) ^ n) (by omega) (by omega); omega
      have em : mulA (enc v) [(10 : Int) ^ n] = (enc (v * 10 ^ n), 0) := by rw [mulA, if_pos sm1, V_enc v0, V_one, ans, if_pos l3]
      have sa1 : short [enc (v * 10 ^ n)] := fun x hx => by simp at hx; subst hx; rw [V_enc hv0]; exact l3
      have sa2 : short [[p]] := fun x hx => by simp at hx; subst hx; rw [V_one]; have := small_len (n := p) hpb.1 (by omega); omega
      have ea : addA (enc (v * 10 ^ n)) [[p]] = (enc (v * 10 ^ n + p), 0) := by
        rw [addA, if_pos ⟨sa1, sa2⟩, ans]
        simp only [sumV, Int.add_zero]
        rw [V_enc hv0, V_one, if_pos l2]
      have fin := ih (m - n) (by omega) (s.extract n s.size) (v * 10 ^ n + p) (e + n) hrz (by rw [hr]; exact hd.drop n) (by omega) hvn (by omega)
      rw [hr] at fin
      have etot : decV (v * 10 ^ n + p) ((bytesOf s).drop n) = decV v (bytesOf s) := by
        conv => rhs; rw [← List.take_append_drop n (bytesOf s), decV_app, decV_lin ((bytesOf s).take n) v, htl, hpp]
      rw [etot] at fin
      have hbo : Cv.bytes_of.f (s.extract 0 n) = some ((bytesOf s).take n) := by unfold Cv.bytes_of.f; rw [if_pos (by omega), ht]
      have loop := fd_l2 s (enc v) (n : Int) ((bytesOf s).take n) htd (by omega) (enc (decV v (bytesOf s)), 0) ?_ ((bytesOf s).take n).length 0 (by omega)
      · refine Ev.step (fun k => by simp only [nat_FromDigits.l1]; rfl) (Ev.neg (fun h => by have := (toList_nil s).1 h; omega) ?_)
        rw [hs, en, Int.toNat_natCast]
        exact Ev.pos (by omega) (Ev.pos (by omega) (Ev.pre hbo loop))
      · rw [hpp, htl]
        refine Ev.step (fun k => by simp only [nat_FromDigits.l2]; rfl) (Ev.neg (by omega) ?_)
        rw [Int.toNat_natCast, hs]
        refine Ev.bind (Ev.res (mul_f _ _ (okL.enc (by omega)) okby) em) (Ev.bind (Ev.res (add_f _ [[p]] (okL.enc (by omega)) (fun x hx => by simp at hx; exact hx ▸ okp) (by simp)) ea) (Ev.pos (by omega) (Ev.pos (by omega) ?_)))
        rw [hs] at fin
        exact fin
theorem fd_l0 (s : ByteArray) (B : List Int) (hB : B.length ≤ 4096) (hd : Dg B) (r : List Int × Int) (h : Ev (fun k => nat_FromDigits.l1 k s []) r) : ∀ (d i : Nat), i + d = B.length → Ev (fun k => nat_FromDigits.l0 k s B (B.length : Int) (i : Int)) r := by
  intro d
  induction d with
  | zero => intro i hi; exact Ev.step (fun k => by simp only [nat_FromDigits.l0]; rfl) (Ev.neg (by omega) h)
  | succ d ih =>
    intro i hi
    have hit : i < B.length := by omega
    have hc := hd _ (List.getElem_mem hit)
    refine Ev.step (fun k => by simp only [nat_FromDigits.l0]; rfl) ?_
    rw [rd_get B i hit, wrap_id (by omega) (by omega)]
    exact Ev.pos (by omega) (Ev.pos (by omega) (Ev.pos (by omega) (Ev.neg (by omega) (Ev.neg (by omega) (ih (i + 1) (by omega))))))
theorem fd_l0n (s : ByteArray) (B : List Int) (hB : B.length ≤ 4096) : ∀ (d i : Nat), i + d = B.length → ¬ Dg (B.drop i) → Ev (fun k => nat_FromDigits.l0 k s B (B.length : Int) (i : Int)) ([], 4) := by
  intro d
  induction d with
  | zero => intro i hi hn; exact absurd (by rw [List.drop_eq_nil_of_le (by omega)]; intro x hx; cases hx) hn
  | succ d ih =>
    intro i hi hn
    have hit : i < B.length := by omega
    refine Ev.step (fun k => by simp only [nat_FromDigits.l0]; rfl) ?_
    rw [rd_get B i hit, wrap_id (by omega) (by omega)]
    refine Ev.pos (by omega) (Ev.pos (by omega) (Ev.pos (by omega) ?_))
    by_cases h1 : B[i] < 48
    · exact Ev.pos h1 (Ev.const rfl)
    · refine Ev.neg h1 ?_
      by_cases h2 : B[i] > 57
      · exact Ev.pos h2 (Ev.const rfl)
      · refine Ev.neg h2 (ih (i + 1) (by omega) (fun hd => hn ?_))
        rw [List.drop_eq_getElem_cons hit]
        intro x hx
        rcases List.mem_cons.1 hx with rfl | hx
        · omega
        · exact hd x hx
instance (l : List Int) : Decidable (Dg l) := by unfold Dg; infer_instance
def fdA (s : ByteArray) : List Int × Int := if s.size > 4096 then ([], 2) else if s.size = 0 then ([], 4) else if Dg (bytesOf s) then (enc (decV 0 (bytesOf s)), 0) else ([], 4)
theorem fd_f (s : ByteArray) : Ev (fun k => nat_FromDigits.f k s) (fdA s) := by
  refine Ev.congr (fun k => by unfold nat_FromDigits.f; rfl) ?_
  unfold fdA
  by_cases h1 : s.size > 4096
  · rw [if_pos h1]; exact Ev.pos (by omega) (Ev.const rfl)
  · rw [if_neg h1]
    refine Ev.neg (by omega) ?_
    by_cases h2 : s.size = 0
    · rw [if_pos h2]; exact Ev.pos ((toList_nil s).2 h2) (Ev.const rfl)
    · rw [if_neg h2]
      have hbo : Cv.bytes_of.f s = some (bytesOf s) := by unfold Cv.bytes_of.f; rw [if_pos (by omega)]
      have hl : (bytesOf s).length ≤ 4096 := by rw [bytesOf_length]; omega
      refine Ev.neg (fun h => h2 ((toList_nil s).1 h)) (Ev.pre hbo ?_)
      by_cases hd : Dg (bytesOf s)
      · rw [if_pos hd]
        have h0 := fd_l1 s.size s 0 0 rfl hd (by omega) (by simp) (by omega)
        rw [enc_zero] at h0
        exact fd_l0 s (bytesOf s) hl hd _ h0 (bytesOf s).length 0 (by omega)
      · rw [if_neg hd]
        exact fd_l0n s (bytesOf s) hl (bytesOf s).length 0 (by omega) hd
theorem strs_app (a b : List Int) : strOfNums a ++ strOfNums b = strOfNums (a ++ b) := by
  apply ByteArray.ext
  rw [ByteArray.data_append]
  simp [strOfNums]
theorem strs_size (xs : List Int) : (strOfNums xs).size = xs.length := by simp [strOfNums, ByteArray.size]
theorem rdg_l1 (tr : List Int) (_hT : tr.length ≤ 200000) (res : ByteArray × Int) (q : Int) (q0 : 0 ≤ q) (S : List Int) (hS : S.length ≤ 200000) (cont : ∀ S', (decL q).reverse ++ S' = tr → Ev (fun k => glossatorref01_Digits.l0 k (enc q) (strOfNums S')) res) :
    ∀ (d : Nat) (r : Int) (T : List Int), d ≤ 9 → 0 ≤ r → r < 10 ^ d → T.length + d ≤ 9 → (decL (q * 10 ^ d + r)).reverse ++ (T ++ S) = tr → Ev (fun k => glossatorref01_Digits.l1 k (enc q) (strOfNums S) r (strOfNums T) ((9 - d : Nat) : Int)) res := by
  intro d
  induction d with
  | zero =>
    intro r T _ r0 r1 hTl ho
    rw [Int.pow_zero] at r1
    rw [show r = 0 by omega, Int.pow_zero, Int.mul_one, Int.add_zero] at ho
    refine Ev.step (fun k => by simp only [glossatorref01_Digits.l1]; rfl) (Ev.neg (by omega) (Ev.pos (by rw [strs_size, strs_size]; omega) ?_))
    rw [strs_app]
    exact cont _ ho
  | succ d ih =>
    intro r T hd r0 r1 hTl ho
    obtain ⟨e1, e2, e3, e4, g0, g1⟩ := dg_nums d hd r r0 r1
    have app : 0 < q * 10 ^ (d + 1) + r → Ev (fun k => glossatorref01_Digits.l1 k (enc q) (strOfNums S) (r / 10) (strOfNums ([48 + r % 10] ++ T)) ((9 - d : Nat) : Int)) res := by
      intro hN
      rw [dec_step q r d q0 r0 hN, List.reverse_cons, List.append_assoc, ← List.append_assoc [48 + r % 10]] at ho
      exact ih (r / 10) ([48 + r % 10] ++ T) (by omega) g0 g1 (by simp; omega) ho
    have hq : 0 ≤ q * 10 ^ (d + 1) := Int.mul_nonneg q0 (Int.le_of_lt (Int.pow_pos (by decide)))
    have hsz : (strOfNums [48 + r % 10]).size + (strOfNums T).size ≤ 9223372036854775807 := by rw [strs_size, strs_size]; simp; omega
    refine Ev.step (fun k => by simp only [glossatorref01_Digits.l1]; rfl) ?_
    rw [e1, e2, e3, strs_app]
    refine Ev.pos e4 ?_
    by_cases hq0 : 0 < q
    · have hp := enc_len_pos hq0
      have hqp : 0 < q * 10 ^ (d + 1) := Int.mul_pos hq0 (Int.pow_pos (by decide))
      exact Ev.pos (by omega) (Ev.pre rfl (Ev.pos hsz (by rw [strs_app]; exact app (by omega))))
    · have hz : q = 0 := by omega
      refine Ev.neg (by rw [hz, enc_zero]; simp) ?_
      by_cases hr : r > 0
      · exact Ev.pos hr (Ev.pre rfl (Ev.pos hsz (by rw [strs_app]; exact app (by omega))))
      · have hz2 : q * 10 ^ (d + 1) + r = 0 := by rw [hz]; simp; omega
        rw [hz2, decL_zero] at ho
        refine Ev.neg hr (Ev.pos (by rw [strs_size, strs_size]; omega) ?_)
        refine cont (T ++ S) ?_
        rw [hz, decL_zero]; exact ho
theorem rdg_l0 (tr : List Int) (hT : tr.length ≤ 200000) : ∀ (m : Nat) (v : Int), v.toNat = m → 0 ≤ v → len v ≤ 4096 → ∀ S, (decL v).reverse ++ S = tr → Ev (fun k => glossatorref01_Digits.l0 k (enc v) (strOfNums S)) (strOfNums tr, 0) := by
  intro m
  induction m using Nat.strongRecOn with
  | _ m ih =>
    intro v hm v0 lv S ho
    by_cases hv : v = 0
    · subst hv
      rw [decL_zero, List.reverse_nil, List.nil_append] at ho
      subst ho
      exact Ev.step (fun k => by simp only [glossatorref01_Digits.l0]; rfl) (Ev.neg (by rw [enc_zero]; simp) (Ev.const rfl))
    · have hp := enc_len_pos (q := v) (by omega)
      have sh : short [enc v] := fun x hx => by simp at hx; subst hx; rw [V_enc v0]; exact lv
      have hd := rdsm_f (enc v) 1000000000 (okL.enc (by omega)) (by decide) (by decide)
      unfold dsmA at hd
      rw [if_pos sh, if_neg (by decide), V_enc v0] at hd
      have lq : len (v / 1000000000) ≤ 4096 := Nat.le_trans (len_mono (by omega) (by omega)) lv
      have hSl : S.length ≤ tr.length := by rw [← ho]; simp
      refine Ev.step (fun k => by simp only [glossatorref01_Digits.l0]; rfl) (Ev.pos (by omega) (Ev.bind hd ?_))
      refine rdg_l1 tr hT _ (v / 1000000000) (by omega) S (by omega) (fun S' ho' => ih (v / 1000000000).toNat (by omega) _ rfl (by omega) lq S' ho') 9 (v % 1000000000) [] (Nat.le_refl _) (by omega) (by show _ < (1000000000 : Int); omega) (by simp) ?_
      rw [show v / 1000000000 * 10 ^ 9 + v % 1000000000 = v by show v / 1000000000 * 1000000000 + v % 1000000000 = v; omega]
      exact ho
theorem rdg_f (a : List Int) (ha : okL a) : Ev (fun k => glossatorref01_Digits.f k a) (dgA a) := by
  refine Ev.congr (fun k => by unfold glossatorref01_Digits.f; rfl) (Ev.bind (long_f [a] (fun x hx => by simp at hx; exact hx ▸ ha) (by simp)) ?_)
  have v0 := V_nonneg ha.1
  unfold dgA
  by_cases h : short [a]
  · rw [if_pos h]
    refine Ev.neg (by simpa using h) (Ev.bind (rtrim_f a (by have := ha.2; omega)) ?_)
    rw [trim_enc ha.1]
    by_cases hz : V a = 0
    · rw [hz, enc_zero]
      exact Ev.pos (by rfl) (Ev.const (by rw [resD, decL_zero, if_pos rfl]))
    · have hp := enc_len_pos (q := V a) (by omega)
      have hds := decL_short a ha.1 h
      refine Ev.neg (by omega) (Ev.res (rdg_l0 (decL (V a)).reverse (by rw [List.length_reverse]; exact hds) _ (V a) rfl v0 (h a (by simp)) [] (by simp)) ?_)
      rw [resD, if_neg (by rw [decL_pos (by omega)]; simp)]
  · rw [if_neg h]
    exact Ev.pos (by simpa using h) (Ev.const rfl)
theorem bt_get (s : ByteArray) (j : Nat) (h : j < s.size) : bt s (j : Int) = (bytesOf s)[j]'(by rw [bytesOf_length]; exact h) := by
  unfold bt
  rw [dif_pos (by simpa using h)]
  simp only [Int.toNat_natCast, bytesOf, List.getElem_map]
  rfl
theorem rfd_l0 (s : ByteArray) (hs : s.size ≤ 4096) : ∀ (d i : Nat) (v : Int), i + d = s.size → 0 ≤ v → v < 10 ^ i → Ev (fun k => glossatorref01_FromDigits.l0 k s (enc v) (i : Int)) (if Dg ((bytesOf s).drop i) then (enc (decV v ((bytesOf s).drop i)), 0) else ([], 4)) := by
  intro d
  induction d with
  | zero =>
    intro i v hi v0 v1
    have hn : (bytesOf s).drop i = [] := List.drop_eq_nil_of_le (by rw [bytesOf_length]; omega)
    refine Ev.step (fun k => by simp only [glossatorref01_FromDigits.l0]; rfl) (Ev.neg (by omega) (Ev.const ?_))
    rw [hn, if_pos (show Dg [] from fun x hx => by cases hx)]; rfl
  | succ d ih =>
    intro i v hi v0 v1
    have hit : i < s.size := by omega
    have hl : i < (bytesOf s).length := by rw [bytesOf_length]; exact hit
    have hdr := List.drop_eq_getElem_cons hl
    have hcb := bytesOf_byt s _ (List.getElem_mem hl)
    have hbt := bt_get s i hit
    obtain ⟨c, hc⟩ : ∃ c, (bytesOf s)[i] = c := ⟨_, rfl⟩
    rw [hc] at hdr hcb hbt
    have bad : ¬ (48 ≤ c ∧ c ≤ 57) → (if Dg ((bytesOf s).drop i) then (enc (decV v ((bytesOf s).drop i)), 0) else ([], 4)) = (([] : List Int), (4 : Int)) := fun hn => by
      rw [if_neg (fun h => hn (h c (by rw [hdr]; simp)))]
    have jt : ∀ r, r = (([] : List Int), (4 : Int)) → Ev (fun k => glossatorref01_FromDigits.j1 k s (enc v) (i : Int) true) r := fun r hr => by
      subst hr
      refine Ev.step (fun k => by simp only [glossatorref01_FromDigits.j1]; rfl) ?_
      exact Ev.pos (by trivial) (Ev.const rfl)
    refine Ev.step (fun k => by simp only [glossatorref01_FromDigits.l0]; rfl) ?_
    rw [hbt]
    refine Ev.pos (by omega) (Ev.pos (by omega) ?_)
    by_cases h1 : c < 48
    · exact Ev.pos h1 (jt _ (bad (by omega)))
    · refine Ev.neg h1 ?_
      by_cases h2 : c > 57
      · rw [decide_eq_true h2]; exact jt _ (bad (by omega))
      · rw [decide_eq_false h2]
        have hv10 : v * 10 + (c - 48) < 10 ^ (i + 1) := by rw [Int.pow_succ]; omega
        have l1 : len v ≤ 4096 := dec_short v0 v1 (by omega)
        have l2 : len (v * 10) ≤ 4096 := dec_short (k := i + 1) (by omega) (by omega) (by omega)
        have tm := times_f (enc v) [10] (Lim.enc v) (Lim.cons (by decide) (by decide) Lim.nil) l1 (by simp)
        rw [V_enc v0, V_one] at tm
        have sm := sum_f (enc (v * 10)) [c - 48] (okL.enc (by omega)) (okL_one (by omega) (by omega))
        rw [V_enc (by omega), V_one] at sm
        refine Ev.step (fun k => by simp only [glossatorref01_FromDigits.j1]; rfl) (Ev.neg (by simp) (Ev.bind tm ?_))
        rw [hbt, show (c - 48) % 256 = c - 48 by omega, wrap_id (x := (i : Int) + 1) (by omega) (by omega)]
        refine Ev.pos (by omega) (Ev.pos (by omega) (Ev.bind sm (Ev.res (ih (i + 1) (v * 10 + (c - 48)) (by omega) (by omega) hv10) ?_)))
        rw [hdr]
        simp only [decV]
        by_cases hd : Dg ((bytesOf s).drop (i + 1))
        · rw [if_pos hd, if_pos (show Dg (c :: (bytesOf s).drop (i + 1)) from fun x hx => by rcases List.mem_cons.1 hx with rfl | hx; exact ⟨by omega, by omega⟩; exact hd x hx)]
        · rw [if_neg hd, if_neg (fun h : Dg (c :: (bytesOf s).drop (i + 1)) => hd h.tail)]
theorem rfd_f (s : ByteArray) : Ev (fun k => glossatorref01_FromDigits.f k s) (fdA s) := by
  refine Ev.congr (fun k => by unfold glossatorref01_FromDigits.f; rfl) ?_
  unfold fdA
  by_cases h1 : s.size > 4096
  · rw [if_pos h1]; exact Ev.pos (by omega) (Ev.const rfl)
  · rw [if_neg h1]
    refine Ev.neg (by omega) ?_
    by_cases h2 : s.size = 0
    · rw [if_pos h2]; exact Ev.pos ((toList_nil s).2 h2) (Ev.const rfl)
    · rw [if_neg h2]
      refine Ev.neg (fun h => h2 ((toList_nil s).1 h)) ?_
      have := rfd_l0 s (by omega) s.size 0 0 (by omega) (by omega) (by simp)
      rw [enc_zero] at this
      simpa using this
theorem FbA_len {l : List Int} {r : List Int × Int} (h : FbA l r) : r.1.length ≤ 16384 := by
  unfold FbA at h
  split at h
  · rw [h]; simp
  · rw [h.2.2.1]; unfold lby; omega
theorem fdA_len (s : ByteArray) : (fdA s).1.length ≤ 4096 := by
  unfold fdA
  split
  · simp
  · split
    · simp
    · split
      · rename_i h1 h2 h3
        have hb := decV_bd _ h3
        exact dec_short hb.1 hb.2 (by rw [bytesOf_length]; omega)
      · simp
theorem NatTexts : glossatorlaw01_NatTexts.Pure := by
  intro a b s _ hza hwa hlb hzb hwb hs
  have ha := okL.of hwa hza
  have hb : Byt b := fun x hx => by have := hwb x hx; simp [Lit.wf, IntKind.min, IntKind.max, IntKind.signed, IntKind.bits] at this; omega
  obtain ⟨r1, h1, f1⟩ := fb_f b hb (by omega)
  obtain ⟨r2, h2, f2⟩ := rfb_f b hb (by omega)
  obtain rfl := FbA_inj f1 f2
  have l1 := FbA_len f1
  have l2 := fdA_len s
  refine Ev.rounds (Ev.congr (fun k => by unfold glossatorlaw01_NatTexts.f; simp only [Option.bind_some, List.nil_append, List.length_nil, Nat.zero_add]; rfl) (Ev.pos (by omega) ?_))
  refine Ev.bind h1 (Ev.bind h2 (Ev.bind (fd_f s) (Ev.bind (rfd_f s) (Ev.bind (limbs_f _ _ rfl (by omega)) (Ev.pos (by rfl) (Ev.bind (limbs_f _ _ rfl (by omega)) (Ev.pos (by rfl) (Ev.pos (by rfl) (Ev.pos (by rfl) ?_)))))))))
  refine Ev.bind (bytes_f a ha) (Ev.bind (rby_f a ha) ?_)
  rw [show ((strOfNums (lowD (nby (V a)) (V a))).toList != (strOfNums (lowD (nby (V a)) (V a))).toList) = false by simp]
  refine Ev.step (fun k => by simp only [glossatorlaw01_NatTexts.j0]; rfl) (Ev.neg (by simp) (Ev.bind (dg_f a ha) (Ev.bind (rdg_f a ha) ?_)))
  exact Ev.pos (by rfl) (Ev.pos (by rfl) (Ev.bind awake_f (Ev.const rfl)))
end Go.Proofs.Ytflccadclkddoaa.Pure
