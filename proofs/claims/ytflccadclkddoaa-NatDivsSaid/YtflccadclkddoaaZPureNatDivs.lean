-- Out of texts of this seat by a program of this session: what the claim does not reach is struck
import Derived.Test.YtflccadclkddoaaZPNatDivsx7
import Derived.Test.YtflccadclkddoaaZNatPlain
import Derived.Test.YtflccadclkddoaaZNatBits
import Derived.Test.YtflccadclkddoaaZNatDiv
namespace Go.Proofs.Ytflccadclkddoaa.Pure
open Go.RowKit Go.Proofs.Ytflccadclkddoaa.PNatDivs Go.Proofs.YtflccadclkddoaaW.PrintWords Go.Proofs.YtflccadclkddoaaW.PrintLast Go.Proofs.YtflccadclkddoaaW.PrintMore Go.Proofs.Ytflccadclkddoaa.NatPlain
theorem Ev.pos {α : Type} {c : Prop} [Decidable c] {f g : Nat → Option α} {r : α} (h : c) (k : Ev f r) : Ev (fun n => if c then f n else g n) r := Ev.congr (fun _ => if_pos h) k
theorem Ev.neg {α : Type} {c : Prop} [Decidable c] {f g : Nat → Option α} {r : α} (h : ¬ c) (k : Ev g r) : Ev (fun n => if c then f n else g n) r := Ev.congr (fun _ => if_neg h) k
theorem Ev.const {α : Type} {x : Option α} {r : α} (h : x = some r) : Ev (fun _ => x) r := ⟨0, fun _ _ => h⟩
theorem Ev.pre {α β : Type} {x : Option α} {a : α} {f : Nat → α → Option β} {r : β} (h : x = some a) (k : Ev (fun n => f n a) r) : Ev (fun n => x.bind (f n)) r := Ev.congr (fun _ => by rw [h]; rfl) k
theorem Ev.res {α : Type} {g : Nat → Option α} {r r' : α} (k : Ev g r') (e : r' = r) : Ev g r := e ▸ k
theorem wrap_id {x : Int} (h0 : -9223372036854775808 ≤ x) (h1 : x ≤ 9223372036854775807) : wrap64 x = x := by unfold wrap64; omega
theorem wf_u32 {n : Int} (h : (Lit.int .u32 n).wf = true) : 0 ≤ n ∧ n < 4294967296 := by
  simp [Lit.wf, IntKind.min, IntKind.max, IntKind.signed, IntKind.bits] at h; omega
theorem u64_id {n : Int} (h0 : 0 ≤ n) (h1 : n < 18446744073709551616) : IntKind.u64.wrap n = n := by
  simp [IntKind.wrap, IntKind.bits, IntKind.signed]; omega
theorem u64_mod (n : Int) : IntKind.u64.wrap n = n % 18446744073709551616 := by simp [IntKind.wrap, IntKind.bits, IntKind.signed]
theorem rd_getD (l : List Int) (i : Int) : rd l i = l.getD i.toNat 0 := rfl
theorem rd_get (l : List Int) (j : Nat) (h : j < l.length) : rd l (j : Int) = l[j] := by
  rw [rd_getD, Int.toNat_natCast, List.getD_eq_getElem?_getD, List.getElem?_eq_getElem h]; rfl
def okL (l : List Int) : Prop := Lim l ∧ l.length ≤ 35184372087808
theorem okL.of {l : List Int} (hw : ∀ x ∈ l, (Lit.int .u32 x).wf = true) (hs : l.length * 4 ≤ 140737488351232) : okL l := ⟨fun x hx => wf_u32 (hw x hx), by omega⟩
theorem okL.nil : okL [] := ⟨Lim.nil, by simp⟩
theorem okL.enc {n : Int} (h : len n ≤ 35184372087808) : okL (enc n) := ⟨Lim.enc n, h⟩
theorem trim_le {l : List Int} (h : okL l) : len (V l) ≤ 35184372087808 := by rw [← len_trim h.1]; exact Nat.le_trans (trim_len l) h.2
theorem trim_l0 (l : List Int) (hl : l.length ≤ 35184372088831) : ∀ (d k : Nat), (trimL l).length + d ≤ l.length → d < k → nat_trim.l0 k l (((trimL l).length + d : Nat) : Int) = some (trimL l) := by
  intro d
  induction d with
  | zero =>
    intro k h hk
    obtain ⟨k, rfl⟩ : ∃ m, k = m + 1 := ⟨k - 1, by omega⟩
    have e : l.take (((trimL l).length + 0 : Nat) : Int).toNat = trimL l := by rw [Int.toNat_natCast]; exact trim_take l
    simp only [nat_trim.l0]
    rw [e]
    by_cases h0 : 0 < (trimL l).length
    · have hne := trim_last l h0
      have hne2 : ¬ rd l (wrap64 ((((trimL l).length + 0 : Nat) : Int) - 1)) = 0 := by
        rw [wrap_id (by omega) (by omega), rd_getD, show ((((trimL l).length + 0 : Nat) : Int) - 1).toNat = (trimL l).length - 1 by omega]
        exact hne
      rw [if_pos (by omega), if_neg hne2, wrap_id (by omega) (by omega), if_pos (by omega), if_pos (by omega), if_pos (by omega), if_pos (by omega)]
    · rw [if_neg (by omega), if_pos (by omega), if_pos (by omega)]
  | succ d ih =>
    intro k h hk
    obtain ⟨k, rfl⟩ : ∃ m, k = m + 1 := ⟨k - 1, by omega⟩
    have h0 := trim_above l ((trimL l).length + d) (by omega)
    have e : wrap64 ((((trimL l).length + (d + 1) : Nat) : Int) - 1) = (((trimL l).length + d : Nat) : Int) := by rw [wrap_id (by omega) (by omega)]; omega
    simp only [nat_trim.l0]
    rw [e, if_pos (by omega), if_pos (by omega), if_pos (by omega), if_pos (by rw [rd_getD, Int.toNat_natCast]; exact h0)]
    exact ih k (by omega) (by omega)
theorem trim_f (l : List Int) (hl : l.length ≤ 35184372088831) : Ev (fun k => nat_trim.f k l) (trimL l) := by
  refine ⟨l.length + 1, fun k hk => ?_⟩
  have := trim_l0 l hl (l.length - (trimL l).length) k (by have := trim_len l; omega) (by omega)
  rw [show (trimL l).length + (l.length - (trimL l).length) = l.length by have := trim_len l; omega] at this
  exact this
theorem rdL_get (ls : List (List Int)) (j : Nat) (h : j < ls.length) : rd_L1 ls (j : Int) = ls[j] := by
  unfold rd_L1
  rw [Int.toNat_natCast, List.getD_eq_getElem?_getD, List.getElem?_eq_getElem h]; rfl
def short (ls : List (List Int)) : Prop := ∀ l ∈ ls, len (V l) ≤ 4096
instance (ls : List (List Int)) : Decidable (short ls) := by unfold short; infer_instance
theorem fits_l0 (ls : List (List Int)) (h : ∀ l ∈ ls, okL l) (hl : ls.length ≤ 35184372088831) : ∀ (d i : Nat), i + d = ls.length → Ev (fun k => nat_fits.l0 k ls (ls.length : Int) (i : Int)) (decide (short (ls.drop i))) := by
  intro d
  induction d with
  | zero =>
    intro i hi
    refine Ev.step (fun k => by simp only [nat_fits.l0]; rfl) (Ev.neg (by omega) ?_)
    rw [List.drop_eq_nil_of_le (by omega)]
    exact Ev.const (by simp [short])
  | succ d ih =>
    intro i hi
    have hlt : i < ls.length := by omega
    have ho := h _ (List.getElem_mem hlt)
    refine Ev.step (fun k => by simp only [nat_fits.l0]; rfl) (Ev.pos (by omega) (Ev.pos (by omega) (Ev.pos (by omega) ?_)))
    rw [rdL_get ls i hlt]
    refine Ev.bind (trim_f _ (by have := ho.2; omega)) ?_
    rw [List.drop_eq_getElem_cons hlt, len_trim ho.1]
    by_cases hs : len (V ls[i]) ≤ 4096
    · refine Ev.neg (by omega) ?_
      rw [wrap_id (by omega) (by omega)]
      have : short (ls.drop (i + 1)) ↔ short (ls[i] :: ls.drop (i + 1)) := ⟨fun hq x hx => (List.mem_cons.1 hx).elim (fun e => e ▸ hs) (hq x), fun hq x hx => hq x (List.mem_cons_of_mem _ hx)⟩
      exact Ev.res (ih (i + 1) (by omega)) (by rw [decide_eq_decide]; exact this)
    · refine Ev.pos (by omega) (Ev.const ?_)
      rw [decide_eq_false (fun hq : short (ls[i] :: ls.drop (i + 1)) => hs (hq _ List.mem_cons_self))]
theorem fits_f (ls : List (List Int)) (h : ∀ l ∈ ls, okL l) (hl : ls.length ≤ 35184372088831) : Ev (fun k => nat_fits.f k ls) (decide (short ls)) := fits_l0 ls h hl ls.length 0 (by omega)
theorem clone_f (l : List Int) (hl : l.length ≤ 35184372088831) : slices_Clone_uint32_uint32.f l = some l := by
  unfold slices_Clone_uint32_uint32.f
  rw [if_pos (by omega)]
def ans (n : Int) : List Int × Int := if len n ≤ 4096 then (enc n, 0) else ([], 2)
theorem told_f (l : List Int) (h : Lim l) (hl : l.length ≤ 35184372087808) : Ev (fun k => nat_told.f k l) (ans (V l)) := by
  refine Ev.congr (fun k => by unfold nat_told.f; rfl) (Ev.bind (fits_f [l] (fun x hx => by simp at hx; exact hx ▸ ⟨h, hl⟩) (by simp)) ?_)
  by_cases hs : len (V l) ≤ 4096
  · refine Ev.pos (by simp [short, hs]) (Ev.bind (trim_f l (by omega)) (Ev.pre (clone_f _ (by have := trim_len l; omega)) (Ev.const ?_)))
    rw [ans, if_pos hs, trim_enc h]
  · refine Ev.neg (by simp [short, hs]) (Ev.const ?_)
    rw [ans, if_neg hs]
theorem okL_trim' {a : List Int} (ha : okL a) : (trimL a).length ≤ 35184372087808 := Nat.le_trans (trim_len a) ha.2
theorem low_f (n : Int) (_ : 0 ≤ n) : nat_low_uint64.f n = some (n % 4294967296, n / 4294967296) := rfl
theorem V_snoc (l : List Int) (c : Int) : V (l ++ [c]) = V l + 4294967296 ^ l.length * c := by rw [V_app]; simp [V]
theorem V_one (c : Int) : V [c] = c := by simp [V]
def sumV : List (List Int) → Int
  | [] => 0
  | l :: r => V l + sumV r
theorem add_l2 (bs : List (List Int)) (j : Nat) (x : List Int) (hx : Lim x) (r : List Int × Int) (S : Int) (L : Nat) (hxL : x.length ≤ L) (hL : L + 1 ≤ 35184372087808)
    (cont : ∀ out : List Int, Lim out → out.length ≤ L + 1 → V out = S → Ev (fun k => nat_Add.l0 k out bs (bs.length : Int) ((j : Int) + 1)) r) (hj : (j : Int) + 1 ≤ 9223372036854775807) :
    ∀ (d i : Nat) (out : List Int) (c : Int), i + d = L → out.length = L → Lim out → 0 ≤ c → c ≤ 1 → V out + c * 4294967296 ^ i + V (x.drop i) * 4294967296 ^ i = S →
      Ev (fun k => nat_Add.l2 k out x c bs (bs.length : Int) (j : Int) (L : Int) (i : Int)) r := by
  intro d
  induction d with
  | zero =>
    intro i out c hi ho hlo c0 c1 hV
    rw [List.drop_eq_nil_of_le (by omega)] at hV
    refine Ev.step (fun k => by simp only [nat_Add.l2]; rfl) (Ev.neg (by omega) ?_)
    rw [wrap_id (x := (j : Int) + 1) (by omega) hj]
    by_cases hc : c > 0
    · refine Ev.pos hc (Ev.pos (by omega) ?_)
      have hc1 : c = 1 := by omega
      subst hc1
      refine cont _ (hlo.app (Lim.cons (by decide) (by decide) Lim.nil)) (by simp; omega) ?_
      rw [V_snoc, ho, ← hV, show L = i by omega]
      simp [V]
    · refine Ev.neg hc (cont _ hlo (by omega) ?_)
      have hc0 : c = 0 := by omega
      subst hc0
      rw [← hV]
      simp [V]
  | succ d ih =>
    intro i out c hi ho hlo c0 c1 hV
    have hlt : i < out.length := by omega
    have hg := hlo.get i hlt
    refine Ev.step (fun k => by simp only [nat_Add.l2]; rfl) (Ev.pos (by omega) (Ev.pos (by omega) (Ev.pos (by omega) ?_)))
    rw [rd_get out i hlt, wrap_id (x := (i : Int) + 1) (by omega) (by omega), Int.toNat_natCast]
    have hp : (4294967296 : Int) ^ (i + 1) = 4294967296 ^ i * 4294967296 := Int.pow_succ ..
    by_cases hxi : i < x.length
    · have hgx := hx.get i hxi
      refine Ev.pos (by omega) ?_
      rw [rd_get x i hxi, u64_id (n := out[i]) (by omega) (by omega), u64_id (n := x[i]) (by omega) (by omega), u64_id (n := c + out[i]) (by omega) (by omega), u64_id (n := c + out[i] + x[i]) (by omega) (by omega)]
      refine Ev.pre (low_f _ (by omega)) ?_
      simp only
      have := ih (i + 1) (out.set i ((c + out[i] + x[i]) % 4294967296)) ((c + out[i] + x[i]) / 4294967296) (by omega) (by simp; omega) (hlo.set _ _ (by omega) (by omega)) (by omega) (by omega) ?_
      · exact this
      · rw [V_set out i _ hlt, hp]
        rw [V_drop x i hxi] at hV
        have e : (c + out[i] + x[i]) = (c + out[i] + x[i]) % 4294967296 + 4294967296 * ((c + out[i] + x[i]) / 4294967296) := by omega
        generalize (c + out[i] + x[i]) % 4294967296 = lo at e ⊢
        generalize (c + out[i] + x[i]) / 4294967296 = hi' at e ⊢
        generalize (4294967296 : Int) ^ i = P at hV ⊢
        generalize V (x.drop (i + 1)) = R at hV ⊢
        generalize V out = W at hV ⊢
        grind
    · refine Ev.neg (by omega) ?_
      rw [u64_id (n := out[i]) (by omega) (by omega), u64_id (n := c + out[i]) (by omega) (by omega)]
      refine Ev.pre (low_f _ (by omega)) ?_
      simp only
      have := ih (i + 1) (out.set i ((c + out[i]) % 4294967296)) ((c + out[i]) / 4294967296) (by omega) (by simp; omega) (hlo.set _ _ (by omega) (by omega)) (by omega) (by omega) ?_
      · exact this
      · rw [V_set out i _ hlt, hp]
        rw [List.drop_eq_nil_of_le (by omega)] at hV ⊢
        have e : (c + out[i]) = (c + out[i]) % 4294967296 + 4294967296 * ((c + out[i]) / 4294967296) := by omega
        generalize (c + out[i]) % 4294967296 = lo at e ⊢
        generalize (c + out[i]) / 4294967296 = hi' at e ⊢
        generalize (4294967296 : Int) ^ i = P at hV ⊢
        generalize V out = W at hV ⊢
        simp only [V] at hV ⊢
        grind
theorem add_l1 (bs : List (List Int)) (j : Nat) (x : List Int) (hx : Lim x) (r : List Int × Int) (S : Int) (L : Nat) (hxL : x.length ≤ L) (hL : L + 1 ≤ 35184372087808)
    (cont : ∀ out : List Int, Lim out → out.length ≤ L + 1 → V out = S → Ev (fun k => nat_Add.l0 k out bs (bs.length : Int) ((j : Int) + 1)) r) (hj : (j : Int) + 1 ≤ 9223372036854775807) :
    ∀ (d : Nat) (out : List Int), x.length - out.length = d → out.length ≤ L → Lim out → V out + V x = S → Ev (fun k => nat_Add.l1 k out x bs (bs.length : Int) (j : Int)) r := by
  intro d
  induction d with
  | zero =>
    intro out hd hoL hlo hV
    refine Ev.step (fun k => by simp only [nat_Add.l1]; rfl) (Ev.neg (by omega) ?_)
    refine add_l2 bs j x hx r S out.length (by omega) (by omega) (fun o h1 h2 h3 => cont o h1 (by omega) h3) hj out.length 0 out 0 (by omega) rfl hlo (by omega) (by omega) ?_
    simp only [List.drop_zero, Int.pow_zero]
    omega
  | succ d ih =>
    intro out hd hoL hlo hV
    refine Ev.step (fun k => by simp only [nat_Add.l1]; rfl) (Ev.pos (by omega) (Ev.pos (by omega) ?_))
    refine ih (out ++ [0]) (by simp; omega) (by simp; omega) (hlo.app (Lim.cons (by decide) (by decide) Lim.nil)) ?_
    rw [V_snoc]
    omega
theorem add_l0 (bs : List (List Int)) (hbs : ∀ l ∈ bs, okL l) (hsh : short bs) (hbl : bs.length ≤ 5864062014634) : ∀ (d j : Nat) (out : List Int), j + d = bs.length → Lim out → out.length ≤ 4096 + j → Ev (fun k => nat_Add.l0 k out bs (bs.length : Int) (j : Int)) (ans (V out + sumV (bs.drop j))) := by
  intro d
  induction d with
  | zero =>
    intro j out hj hlo hol
    rw [List.drop_eq_nil_of_le (by omega)]
    refine Ev.step (fun k => by simp only [nat_Add.l0]; rfl) (Ev.neg (by omega) ?_)
    refine Ev.bind (told_f out hlo (by omega)) (Ev.const ?_)
    simp [sumV]
  | succ d ih =>
    intro j out hj hlo hol
    have hlt : j < bs.length := by omega
    have ho := hbs _ (List.getElem_mem hlt)
    have hs := hsh _ (List.getElem_mem hlt)
    refine Ev.step (fun k => by simp only [nat_Add.l0]; rfl) (Ev.pos (by omega) (Ev.pos (by omega) (Ev.pos (by omega) ?_)))
    rw [rdL_get bs j hlt]
    refine Ev.bind (trim_f _ (by have := ho.2; omega)) ?_
    rw [List.drop_eq_getElem_cons hlt]
    have htl : (trimL bs[j]).length ≤ 4096 := by rw [len_trim ho.1]; exact hs
    refine add_l1 bs j (trimL bs[j]) ho.1.trim _ (V out + V bs[j]) (4096 + j) (by omega) (by omega) (fun o h1 h2 h3 => ?_) (by omega) _ out rfl hol hlo (by rw [V_trim])
    have := ih (j + 1) o (by omega) h1 (by omega)
    rw [h3] at this
    refine Ev.res (Ev.congr (fun k => rfl) this) ?_
    simp only [sumV]
    congr 1
    omega
def addA (a : List Int) (bs : List (List Int)) : List Int × Int := if short [a] ∧ short bs then ans (V a + sumV bs) else ([], 2)
theorem add_f (a : List Int) (bs : List (List Int)) (ha : okL a) (hbs : ∀ l ∈ bs, okL l) (hbl : bs.length ≤ 5864062014634) : Ev (fun k => nat_Add.f k a bs) (addA a bs) := by
  refine Ev.congr (fun k => by unfold nat_Add.f; rfl) (Ev.bind (fits_f [a] (fun x hx => by simp at hx; exact hx ▸ ha) (by simp)) ?_)
  have err : ∀ h : ¬ (short [a] ∧ short bs), Ev (fun k => nat_Add.j0 k a bs true) (addA a bs) := by
    intro h
    refine Ev.step (fun k => by simp only [nat_Add.j0]; rfl) (Ev.pos (by trivial) (Ev.const ?_))
    rw [addA, if_neg h]
  by_cases h1 : short [a]
  · refine Ev.pos (by simpa using h1) (Ev.bind (fits_f bs hbs (by omega)) ?_)
    by_cases h2 : short bs
    · rw [decide_eq_true h2]
      refine Ev.step (fun k => by simp only [nat_Add.j0]; rfl) (Ev.neg (by simp) ?_)
      have htl : (trimL a).length ≤ 4096 := by rw [len_trim ha.1]; exact h1 a (by simp)
      refine Ev.bind (trim_f a (by have := ha.2; omega)) (Ev.pre (clone_f _ (by omega)) ?_)
      have := add_l0 bs hbs h2 hbl bs.length 0 (trimL a) (by omega) ha.1.trim (by omega)
      rw [V_trim] at this
      refine Ev.res this ?_
      rw [addA, if_pos ⟨h1, h2⟩]
      rfl
    · rw [decide_eq_false h2]
      exact err (fun h => h2 h.2)
  · refine Ev.neg (by simpa using h1) (err (fun h => h1 h.1))
theorem small_len {n : Int} (h0 : 0 ≤ n) (h : n < 4294967296) : len n ≤ 1 := (len_le h0).2 (by simpa using h)
theorem okL_one {n : Int} (h0 : 0 ≤ n) (h : n < 4294967296) : okL [n] := ⟨Lim.cons h0 h Lim.nil, by simp⟩
theorem awake_f : Ev (fun k => glossatorlaw01_awake.f k) true := by
  have h := add_f [2] [[3]] (okL_one (by decide) (by decide)) (fun l hl => by simp at hl; exact hl ▸ okL_one (by decide) (by decide)) (by simp)
  have s2 : short [[2]] := fun l hl => by simp at hl; rw [hl, V_one]; exact Nat.le_trans (small_len (by decide) (by decide)) (by decide)
  have s3 : short [[3]] := fun l hl => by simp at hl; rw [hl, V_one]; exact Nat.le_trans (small_len (by decide) (by decide)) (by decide)
  have e : addA [2] [[3]] = ([5], 0) := by
    rw [addA, if_pos ⟨s2, s3⟩, ans]
    have : V [2] + sumV [[3]] = 5 := by simp [V, sumV]
    rw [this, if_pos (Nat.le_trans (small_len (by decide) (by decide)) (by decide)), enc_pos (by decide)]
    rw [show (5 : Int) / 4294967296 = 0 by decide, enc_zero]
    rfl
  rw [e] at h
  refine Ev.congr (fun k => by unfold glossatorlaw01_awake.f; rfl) (Ev.bind h (Ev.const ?_))
  decide
theorem limbs_l0 (a : List Int) (hl : a.length ≤ 35184372088831) : ∀ (d i : Nat), i + d = a.length → Ev (fun k => glossatorlaw01_limbs.l0 k a a (i : Int)) true := by
  intro d
  induction d with
  | zero =>
    intro i hi
    exact Ev.step (fun k => by simp only [glossatorlaw01_limbs.l0]; rfl) (Ev.neg (by omega) (Ev.const rfl))
  | succ d ih =>
    intro i hi
    refine Ev.step (fun k => by simp only [glossatorlaw01_limbs.l0]; rfl) (Ev.pos (by omega) (Ev.pos (by omega) (Ev.pos (by omega) (Ev.pos (by trivial) ?_))))
    rw [wrap_id (by omega) (by omega)]
    exact ih (i + 1) (by omega)
theorem limbs_f (a b : List Int) (h : a = b) (hl : a.length ≤ 35184372088831) : Ev (fun k => glossatorlaw01_limbs.f k a b) true := by
  subst h
  exact Ev.congr (fun k => by unfold glossatorlaw01_limbs.f; rfl) (Ev.pos (by trivial) (limbs_l0 a hl a.length 0 (by omega)))
def lim (l : List Int) (j : Nat) : Int := l.getD j 0
theorem lim_in (l : List Int) (j : Nat) (h : j < l.length) : lim l j = l[j] := by
  unfold lim; rw [List.getD_eq_getElem?_getD, List.getElem?_eq_getElem h]; rfl
theorem lim_out (l : List Int) (j : Nat) (h : l.length ≤ j) : lim l j = 0 := by
  unfold lim; rw [List.getD_eq_getElem?_getD, List.getElem?_eq_none h]; rfl
theorem lim_bd {l : List Int} (h : Lim l) (j : Nat) : 0 ≤ lim l j ∧ lim l j < 4294967296 := by
  by_cases hj : j < l.length
  · rw [lim_in l j hj]; exact h.get j hj
  · rw [lim_out l j (by omega)]; omega
theorem V_lim (l : List Int) (j : Nat) : V (l.drop j) = lim l j + 4294967296 * V (l.drop (j + 1)) := by
  by_cases hj : j < l.length
  · rw [V_drop l j hj, lim_in l j hj]
  · rw [List.drop_eq_nil_of_le (by omega), List.drop_eq_nil_of_le (by omega), lim_out l j (by omega)]; rfl
theorem zeros_lim (n j : Nat) : lim (List.replicate n 0) j = 0 := by
  by_cases h : j < n
  · rw [lim_in _ _ (by simpa using h)]; simp
  · exact lim_out _ _ (by simp; omega)
theorem rtrim_l0 (l : List Int) (hl : l.length ≤ 35184372088831) : ∀ (d k : Nat), (trimL l).length + d ≤ l.length → d < k → glossatorref01_Trim.l0 k l (((trimL l).length + d : Nat) : Int) = some (trimL l) := by
  intro d
  induction d with
  | zero =>
    intro k h hk
    obtain ⟨k, rfl⟩ : ∃ m, k = m + 1 := ⟨k - 1, by omega⟩
    have e : l.take (((trimL l).length + 0 : Nat) : Int).toNat = trimL l := by rw [Int.toNat_natCast]; exact trim_take l
    simp only [glossatorref01_Trim.l0, Option.bind_some, List.nil_append, List.length_nil, Nat.zero_add]
    rw [e]
    by_cases h0 : 0 < (trimL l).length
    · have hne := trim_last l h0
      have hne2 : ¬ rd l (wrap64 ((((trimL l).length + 0 : Nat) : Int) - 1)) = 0 := by
        rw [wrap_id (by omega) (by omega), rd_getD, show ((((trimL l).length + 0 : Nat) : Int) - 1).toNat = (trimL l).length - 1 by omega]
        exact hne
      rw [if_pos (by omega), if_neg hne2, wrap_id (by omega) (by omega), if_pos (by omega), if_pos (by omega), if_pos (by omega), if_pos (by omega), if_pos (by omega)]
    · rw [if_neg (by omega), if_pos (by omega), if_pos (by omega), if_pos (by omega)]
  | succ d ih =>
    intro k h hk
    obtain ⟨k, rfl⟩ : ∃ m, k = m + 1 := ⟨k - 1, by omega⟩
    have h0 := trim_above l ((trimL l).length + d) (by omega)
    have e : wrap64 ((((trimL l).length + (d + 1) : Nat) : Int) - 1) = (((trimL l).length + d : Nat) : Int) := by rw [wrap_id (by omega) (by omega)]; omega
    simp only [glossatorref01_Trim.l0]
    rw [e, if_pos (by omega), if_pos (by omega), if_pos (by omega), if_pos (by rw [rd_getD, Int.toNat_natCast]; exact h0)]
    exact ih k (by omega) (by omega)
theorem rtrim_f (l : List Int) (hl : l.length ≤ 35184372088831) : Ev (fun k => glossatorref01_Trim.f k l) (trimL l) := by
  refine ⟨l.length + 1, fun k hk => ?_⟩
  have := rtrim_l0 l hl (l.length - (trimL l).length) k (by have := trim_len l; omega) (by omega)
  rw [show (trimL l).length + (l.length - (trimL l).length) = l.length by have := trim_len l; omega] at this
  exact this
theorem long_l0 (ls : List (List Int)) (h : ∀ l ∈ ls, okL l) (hl : ls.length ≤ 35184372088831) : ∀ (d i : Nat), i + d = ls.length → Ev (fun k => glossatorref01_long.l0 k ls (i : Int)) (decide (¬ short (ls.drop i))) := by
  intro d
  induction d with
  | zero =>
    intro i hi
    refine Ev.step (fun k => by simp only [glossatorref01_long.l0]; rfl) (Ev.neg (by omega) ?_)
    rw [List.drop_eq_nil_of_le (by omega)]
    exact Ev.const (by simp [short])
  | succ d ih =>
    intro i hi
    have hlt : i < ls.length := by omega
    have ho := h _ (List.getElem_mem hlt)
    refine Ev.step (fun k => by simp only [glossatorref01_long.l0]; rfl) (Ev.pos (by omega) (Ev.pos (by omega) ?_))
    rw [rdL_get ls i hlt]
    refine Ev.bind (rtrim_f _ (by have := ho.2; omega)) ?_
    rw [List.drop_eq_getElem_cons hlt, len_trim ho.1]
    by_cases hs : len (V ls[i]) ≤ 4096
    · refine Ev.neg (by omega) ?_
      rw [wrap_id (by omega) (by omega)]
      have : short (ls.drop (i + 1)) ↔ short (ls[i] :: ls.drop (i + 1)) := ⟨fun hq x hx => (List.mem_cons.1 hx).elim (fun e => e ▸ hs) (hq x), fun hq x hx => hq x (List.mem_cons_of_mem _ hx)⟩
      exact Ev.res (ih (i + 1) (by omega)) (by rw [decide_eq_decide, this])
    · refine Ev.pos (by omega) (Ev.const ?_)
      rw [decide_eq_true (show ¬ short (ls[i] :: ls.drop (i + 1)) from fun hq => hs (hq _ List.mem_cons_self))]
theorem long_f (ls : List (List Int)) (h : ∀ l ∈ ls, okL l) (hl : ls.length ≤ 35184372088831) : Ev (fun k => glossatorref01_long.f k ls) (decide (¬ short ls)) := long_l0 ls h hl ls.length 0 (by omega)
theorem at_in (l : List Int) (h : Lim l) (j : Nat) (hj : j < l.length) : glossatorref01_at.f l (j : Int) = some l[j] := by
  have hg := h.get j hj
  unfold glossatorref01_at.f
  rw [if_neg (by omega), if_neg (by omega), if_pos (by omega), if_pos (by omega), rd_get l j hj, u64_id (by omega) (by omega)]
theorem at_out (l : List Int) (i : Int) (hi : (l.length : Int) ≤ i) : glossatorref01_at.f l i = some 0 := by
  unfold glossatorref01_at.f
  rw [if_neg (by omega), if_pos (by omega)]
theorem at_f (l : List Int) (h : Lim l) (j : Nat) : glossatorref01_at.f l (j : Int) = some (lim l j) := by
  by_cases hj : j < l.length
  · rw [at_in l h j hj, lim_in l j hj]
  · rw [at_out l j (by omega), lim_out l j (by omega)]
def cmpI (x y : Int) : Int := if x < y then -1 else if x > y then 1 else 0
theorem V_at (l : List Int) (i : Nat) (h : i < l.length) : V l = V (l.take i) + 4294967296 ^ i * (l[i] + 4294967296 * V (l.drop (i + 1))) := by
  rw [← V_drop l i h]; exact V_split l i (by omega)
theorem part_lt (a b : List Int) (ha : Lim a) (hb : Lim b) (i : Nat) (hia : i < a.length) (hib : i < b.length) (hd : V (a.drop (i + 1)) = V (b.drop (i + 1))) (h : a[i] < b[i]) : V a < V b := by
  rw [V_at a i hia, V_at b i hib, hd]
  have h1 := V_lt (ha.take i)
  rw [List.length_take, Nat.min_eq_left (by omega)] at h1
  have h2 := V_nonneg (hb.take i)
  generalize V (b.drop (i + 1)) = R
  have h3 : (4294967296 : Int) ^ i * (a[i] + 1) ≤ 4294967296 ^ i * b[i] := Int.mul_le_mul_of_nonneg_left (by omega) (Int.le_of_lt (Int.pow_pos (by decide)))
  rw [Int.mul_add, Int.mul_add]
  rw [Int.mul_add, Int.mul_one] at h3
  omega
theorem cmp_len {m n : Int} (_ : 0 ≤ m) (h : len m < len n) : m < n := by
  rcases Int.lt_or_le m n with h' | h'
  · exact h'
  · have hn : 0 ≤ n := by
      rcases Int.lt_or_le n 0 with q | q
      · have : len n = 0 := by unfold len enc; rw [dif_pos (by omega)]; rfl
        omega
      · exact q
    have := len_mono hn h'
    omega
theorem cmp_l0 (a b : List Int) (ha : Lim a) (hb : Lim b) (hl : a.length = b.length) (hla : a.length ≤ 35184372088831) : ∀ (d : Nat), d ≤ a.length → V (a.drop d) = V (b.drop d) → Ev (fun k => nat_Cmp.l0 k a b ((d : Int) - 1)) (cmpI (V a) (V b)) := by
  intro d
  induction d with
  | zero =>
    intro _ hd
    simp only [List.drop_zero] at hd
    refine Ev.step (fun k => by simp only [nat_Cmp.l0]; rfl) (Ev.neg (by omega) (Ev.const ?_))
    rw [hd, cmpI, if_neg (by omega), if_neg (by omega)]
  | succ d ih =>
    intro hda hd
    have hia : d < a.length := by omega
    have hib : d < b.length := by omega
    rw [show ((d + 1 : Nat) : Int) - 1 = (d : Int) by omega]
    refine Ev.step (fun k => by simp only [nat_Cmp.l0]; rfl) (Ev.pos (by omega) (Ev.pos (by omega) (Ev.pos (by omega) (Ev.pos (by omega) ?_))))
    rw [rd_get a d hia, rd_get b d hib, wrap_id (by omega) (by omega)]
    by_cases h1 : a[d] < b[d]
    · have := part_lt a b ha hb d hia hib hd h1
      exact Ev.pos h1 (Ev.const (by rw [cmpI, if_pos this]))
    · refine Ev.neg h1 ?_
      by_cases h2 : a[d] > b[d]
      · have := part_lt b a hb ha d hib hia hd.symm h2
        exact Ev.pos h2 (Ev.const (by rw [cmpI, if_neg (by omega), if_pos this]))
      · refine Ev.neg h2 (ih (by omega) ?_)
        rw [V_drop a d hia, V_drop b d hib, hd, show a[d] = b[d] by omega]
theorem cmp_f (a b : List Int) (ha : okL a) (hb : okL b) : Ev (fun k => nat_Cmp.f k a b) (cmpI (V a) (V b)) := by
  refine Ev.congr (fun k => by unfold nat_Cmp.f; rfl) (Ev.bind (trim_f a (by have := ha.2; omega)) (Ev.bind (trim_f b (by have := hb.2; omega)) ?_))
  have la := trim_le ha
  have lb := trim_le hb
  have h0 := V_nonneg ha.1
  have h1 := V_nonneg hb.1
  rw [len_trim ha.1, len_trim hb.1]
  by_cases h : len (V a) = len (V b)
  · refine Ev.pos (by omega) ?_
    rw [wrap_id (by omega) (by omega)]
    have := cmp_l0 (trimL a) (trimL b) ha.1.trim hb.1.trim (by rw [len_trim ha.1, len_trim hb.1, h]) (by rw [len_trim ha.1]; omega) (trimL a).length (Nat.le_refl _) (by rw [List.drop_eq_nil_of_le (Nat.le_refl _), List.drop_eq_nil_of_le (by rw [len_trim ha.1, len_trim hb.1, h]; exact Nat.le_refl _)])
    rw [V_trim, V_trim, len_trim ha.1] at this
    exact this
  · refine Ev.neg (by omega) ?_
    by_cases h2 : len (V a) < len (V b)
    · have := cmp_len h0 h2
      exact Ev.pos (by omega) (Ev.const (by rw [cmpI, if_pos this]))
    · have := cmp_len h1 (show len (V b) < len (V a) by omega)
      exact Ev.neg (by omega) (Ev.const (by rw [cmpI, if_neg (by omega), if_pos this]))
theorem rcmp_l0 (a b : List Int) (ha : Lim a) (hb : Lim b) (hl : a.length = b.length) (hla : a.length ≤ 35184372088831) : ∀ (d : Nat), d ≤ a.length → V (a.drop d) = V (b.drop d) → Ev (fun k => glossatorref01_Cmp.l0 k a b ((d : Int) - 1)) (cmpI (V a) (V b)) := by
  intro d
  induction d with
  | zero =>
    intro _ hd
    simp only [List.drop_zero] at hd
    refine Ev.step (fun k => by simp only [glossatorref01_Cmp.l0]; rfl) (Ev.neg (by omega) (Ev.const ?_))
    rw [hd, cmpI, if_neg (by omega), if_neg (by omega)]
  | succ d ih =>
    intro hda hd
    have hia : d < a.length := by omega
    have hib : d < b.length := by omega
    rw [show ((d + 1 : Nat) : Int) - 1 = (d : Int) by omega]
    refine Ev.step (fun k => by simp only [glossatorref01_Cmp.l0]; rfl) (Ev.pos (by omega) (Ev.pos (by omega) (Ev.pos (by omega) (Ev.pos (by omega) ?_))))
    rw [rd_get a d hia, rd_get b d hib, wrap_id (by omega) (by omega)]
    by_cases h1 : a[d] < b[d]
    · have := part_lt a b ha hb d hia hib hd h1
      exact Ev.pos h1 (Ev.const (by rw [cmpI, if_pos this]))
    · refine Ev.neg h1 ?_
      by_cases h2 : a[d] > b[d]
      · have := part_lt b a hb ha d hib hia hd.symm h2
        exact Ev.pos h2 (Ev.const (by rw [cmpI, if_neg (by omega), if_pos this]))
      · refine Ev.neg h2 (ih (by omega) ?_)
        rw [V_drop a d hia, V_drop b d hib, hd, show a[d] = b[d] by omega]
theorem rcmp_f (a b : List Int) (ha : okL a) (hb : okL b) : Ev (fun k => glossatorref01_Cmp.f k a b) (cmpI (V a) (V b)) := by
  refine Ev.congr (fun k => by unfold glossatorref01_Cmp.f; rfl) (Ev.bind (rtrim_f a (by have := ha.2; omega)) (Ev.bind (rtrim_f b (by have := hb.2; omega)) ?_))
  have la := trim_le ha
  have lb := trim_le hb
  have h0 := V_nonneg ha.1
  have h1 := V_nonneg hb.1
  rw [len_trim ha.1, len_trim hb.1]
  by_cases h : len (V a) = len (V b)
  · refine Ev.pos (by omega) ?_
    rw [wrap_id (by omega) (by omega)]
    have := rcmp_l0 (trimL a) (trimL b) ha.1.trim hb.1.trim (by rw [len_trim ha.1, len_trim hb.1, h]) (by rw [len_trim ha.1]; omega) (trimL a).length (Nat.le_refl _) (by rw [List.drop_eq_nil_of_le (Nat.le_refl _), List.drop_eq_nil_of_le (by rw [len_trim ha.1, len_trim hb.1, h]; exact Nat.le_refl _)])
    rw [V_trim, V_trim, len_trim ha.1] at this
    exact this
  · refine Ev.neg (by omega) ?_
    by_cases h2 : len (V a) < len (V b)
    · have := cmp_len h0 h2
      exact Ev.pos (by omega) (Ev.const (by rw [cmpI, if_pos this]))
    · have := cmp_len h1 (show len (V b) < len (V a) by omega)
      exact Ev.neg (by omega) (Ev.const (by rw [cmpI, if_neg (by omega), if_pos this]))
theorem V_snoc' (l : List Int) (c : Int) (n : Nat) (h : l.length = n) : V (l ++ [c]) = V l + 4294967296 ^ n * c := by rw [V_snoc, h]
theorem less_l0 (a b : List Int) (ha : okL a) (hb : Lim b) (hlt : V b ≤ V a) : ∀ (d i : Nat) (out : List Int) (c : Int), i + d = a.length → out.length = i → Lim out → 0 ≤ c → c ≤ 1 →
    V out + 4294967296 ^ i * V (a.drop i) - c * 4294967296 ^ i - 4294967296 ^ i * V (b.drop i) = V a - V b → Ev (fun k => glossatorref01_less.l0 k a b out c (i : Int)) (enc (V a - V b)) := by
  intro d
  induction d with
  | zero =>
    intro i out c hi ho hlo c0 c1 hV
    have hl := ha.2
    refine Ev.step (fun k => by simp only [glossatorref01_less.l0]; rfl) (Ev.neg (by omega) (Ev.bind (rtrim_f out (by omega)) (Ev.const ?_)))
    rw [List.drop_eq_nil_of_le (by omega)] at hV
    simp only [V, Int.mul_zero] at hV
    have h1 := V_lt hlo
    have h2 := V_nonneg hlo
    rw [ho] at h1
    have pos : (0 : Int) < 4294967296 ^ i := Int.pow_pos (by decide)
    have hv : c = 0 ∧ V (b.drop i) = 0 := by
      have hn : 0 ≤ V (b.drop i) := V_nonneg (hb.drop i)
      have hm : 4294967296 ^ i * (c + V (b.drop i)) = V out - (V a - V b) := by rw [Int.mul_add, Int.mul_comm _ c]; omega
      rcases Int.lt_or_le 0 (c + V (b.drop i)) with q | q
      · have : 4294967296 ^ i * 1 ≤ 4294967296 ^ i * (c + V (b.drop i)) := Int.mul_le_mul_of_nonneg_left (by omega) (by omega)
        omega
      · omega
    rw [hv.1, hv.2] at hV
    rw [trim_enc hlo]
    congr 2
    omega
  | succ d ih =>
    intro i out c hi ho hlo c0 c1 hV
    have hl := ha.2
    have hia : i < a.length := by omega
    have g1 := lim_bd ha.1 i
    have g2 := lim_bd hb i
    refine Ev.step (fun k => by simp only [glossatorref01_less.l0]; rfl) (Ev.pos (by omega) ?_)
    refine Ev.pre (at_f a ha.1 i) ?_
    refine Ev.pre (at_f b hb i) ?_
    refine Ev.pos (show out.length < 35184372088832 by omega) ?_
    have hw : ∃ r x : Int, (IntKind.u64.wrap (IntKind.u64.wrap (IntKind.u64.wrap (lim a i + 4294967296) - lim b i) - c)) % 4294967296 = r ∧ IntKind.u64.wrap (1 - (IntKind.u64.wrap (IntKind.u64.wrap (IntKind.u64.wrap (lim a i + 4294967296) - lim b i) - c)) / 4294967296) = x ∧ 0 ≤ r ∧ r < 4294967296 ∧ 0 ≤ x ∧ x ≤ 1 ∧ lim a i - c - lim b i = r - 4294967296 * x := by
      refine ⟨_, _, rfl, rfl, ?_⟩
      simp only [u64_mod]
      omega
    obtain ⟨r, x, e1, e2, r0, r1, x0, x1, e⟩ := hw
    rw [e1, e2, wrap_id (by omega) (by omega)]
    have := ih (i + 1) (out ++ [r]) x (by omega) (by simp [ho]) (hlo.app (Lim.cons r0 r1 Lim.nil)) x0 x1 ?_
    · exact this
    · rw [V_snoc' out r i ho, Int.pow_succ, ← hV, V_lim a i, V_lim b i]
      generalize (4294967296 : Int) ^ i = P
      generalize V (a.drop (i + 1)) = A
      generalize V (b.drop (i + 1)) = B
      grind
def tab8 : ByteArray := (⟨#[0, 1, 2, 2, 3, 3, 3, 3, 4, 4, 4, 4, 4, 4, 4, 4, 5, 5, 5, 5, 5, 5, 5, 5, 5, 5, 5, 5, 5, 5, 5, 5, 6, 6, 6, 6, 6, 6, 6, 6, 6, 6, 6, 6, 6, 6, 6, 6, 6, 6, 6, 6, 6, 6, 6, 6, 6, 6, 6, 6, 6, 6, 6, 6, 7, 7, 7, 7, 7, 7, 7, 7, 7, 7, 7, 7, 7, 7, 7, 7, 7, 7, 7, 7, 7, 7, 7, 7, 7, 7, 7, 7, 7, 7, 7, 7, 7, 7, 7, 7, 7, 7, 7, 7, 7, 7, 7, 7, 7, 7, 7, 7, 7, 7, 7, 7, 7, 7, 7, 7, 7, 7, 7, 7, 7, 7, 7, 7, 8, 8, 8, 8, 8, 8, 8, 8, 8, 8, 8, 8, 8, 8, 8, 8, 8, 8, 8, 8, 8, 8, 8, 8, 8, 8, 8, 8, 8, 8, 8, 8, 8, 8, 8, 8, 8, 8, 8, 8, 8, 8, 8, 8, 8, 8, 8, 8, 8, 8, 8, 8, 8, 8, 8, 8, 8, 8, 8, 8, 8, 8, 8, 8, 8, 8, 8, 8, 8, 8, 8, 8, 8, 8, 8, 8, 8, 8, 8, 8, 8, 8, 8, 8, 8, 8, 8, 8, 8, 8, 8, 8, 8, 8, 8, 8, 8, 8, 8, 8, 8, 8, 8, 8, 8, 8, 8, 8, 8, 8, 8, 8, 8, 8, 8, 8, 8, 8, 8, 8, 8, 8, 8, 8, 8, 8, 8, 8]⟩ : ByteArray)
theorem tab8_ok : ∀ i : Nat, i < 256 → (i = 0 ∧ bt tab8 (i : Int) = 0) ∨ (1 ≤ bt tab8 (i : Int) ∧ bt tab8 (i : Int) ≤ 8 ∧ (2 : Int) ^ (bt tab8 (i : Int) - 1).toNat ≤ i ∧ (i : Int) < 2 ^ ((bt tab8 (i : Int) - 1).toNat + 1)) := by decide +kernel
theorem tab8_bl (i : Int) (h0 : 0 ≤ i) (h1 : i < 256) : bt ((⟨#[0, 1, 2, 2, 3, 3, 3, 3, 4, 4, 4, 4, 4, 4, 4, 4, 5, 5, 5, 5, 5, 5, 5, 5, 5, 5, 5, 5, 5, 5, 5, 5, 6, 6, 6, 6, 6, 6, 6, 6, 6, 6, 6, 6, 6, 6, 6, 6, 6, 6, 6, 6, 6, 6, 6, 6, 6, 6, 6, 6, 6, 6, 6, 6, 7, 7, 7, 7, 7, 7, 7, 7, 7, 7, 7, 7, 7, 7, 7, 7, 7, 7, 7, 7, 7, 7, 7, 7, 7, 7, 7, 7, 7, 7, 7, 7, 7, 7, 7, 7, 7, 7, 7, 7, 7, 7, 7, 7, 7, 7, 7, 7, 7, 7, 7, 7, 7, 7, 7, 7, 7, 7, 7, 7, 7, 7, 7, 7, 8, 8, 8, 8, 8, 8, 8, 8, 8, 8, 8, 8, 8, 8, 8, 8, 8, 8, 8, 8, 8, 8, 8, 8, 8, 8, 8, 8, 8, 8, 8, 8, 8, 8, 8, 8, 8, 8, 8, 8, 8, 8, 8, 8, 8, 8, 8, 8, 8, 8, 8, 8, 8, 8, 8, 8, 8, 8, 8, 8, 8, 8, 8, 8, 8, 8, 8, 8, 8, 8, 8, 8, 8, 8, 8, 8, 8, 8, 8, 8, 8, 8, 8, 8, 8, 8, 8, 8, 8, 8, 8, 8, 8, 8, 8, 8, 8, 8, 8, 8, 8, 8, 8, 8, 8, 8, 8, 8, 8, 8, 8, 8, 8, 8, 8, 8, 8, 8, 8, 8, 8, 8, 8, 8, 8, 8, 8, 8]⟩ : ByteArray)) i = bl i := by
  show bt tab8 i = bl i
  obtain ⟨n, rfl⟩ := Int.eq_ofNat_of_zero_le h0
  rcases tab8_ok n (by omega) with ⟨a, b⟩ | ⟨a, b, c, d⟩
  · subst a
    rw [b]
    exact (congrArg (fun z : Nat => (z : Int)) bl_zero).symm
  · have := bl_of c d
    omega
theorem wrap_two (c n : Int) (c0 : 0 ≤ c) (n0 : 0 ≤ n) (h : c + n ≤ 9223372036854775807) : wrap64 (c + wrap64 n) = c + n := by
  rw [wrap_id (x := n) (by omega) (by omega), wrap_id (by omega) h]
theorem bl_shift (x : Int) (m : Nat) (h : (2 : Int) ^ m ≤ x) : (bl x : Int) = m + bl (x / 2 ^ m) := by
  have pos : (0 : Int) < 2 ^ m := Int.pow_pos (by decide)
  rw [bl_div (by omega)]
  obtain ⟨k, hk, _⟩ := bl_ge (n := x) (by omega)
  have : ¬ bl x ≤ m := fun hq => by have := (bl_le (n := x) (k := m) (by omega)).1 hq; omega
  omega
theorem len32_f (x : Int) (h0 : 0 ≤ x) (h1 : x < 4294967296) : bits_Len32.f x = some (bl x : Int) := by
  unfold bits_Len32.f
  by_cases c1 : x ≥ 65536
  · have e1 := bl_shift x 16 c1
    rw [show (2 : Int) ^ 16 = 65536 by decide] at e1
    rw [if_pos c1]
    by_cases c2 : x / 65536 ≥ 256
    · have e2 := bl_shift (x / 65536) 8 c2
      rw [show (2 : Int) ^ 8 = 256 by decide] at e2
      rw [if_pos c2, show (x / 65536) / 256 % 256 = (x / 65536) / 256 by omega, if_pos (by omega), if_pos (by omega), tab8_bl _ (by omega) (by omega)]
      have : bl ((x / 65536) / 256) ≤ 8 := (bl_le (by omega)).2 (by show _ < (256 : Int); omega)
      rw [wrap_two _ _ (by decide) (by omega) (by omega)]
      congr 1; omega
    · rw [if_neg c2, show (x / 65536) % 256 = x / 65536 by omega, if_pos (by omega), if_pos (by omega), tab8_bl _ (by omega) (by omega)]
      have : bl (x / 65536) ≤ 8 := (bl_le (by omega)).2 (by show _ < (256 : Int); omega)
      rw [wrap_two _ _ (by decide) (by omega) (by omega)]
      congr 1; omega
  · rw [if_neg c1]
    by_cases c2 : x ≥ 256
    · have e2 := bl_shift x 8 c2
      rw [show (2 : Int) ^ 8 = 256 by decide] at e2
      rw [if_pos c2, show x / 256 % 256 = x / 256 by omega, if_pos (by omega), if_pos (by omega), tab8_bl _ (by omega) (by omega)]
      have : bl (x / 256) ≤ 8 := (bl_le (by omega)).2 (by show _ < (256 : Int); omega)
      rw [wrap_two _ _ (by decide) (by omega) (by omega)]
      congr 1; omega
    · rw [if_neg c2, show x % 256 = x by omega, if_pos (by omega), if_pos (by omega), tab8_bl _ (by omega) (by omega)]
      have : bl x ≤ 8 := (bl_le (by omega)).2 (by show _ < (256 : Int); omega)
      rw [wrap_two _ _ (by decide) (by omega) (by omega)]
      congr 1; omega
theorem bl32 {x : Int} (h0 : 0 ≤ x) (h1 : x < 4294967296) : bl x ≤ 32 := (bl_le h0).2 h1
theorem rbits_l0 (c : Int) (c0 : 0 ≤ c) (c1 : c ≤ 9000000000000000000) : ∀ (d : Nat) (n : Nat) (x : Int), bl x = d → 0 ≤ x → bl x ≤ 40 → n + d ≤ 100 → Ev (fun k => glossatorref01_Bits.l0 k (c + n) x) (c + n + (bl x : Int)) := by
  intro d
  induction d with
  | zero =>
    intro n x hd hx _ _
    have hx0 : x = 0 := (bl_eq_zero hx).1 hd
    refine Ev.step (fun k => by simp only [glossatorref01_Bits.l0]; rfl) (Ev.neg (by omega) (Ev.const ?_))
    rw [hd]
    simp
  | succ d ih =>
    intro n x hd hx h40 hn
    have hx0 : 0 < x := by
      rcases Int.lt_or_le 0 x with q | q
      · exact q
      · have : x = 0 := by omega
        rw [this, bl_zero] at hd; cases hd
    have e := bl_pos hx0
    refine Ev.step (fun k => by simp only [glossatorref01_Bits.l0]; rfl) (Ev.pos (by omega) ?_)
    rw [wrap_id (by omega) (by omega), show c + (n : Int) + 1 = c + ((n + 1 : Nat) : Int) by omega]
    exact Ev.res (ih (n + 1) (x / 2) (by omega) (by omega) (by omega) (by omega)) (by omega)
theorem rbits_f (a : List Int) (ha : okL a) : Ev (fun k => glossatorref01_Bits.f k a) (bl (V a) : Int) := by
  refine Ev.congr (fun k => by unfold glossatorref01_Bits.f; rfl) (Ev.bind (rtrim_f a (by have := ha.2; omega)) ?_)
  have hl := okL_trim' ha
  by_cases h : (trimL a).length = 0
  · refine Ev.pos (by omega) (Ev.const ?_)
    have : trimL a = [] := List.eq_nil_of_length_eq_zero h
    rw [← V_trim, this]
    simp [V, bl_zero]
  · have ht := trim_top a (by omega)
    have hb := bl_V (trimL a) ha.1.trim (by omega) ht
    have hg := ha.1.trim.get ((trimL a).length - 1) (by omega)
    have h32 := bl32 hg.1 hg.2
    refine Ev.neg (by omega) ?_
    rw [wrap_id (x := ((trimL a).length : Int) - 1) (by omega) (by omega)]
    refine Ev.pos (by omega) (Ev.pos (by omega) ?_)
    rw [wrap_id (x := 32 * (((trimL a).length : Int) - 1)) (by omega) (by omega), show ((trimL a).length : Int) - 1 = (((trimL a).length - 1 : Nat) : Int) by omega, rd_get _ _ (by omega)]
    have := rbits_l0 (32 * (((trimL a).length - 1 : Nat) : Int)) (by omega) (by omega) _ 0 (trimL a)[(trimL a).length - 1] rfl hg.1 (by omega) (by omega)
    simp only [Int.natCast_zero, Int.add_zero] at this
    refine Ev.res this ?_
    rw [← V_trim a, hb]
    omega
theorem or1 (x b : Int) (b0 : 0 ≤ b) (b1 : b ≤ 1) : Go.bits .or .u32 (x * 2 % 4294967296) b = x * 2 % 4294967296 + b := by
  exact bits_join .u32 32 (by decide) (fun n h0 h1 => by rw [IntKind.wrap_u32]; omega) 1 _ b (by omega) (by omega) (by omega) b0 (by omega) (by omega)
theorem twice_alg (P x b W R lo hi : Int) (e : x * 2 = lo + 4294967296 * hi) : W + P * (lo + b) + P * 4294967296 * (hi + 2 * R) = W + P * (b + 2 * (x + 4294967296 * R)) := by grind
theorem twice_l0 (a : List Int) (ha : Lim a) (S : Int) (hla : a.length ≤ 35184372087808) : ∀ (d i : Nat) (out : List Int) (b : Int), i + d = a.length → out.length = i → Lim out → 0 ≤ b → b ≤ 1 → V out + 4294967296 ^ i * (b + 2 * V (a.drop i)) = S →
    Ev (fun k => glossatorref01_twice.l0 k a b out (i : Int)) (enc S) := by
  intro d
  induction d with
  | zero =>
    intro i out b hi ho hlo b0 b1 hV
    refine Ev.step (fun k => by simp only [glossatorref01_twice.l0]; rfl) (Ev.neg (by omega) (Ev.pos (by omega) (Ev.bind (rtrim_f (out ++ [b]) (by simp; omega)) (Ev.const ?_))))
    rw [trim_enc (hlo.app (Lim.cons b0 (by omega) Lim.nil)), V_snoc, ho, ← hV, List.drop_eq_nil_of_le (by omega)]
    simp [V]
  | succ d ih =>
    intro i out b hi ho hlo b0 b1 hV
    have hlt : i < a.length := by omega
    have hg := ha.get i hlt
    refine Ev.step (fun k => by simp only [glossatorref01_twice.l0]; rfl) (Ev.pos (by omega) (Ev.pos (by omega) (Ev.pos (by omega) ?_)))
    rw [rd_get a i hlt, or1 _ _ b0 b1, wrap_id (by omega) (by omega)]
    have := ih (i + 1) (out ++ [a[i] * 2 % 4294967296 + b]) (a[i] / 2147483648) (by omega) (by simp [ho]) (hlo.app (Lim.cons (by omega) (by omega) Lim.nil)) (by omega) (by omega) ?_
    · exact this
    · rw [V_snoc, ho, ← hV, V_drop a i hlt, Int.pow_succ]
      have := twice_alg ((4294967296 : Int) ^ i) a[i] b (V out) (V (a.drop (i + 1))) (a[i] * 2 % 4294967296) (a[i] / 2147483648) (by omega)
      exact this
theorem or32 (x y : Int) (s : Nat) (hs : s ≤ 32) (x0 : 0 ≤ x) (x1 : x < 2 ^ s) (y0 : 0 ≤ y) (y1 : y < 4294967296) (hy : y % 2 ^ s = 0) : Go.bits .or .u32 x y = x + y := by
  have hx : x < 4294967296 := Int.lt_of_lt_of_le x1 (by
    have h := Nat.pow_le_pow_right (n := 2) (by decide) hs
    have h2 : ((2 ^ s : Nat) : Int) ≤ ((2 ^ 32 : Nat) : Int) := Int.ofNat_le.2 h
    rw [Int.natCast_pow] at h2
    exact h2)
  have h := bits_join .u32 32 (by decide) (fun n h0 h1 => by rw [IntKind.wrap_u32]; omega) s y x y0 hy y1 x0 x1 hx
  have hc : Go.bits .or .u32 x y = Go.bits .or .u32 y x := by
    unfold Go.bits
    simp only
    rw [BitVec.or_comm]
  rw [hc, h]; omega
theorem left_alg (P D x lo hi W T : Int) (e : x * D = lo + 4294967296 * hi) (hT : T = W + P * x) : W * D + P * lo + P * 4294967296 * hi = T * D := by grind
theorem left_g0 (a : List Int) (ha : Lim a) (s : Nat) (hs : s < 32) (L : Nat) (hL : a.length ≤ L) (hT : V a * 2 ^ s < 4294967296 ^ L) (hL2 : L ≤ 35184372087808) : ∀ (d i : Nat) (out : List Int), i + d = a.length → out.length = L → Lim out → (∀ j, i < j → lim out j = 0) → lim out i < 2 ^ s → V out = V (a.take i) * 2 ^ s →
    ∃ r, Ev (fun k => nat_left.l0 k (s : Int) out a (a.length : Int) (i : Int)) r ∧ Lim r ∧ r.length = L ∧ V r = V a * 2 ^ s := by
  have hD : (0 : Int) < 2 ^ s := Int.pow_pos (by decide)
  have hD2 : (2 : Int) ^ s * 2 ^ (32 - s) = 4294967296 := by
    rw [← Int.pow_add, show s + (32 - s) = 32 by omega]; decide
  have hE : (0 : Int) < 2 ^ (32 - s) := Int.pow_pos (by decide)
  have hD3 : (2 : Int) ^ s ≤ 2147483648 := by
    have h := Nat.pow_le_pow_right (n := 2) (by decide) (show s ≤ 31 by omega)
    have h2 : ((2 ^ s : Nat) : Int) ≤ ((2 ^ 31 : Nat) : Int) := Int.ofNat_le.2 h
    rw [Int.natCast_pow] at h2
    exact h2
  intro d
  induction d with
  | zero =>
    intro i out hi ho hlo _ _ hV
    refine ⟨out, Ev.step (fun k => by simp only [nat_left.l0]; rfl) (Ev.neg (by omega) (Ev.const rfl)), hlo, ho, ?_⟩
    rw [hV, List.take_of_length_le (by omega)]
  | succ d ih =>
    intro i out hi ho hlo hz hc hV
    have hlt : i < a.length := by omega
    have hlo2 : i < out.length := by omega
    have hg := ha.get i hlt
    have hgo := hlo.get i hlo2
    rw [lim_in out i hlo2] at hc
    obtain ⟨v, hv⟩ : ∃ v : Int, v = a[i] * 2 ^ s := ⟨_, rfl⟩
    have v0 : 0 ≤ v := by rw [hv]; exact Int.mul_nonneg hg.1 (by omega)
    have v1 : v < 4294967296 * 2 ^ s := by rw [hv]; exact Int.mul_lt_mul_of_pos_right hg.2 hD
    have v2 : v < 18446744073709551616 := by omega
    have hsh : shl .u64 (IntKind.u64.wrap a[i]) (s : Int) = v := by
      unfold shl
      have e : min (s : Int).toNat IntKind.u64.bits = s := by
        have : IntKind.u64.bits = 64 := rfl
        omega
      rw [e, u64_id (n := a[i]) (by omega) (by omega), ← hv, u64_id v0 v2]
    have hdiv : v % 4294967296 % 2 ^ s = 0 := by
      have h1 : v % 4294967296 % 2 ^ s = v % 2 ^ s := Int.emod_emod_of_dvd v ⟨2 ^ (32 - s), hD2.symm⟩
      rw [h1, hv, Int.mul_emod_left]
    have hhi : v / 4294967296 < 2 ^ s := Int.ediv_lt_of_lt_mul (by decide) (by rw [Int.mul_comm]; exact v1)
    have hlow : v % 4294967296 + 2 ^ s ≤ 4294967296 := by
      have h1 := Int.mul_ediv_add_emod (v % 4294967296) (2 ^ s)
      rw [hdiv, Int.add_zero] at h1
      have h2 : v % 4294967296 / 2 ^ s < 2 ^ (32 - s) := Int.ediv_lt_of_lt_mul hD (by rw [Int.mul_comm, hD2]; omega)
      have h3 : (2 : Int) ^ s * (v % 4294967296 / 2 ^ s + 1) ≤ 2 ^ s * 2 ^ (32 - s) := Int.mul_le_mul_of_nonneg_left (by omega) (by omega)
      rw [hD2, Int.mul_add, h1] at h3
      omega
    have hor : Go.bits .or .u32 out[i] (v % 4294967296) = out[i] + v % 4294967296 := or32 _ _ s (by omega) hgo.1 hc (by omega) (by omega) hdiv
    by_cases hnx : i + 1 < L
    · obtain ⟨r, hr, h1, h2, h3⟩ := ih (i + 1) ((out.set i (out[i] + v % 4294967296)).set (i + 1) (v / 4294967296)) (by omega) (by simp [ho]) ((hlo.set _ _ (by omega) (by omega)).set _ _ (by omega) (by omega)) (fun j hj => by
          unfold lim
          rw [List.getD_eq_getElem?_getD, List.getElem?_set_ne (by omega), List.getElem?_set_ne (by omega)]
          have := hz j (by omega)
          unfold lim at this
          rwa [List.getD_eq_getElem?_getD] at this) (by rw [lim_in _ _ (by simp; omega), List.getElem_set_self]; exact hhi) (by
          have hz1 := hz (i + 1) (by omega)
          have hi1 : i + 1 < out.length := by omega
          rw [lim_in out _ hi1] at hz1
          rw [V_set _ _ _ (by simp; omega), V_set _ _ _ hlo2, List.getElem_set_ne (by omega), hz1, hV, V_take_succ a i hlt, Int.pow_succ]
          have := left_alg (4294967296 ^ i) (2 ^ s) a[i] (v % 4294967296) (v / 4294967296) (V (a.take i)) _ (by rw [← hv]; omega) rfl
          rw [← this]
          generalize (4294967296 : Int) ^ i = P
          generalize V (a.take i) * 2 ^ s = W
          grind)
      refine ⟨r, ?_, h1, h2, h3⟩
      refine Ev.step (fun k => by simp only [nat_left.l0]; rfl) (Ev.pos (by omega) (Ev.pos (by omega) (Ev.pos (by omega) (Ev.pos (by omega) (Ev.pos (by omega) (Ev.pre rfl ?_))))))
      rw [rd_get a i hlt, rd_get out i hlo2, hsh, hor, wrap_id (x := (i : Int) + 1) (by omega) (by omega), Int.toNat_natCast, show v / 4294967296 % 4294967296 = v / 4294967296 by omega, show ((i : Int) + 1).toNat = i + 1 by omega]
      exact Ev.pos (by omega) (Ev.pos (by omega) hr)
    · have hia : i + 1 = a.length := by omega
      have alg := left_alg (4294967296 ^ i) (2 ^ s) a[i] (v % 4294967296) (v / 4294967296) (V (a.take i)) _ (by rw [← hv]; omega) rfl
      have hfull : V (a.take i) + 4294967296 ^ i * a[i] = V a := by rw [← V_take_succ a i hlt, List.take_of_length_le (by omega)]
      rw [hfull, ← hV] at alg
      have pp : (0 : Int) < 4294967296 ^ i := Int.pow_pos (by decide)
      have hv0 := V_nonneg hlo
      have hlo0 : 0 ≤ (4294967296 : Int) ^ i * (v % 4294967296) := Int.mul_nonneg (by omega) (by omega)
      have hhz : v / 4294967296 = 0 := by
        rcases Int.lt_or_le 0 (v / 4294967296) with g | g
        · exfalso
          have h5 : 4294967296 ^ i * 4294967296 * 1 ≤ 4294967296 ^ i * 4294967296 * (v / 4294967296) := Int.mul_le_mul_of_nonneg_left (by omega) (by omega)
          rw [show L = i + 1 by omega, Int.pow_succ] at hT
          omega
        · have : 0 ≤ v / 4294967296 := Int.ediv_nonneg v0 (by decide)
          omega
      rw [hhz, Int.mul_zero, Int.add_zero] at alg
      obtain ⟨r, hr, h1, h2, h3⟩ := ih (i + 1) (out.set i (out[i] + v % 4294967296)) (by omega) (by simp [ho]) (hlo.set _ _ (by omega) (by omega)) (fun j hj => lim_out _ _ (by simp; omega)) (by rw [lim_out _ _ (by simp; omega)]; exact hD) (by
          rw [V_set _ _ _ hlo2, List.take_of_length_le (by omega), ← alg]
          grind)
      refine ⟨r, ?_, h1, h2, h3⟩
      refine Ev.step (fun k => by simp only [nat_left.l0]; rfl) (Ev.pos (by omega) (Ev.pos (by omega) (Ev.pos (by omega) (Ev.pos (by omega) (Ev.pos (by omega) (Ev.pre rfl ?_))))))
      rw [rd_get a i hlt, rd_get out i hlo2, hsh, hor, wrap_id (x := (i : Int) + 1) (by omega) (by omega), Int.toNat_natCast]
      exact Ev.neg (by omega) hr
theorem left_gf (a : List Int) (ha : Lim a) (hla : a.length ≤ 4096) (s : Nat) (hs : s < 32) (m : Nat) (hm : m ≤ 1) (hT : V a * 2 ^ s < 4294967296 ^ (a.length + m)) : ∃ r, Ev (fun k => nat_left.f k a (s : Int) (m : Int)) r ∧ Lim r ∧ r.length = a.length + m ∧ V r = V a * 2 ^ s := by
  obtain ⟨r, hr, h1, h2, h3⟩ := left_g0 a ha s hs (a.length + m) (by omega) hT (by omega) a.length 0 (List.replicate (a.length + m) 0) (by omega) (by simp) (Lim.zeros _) (fun j _ => zeros_lim _ j) (by rw [zeros_lim]; exact Int.pow_pos (by decide)) (by rw [V_zeros]; simp [V])
  refine ⟨r, ?_, h1, h2, h3⟩
  refine Ev.congr (fun k => by unfold nat_left.f; rfl) ?_
  rw [wrap_id (x := (a.length : Int) + (m : Int)) (by omega) (by omega), show ((a.length : Int) + (m : Int)).toNat = a.length + m by omega]
  exact Ev.pos (by omega) (Ev.pos (by omega) hr)
theorem pow_split (n : Nat) : (4294967296 : Int) ^ (n / 32) * 2 ^ (n % 32) = 2 ^ n := by
  rw [pow32, ← Int.pow_add, show 32 * (n / 32) + n % 32 = n by omega]
theorem tdiv32 (n : Int) (h : 0 ≤ n) : Int.tdiv n 32 = ((n.toNat / 32 : Nat) : Int) := by rw [Int.tdiv_eq_ediv_of_nonneg h]; omega
theorem tmod32 (n : Int) (h : 0 ≤ n) : Int.tmod n 32 = ((n.toNat % 32 : Nat) : Int) := by rw [Int.tmod_eq_emod_of_nonneg h]; omega
theorem or64h (x y : Int) (x0 : 0 ≤ x) (x1 : x < 4294967296) (y0 : 0 ≤ y) (y1 : y < 4294967296) : Go.bits .or .u64 x (y * 4294967296) = x + 4294967296 * y := by
  have h := bits_join .u64 64 (by decide) (fun n h0 h1 => u64_id h0 h1) 32 (y * 4294967296) x (by omega) (by omega) (by omega) x0 x1 (by omega)
  have hc : Go.bits .or .u64 x (y * 4294967296) = Go.bits .or .u64 (y * 4294967296) x := by
    unfold Go.bits
    simp only
    rw [BitVec.or_comm]
  rw [hc, h]; omega
theorem shr64 (x : Int) (s : Nat) (hs : s < 32) : shr .u64 x (s : Int) = x / 2 ^ s := by
  unfold shr
  have e : min (s : Int).toNat IntKind.u64.bits = s := by
    have : IntKind.u64.bits = 64 := rfl
    omega
  rw [e]
theorem sh_get (D : Int) (l : List Int) (i : Nat) (h : i < (sh D l).length) : (sh D l)[i] = (lim l i + 4294967296 * lim l (i + 1)) / D % 4294967296 := by
  induction l generalizing i with
  | nil => simp [sh] at h
  | cons x l ih =>
    cases i with
    | zero =>
      simp only [sh, List.getElem_cons_zero]
      have : lim (x :: l) (0 + 1) = l.headD 0 := by cases l <;> rfl
      rw [this]
      rfl
    | succ i =>
      simp only [sh, List.getElem_cons_succ]
      rw [ih i (by simpa [sh] using h)]
      rfl
theorem take_set (l : List Int) (i : Nat) (x : Int) (h : i < l.length) : (l.set i x).take (i + 1) = l.take i ++ [x] := by
  rw [List.take_succ_eq_append_getElem (by simpa using h), List.take_set_of_le (Nat.le_refl _), List.getElem_set_self]
theorem shr_l0 (a : List Int) (ha : Lim a) (n : Int) (hn : 0 ≤ n) (hla : a.length ≤ 4096) : ∀ (d i : Nat) (out : List Int), i + d = a.length → out.length = a.length → out.take i = (sh (2 ^ (n.toNat % 32)) a).take i →
    Ev (fun k => nat_Shr.l0 k a n out a (a.length : Int) (i : Int)) (ans (V a / 2 ^ (n.toNat % 32))) := by
  have hE : (0 : Int) < 2 ^ (32 - n.toNat % 32) := Int.pow_pos (by decide)
  have hD : (0 : Int) < 2 ^ (n.toNat % 32) := Int.pow_pos (by decide)
  have hB : (4294967296 : Int) = 2 ^ (n.toNat % 32) * 2 ^ (32 - n.toNat % 32) := by
    rw [← Int.pow_add, show n.toNat % 32 + (32 - n.toNat % 32) = 32 by omega]; decide
  intro d
  induction d with
  | zero =>
    intro i out hi ho ht
    rw [List.take_of_length_le (by omega), List.take_of_length_le (by rw [sh_len]; omega)] at ht
    subst ht
    have := told_f (sh (2 ^ (n.toNat % 32)) a) (sh_lim _ a) (by rw [sh_len]; omega)
    rw [V_sh _ _ hD hE hB a ha] at this
    exact Ev.step (fun k => by simp only [nat_Shr.l0]; rfl) (Ev.neg (by omega) (Ev.bind this (Ev.const rfl)))
  | succ d ih =>
    intro i out hi ho ht
    have hlt : i < a.length := by omega
    have hg := ha.get i hlt
    have hnext : ∀ v : Int, v = (sh (2 ^ (n.toNat % 32)) a)[i]'(by rw [sh_len]; exact hlt) → (out.set i v).take (i + 1) = (sh (2 ^ (n.toNat % 32)) a).take (i + 1) := by
      intro v hv
      rw [take_set _ _ _ (by omega), ht, hv, ← List.take_succ_eq_append_getElem]
    refine Ev.step (fun k => by simp only [nat_Shr.l0]; rfl) (Ev.pos (by omega) (Ev.pos (by omega) (Ev.pos (by omega) ?_)))
    rw [rd_get a i hlt, wrap_id (x := (i : Int) + 1) (by omega) (by omega), tmod32 n hn, shr64 _ _ (Nat.mod_lt _ (by decide)), shr64 _ _ (Nat.mod_lt _ (by decide)), Int.toNat_natCast, u64_id (n := a[i]) (by omega) (by omega)]
    by_cases h1 : i + 1 < a.length
    · have hg1 := ha.get (i + 1) h1
      rw [show (i : Int) + 1 = ((i + 1 : Nat) : Int) by omega, rd_get a (i + 1) h1, u64_id (n := a[i + 1]) (by omega) (by omega), u64_id (n := a[i + 1] * 4294967296) (by omega) (by omega), or64h _ _ hg.1 hg.2 hg1.1 hg1.2]
      refine Ev.pos (by omega) (Ev.pos (by omega) (Ev.pos (by omega) (Ev.pos (by omega) (ih (i + 1) _ (by omega) (by simp [ho]) (hnext _ ?_)))))
      rw [sh_get, lim_in a i hlt, lim_in a (i + 1) h1]
    · rw [show (i : Int) + 1 = ((i + 1 : Nat) : Int) by omega]
      refine Ev.neg (by omega) (Ev.pos (by omega) (Ev.pos (by omega) (ih (i + 1) _ (by omega) (by simp [ho]) (hnext _ ?_))))
      rw [sh_get, lim_in a i hlt, lim_out a (i + 1) (by omega)]
      simp
def shrA (a : List Int) (n : Int) : List Int × Int := if short [a] then (if n < 0 then ([], 1) else (enc (V a / 2 ^ n.toNat), 0)) else ([], 2)
theorem drop_div (a : List Int) (ha : Lim a) (q : Nat) (h : q ≤ a.length) : V (a.drop q) = V a / 4294967296 ^ q := by
  have e := V_split a q h
  have h1 := V_lt (ha.take q)
  rw [List.length_take, Nat.min_eq_left h] at h1
  have h2 := V_nonneg (ha.take q)
  exact (div_of (n := V a) (r := V (a.take q)) (by rw [e]; omega) h2 h1).symm
theorem div_split (v : Int) (n : Nat) : v / 4294967296 ^ (n / 32) / 2 ^ (n % 32) = v / 2 ^ n := by
  rw [Int.ediv_ediv_of_nonneg (Int.le_of_lt (Int.pow_pos (by decide))), pow_split]
theorem shr_f (a : List Int) (n : Int) (ha : okL a) (hn : n ≤ 9223372036854775807) : Ev (fun k => nat_Shr.f k a n) (shrA a n) := by
  refine Ev.congr (fun k => by unfold nat_Shr.f; rfl) (Ev.bind (fits_f [a] (fun x hx => by simp at hx; exact hx ▸ ha) (by simp)) ?_)
  have hv := V_nonneg ha.1
  unfold shrA
  by_cases h : short [a]
  · rw [if_pos h]
    refine Ev.pos (by simpa using h) ?_
    have hs := h a (by simp)
    by_cases h1 : n < 0
    · rw [if_pos h1]; exact Ev.pos h1 (Ev.const rfl)
    · rw [if_neg h1]
      have htl : (trimL a).length ≤ 4096 := by rw [len_trim ha.1]; exact hs
      refine Ev.neg h1 (Ev.bind (trim_f a (by have := ha.2; omega)) ?_)
      rw [tdiv32 n (by omega), wrap_id (by omega) (by omega), Int.toNat_natCast]
      by_cases h2 : (trimL a).length ≤ n.toNat / 32
      · refine Ev.pos (by omega) (Ev.const ?_)
        have hz : V a / 2 ^ n.toNat = 0 := by
          apply Int.ediv_eq_zero_of_lt hv
          have h3 := V_lt ha.1.trim
          rw [V_trim, pow32] at h3
          have h4 : (2 : Int) ^ (32 * (trimL a).length) ≤ 2 ^ n.toNat := by
            have h := Nat.pow_le_pow_right (n := 2) (by decide) (show 32 * (trimL a).length ≤ n.toNat by omega)
            have h2 : ((2 ^ (32 * (trimL a).length) : Nat) : Int) ≤ ((2 ^ n.toNat : Nat) : Int) := Int.ofNat_le.2 h
            rw [Int.natCast_pow, Int.natCast_pow] at h2
            exact h2
          omega
        rw [hz, enc_zero]
      · refine Ev.neg (by omega) (Ev.pos (by omega) (Ev.pos (by omega) (Ev.pre rfl ?_)))
        have hd : ((trimL a).drop (n.toNat / 32)).length = (trimL a).length - n.toNat / 32 := by simp
        refine Ev.pos (by omega) (Ev.pos (by omega) ?_)
        have := shr_l0 ((trimL a).drop (n.toNat / 32)) (ha.1.trim.drop _) n (by omega) (by omega) ((trimL a).drop (n.toNat / 32)).length 0 (List.replicate ((trimL a).drop (n.toNat / 32)).length 0) (by omega) (by simp) (by simp)
        rw [drop_div _ ha.1.trim _ (by omega), V_trim, div_split] at this
        refine Ev.res this ?_
        have hl : len (V a / 2 ^ n.toNat) ≤ len (V a) := len_mono (Int.ediv_nonneg hv (Int.le_of_lt (Int.pow_pos (by decide)))) (Int.ediv_le_self _ hv)
        rw [ans, if_pos (by omega)]
  · rw [if_neg h]
    exact Ev.neg (by simpa using h) (Ev.const rfl)
theorem mul_bd {c o x y : Int} (c0 : 0 ≤ c) (c1 : c < 4294967296) (o0 : 0 ≤ o) (o1 : o < 4294967296) (x0 : 0 ≤ x) (x1 : x < 4294967296) (y0 : 0 ≤ y) (y1 : y < 4294967296) : 0 ≤ x * y ∧ x * y ≤ 18446744065119617025 ∧ 0 ≤ c + o + x * y ∧ c + o + x * y < 18446744073709551616 := by
  have h1 : 0 ≤ x * y := Int.mul_nonneg x0 y0
  have h2 : x * y ≤ 4294967295 * 4294967295 := Int.mul_le_mul (by omega) (by omega) y0 (by decide)
  omega
theorem rd_lim (l : List Int) (j : Nat) : rd l (j : Int) = lim l j := by rw [rd_getD, Int.toNat_natCast]; rfl
theorem V_set_lim (l : List Int) (i : Nat) (x : Int) (h : i < l.length) : V (l.set i x) = V l + 4294967296 ^ i * (x - lim l i) := by rw [V_set l i x h, lim_in l i h]
theorem mask32 (x : Int) (h0 : 0 ≤ x) (h1 : x < 18446744073709551616) : Go.bits .and .u64 x 4294967295 = x % 4294967296 :=
  bits_mask .u64 64 (by decide) (fun n g0 g1 => u64_id g0 (by omega)) 32 (by decide) x h0 h1
theorem dsub_alg (W P r o hi b' c b q y R lo : Int) (e1 : o - lo - b = r - 4294967296 * b') (e2 : c + q * y = lo + 4294967296 * hi) :
    W + P * (r - o) - (hi + b') * (P * 4294967296) - P * 4294967296 * (q * R) = W - (c + b) * P - P * (q * (y + 4294967296 * R)) := by grind
theorem dsub_l1 (v : List Int) (hv : Lim v) (q : Int) (q0 : 0 ≤ q) (q1 : q < 4294967296) (S : Int) (n : Nat) (hn : v.length = n) (hL : n ≤ 100000) (R : Int × List Int → Prop)
    (fin : ∀ (out : List Int) (b : Int), Lim out → out.length = n + 1 → 0 ≤ b → b ≤ 1 → V out = S + b * 4294967296 ^ (n + 1) → ∃ r, Ev (fun k => nat_digitw.l1 k out v (n : Int) q 0 b ((n + 1 : Nat) : Int) ((n + 1 : Nat) : Int)) r ∧ R r) :
    ∀ (d i : Nat) (out : List Int) (c b : Int), i + d = n + 1 → out.length = n + 1 → Lim out → 0 ≤ c → c < 4294967296 → 0 ≤ b → b ≤ 1 → (i = n + 1 → c = 0) → V out - (c + b) * 4294967296 ^ i - 4294967296 ^ i * (q * V (v.drop i)) = S →
      ∃ r, Ev (fun k => nat_digitw.l1 k out v (n : Int) q c b ((n + 1 : Nat) : Int) (i : Int)) r ∧ R r := by
  intro d
  induction d with
  | zero =>
    intro i out c b hi ho hlo c0 c1 b0 b1 hc hV
    have hi1 : i = n + 1 := by omega
    subst hi1
    obtain rfl := hc rfl
    rw [List.drop_eq_nil_of_le (by omega)] at hV
    refine fin out b hlo ho b0 b1 ?_
    simp only [V, Int.mul_zero, Int.sub_zero, Int.zero_add] at hV
    omega
  | succ d ih =>
    intro i out c b hi ho hlo c0 c1 b0 b1 hc hV
    have hlt : i < out.length := by omega
    have go := lim_bd hlo i
    have gv := lim_bd hv i
    have bd := mul_bd c0 c1 (Int.le_refl 0) (by decide) q0 q1 gv.1 gv.2
    have bd2 : lim v i * q ≤ 18446744065119617025 := by rw [Int.mul_comm]; exact bd.2.1
    have hw : ∀ lo, 0 ≤ lo → lo < 4294967296 → ∃ r x : Int, (IntKind.u64.wrap (IntKind.u64.wrap (lim out i - lo) - b)) % 4294967296 = r ∧ (IntKind.u64.wrap (IntKind.u64.wrap (lim out i - lo) - b)) / 9223372036854775808 = x ∧ 0 ≤ r ∧ r < 4294967296 ∧ 0 ≤ x ∧ x ≤ 1 ∧ lim out i - lo - b = r - 4294967296 * x := by
      intro lo l0 l1
      refine ⟨_, _, rfl, rfl, ?_⟩
      rw [u64_mod, u64_mod]
      omega
    have step : ∀ lo hi' : Int, 0 ≤ lo → lo < 4294967296 → 0 ≤ hi' → hi' < 4294967296 → (i = n → hi' = 0) → c + q * lim v i = lo + 4294967296 * hi' →
        ∀ r x : Int, 0 ≤ r → r < 4294967296 → 0 ≤ x → x ≤ 1 → lim out i - lo - b = r - 4294967296 * x → ∃ z, Ev (fun k => nat_digitw.l1 k (out.set i r) v (n : Int) q hi' x ((n + 1 : Nat) : Int) ((i + 1 : Nat) : Int)) z ∧ R z := by
      intro lo hi' l0 l1 h0 h1 hz e2 r x r0 r1 x0 x1 e1
      refine ih (i + 1) (out.set i r) hi' x (by omega) (by simp [ho]) (hlo.set _ _ r0 r1) h0 h1 x0 x1 (fun h => hz (by omega)) ?_
      rw [V_set_lim out i _ hlt, Int.pow_succ, ← hV, V_lim v i]
      exact dsub_alg _ _ _ _ _ _ _ _ _ _ _ _ e1 e2
    by_cases hin : i < n
    · obtain ⟨r, x, e1, e2, r0, r1, x0, x1, e⟩ := hw ((c + q * lim v i) % 4294967296) (by omega) (by omega)
      obtain ⟨z, hz, hR⟩ := step ((c + q * lim v i) % 4294967296) ((c + q * lim v i) / 4294967296) (by omega) (by omega) (by omega) (by omega) (by omega) (by omega) r x r0 r1 x0 x1 e
      refine ⟨z, ?_, hR⟩
      refine Ev.step (fun k => by simp only [nat_digitw.l1]; rfl) (Ev.pos (by omega) (Ev.pos (by omega) (Ev.pos (by omega) (Ev.pos (by omega) (Ev.pos (by omega) ?_)))))
      rw [rd_lim, rd_lim, u64_id (n := lim v i) (by omega) (by omega), u64_id (n := lim out i) (by omega) (by omega), u64_id (n := q * lim v i) (by omega) (by omega), u64_id (n := c + q * lim v i) (by omega) (by omega), mask32 _ (by omega) (by omega), e1, e2, wrap_id (by omega) (by omega), Int.toNat_natCast]
      exact hz
    · have hi1 : i = n := by omega
      have hvz : lim v i = 0 := lim_out v i (by omega)
      obtain ⟨r, x, e1, e2, r0, r1, x0, x1, e⟩ := hw c c0 c1
      obtain ⟨z, hz, hR⟩ := step c 0 c0 c1 (by omega) (by omega) (fun _ => rfl) (by rw [hvz]; simp) r x r0 r1 x0 x1 e
      refine ⟨z, ?_, hR⟩
      refine Ev.step (fun k => by simp only [nat_digitw.l1]; rfl) (Ev.pos (by omega) (Ev.neg (by omega) (Ev.pos (by omega) (Ev.pos (by omega) ?_))))
      rw [rd_lim, u64_id (n := lim out i) (by omega) (by omega), mask32 c c0 (by omega), show c % 4294967296 = c by omega, e1, e2, show c / 4294967296 = 0 by omega, wrap_id (by omega) (by omega), Int.toNat_natCast]
      exact hz
theorem dadd_alg (W P lo o hi c y R : Int) (e : c + o + y = lo + 4294967296 * hi) : W + P * (lo - o) + hi * (P * 4294967296) + P * 4294967296 * R = W + c * P + P * (y + 4294967296 * R) := by grind
theorem dadd_l2 (v : List Int) (hv : Lim v) (q : Int) (S : Int) (n : Nat) (hn : v.length = n) (hL : n ≤ 100000) :
    ∀ (d i : Nat) (out : List Int) (c : Int), i + d = n + 1 → out.length = n + 1 → Lim out → 0 ≤ c → c ≤ 1 → V out + c * 4294967296 ^ i + 4294967296 ^ i * V (v.drop i) = S →
      ∃ (r : List Int) (c' : Int), Ev (fun k => nat_digitw.l2 k out v (n : Int) q c ((n + 1 : Nat) : Int) (i : Int)) ((IntKind.u64.wrap (q - 1)) % 4294967296, r) ∧ Lim r ∧ r.length = n + 1 ∧ 0 ≤ c' ∧ c' ≤ 1 ∧ V r + c' * 4294967296 ^ (n + 1) = S := by
  intro d
  induction d with
  | zero =>
    intro i out c hi ho hlo c0 c1 hV
    have hi1 : i = n + 1 := by omega
    subst hi1
    rw [List.drop_eq_nil_of_le (by omega)] at hV
    simp only [V, Int.mul_zero, Int.add_zero] at hV
    exact ⟨out, c, Ev.step (fun k => by simp only [nat_digitw.l2]; rfl) (Ev.neg (by omega) (Ev.const rfl)), hlo, ho, c0, c1, hV⟩
  | succ d ih =>
    intro i out c hi ho hlo c0 c1 hV
    have hlt : i < out.length := by omega
    have go := lim_bd hlo i
    have gv := lim_bd hv i
    have step : ∀ y, y = lim v i → ∃ (r : List Int) (c' : Int), Ev (fun k => nat_digitw.l2 k (out.set i ((c + lim out i + y) % 4294967296)) v (n : Int) q ((c + lim out i + y) / 4294967296) ((n + 1 : Nat) : Int) ((i + 1 : Nat) : Int)) ((IntKind.u64.wrap (q - 1)) % 4294967296, r) ∧ Lim r ∧ r.length = n + 1 ∧ 0 ≤ c' ∧ c' ≤ 1 ∧ V r + c' * 4294967296 ^ (n + 1) = S := by
      intro y hy
      refine ih (i + 1) _ _ (by omega) (by simp [ho]) (hlo.set _ _ (by omega) (by omega)) (by omega) (by omega) ?_
      rw [V_set_lim out i _ hlt, Int.pow_succ, ← hV, V_lim v i]
      exact dadd_alg _ _ _ _ _ _ _ _ (by omega)
    by_cases hin : i < n
    · obtain ⟨r, c', h1, h2⟩ := step _ rfl
      refine ⟨r, c', ?_, h2⟩
      refine Ev.step (fun k => by simp only [nat_digitw.l2]; rfl) (Ev.pos (by omega) (Ev.pos (by omega) (Ev.pos (by omega) (Ev.pos (by omega) (Ev.pos (by omega) ?_)))))
      rw [rd_lim, rd_lim, u64_id (n := lim v i) (by omega) (by omega), u64_id (n := lim out i) (by omega) (by omega), u64_id (n := c + lim out i) (by omega) (by omega), u64_id (n := c + lim out i + lim v i) (by omega) (by omega), wrap_id (by omega) (by omega), Int.toNat_natCast]
      exact Ev.pre (low_f _ (by omega)) h1
    · have hvz : lim v i = 0 := lim_out v i (by omega)
      obtain ⟨r, c', h1, h2⟩ := step 0 hvz.symm
      rw [Int.add_zero] at h1
      refine ⟨r, c', ?_, h2⟩
      refine Ev.step (fun k => by simp only [nat_digitw.l2]; rfl) (Ev.pos (by omega) (Ev.pos (by omega) (Ev.pos (by omega) (Ev.neg (by omega) ?_))))
      rw [rd_lim, u64_id (n := lim out i) (by omega) (by omega), u64_id (n := c + lim out i) (by omega) (by omega), wrap_id (by omega) (by omega), Int.toNat_natCast]
      exact Ev.pre (low_f _ (by omega)) h1
theorem quo_one {U W q : Int} (h1 : q * W ≤ U) (h2 : U < (q + 1) * W) (hW : 0 < W) : U / W = q ∧ U % W = U - q * W := by
  have h3 : (q + 1) * W = q * W + W := by rw [Int.add_mul, Int.one_mul]
  have e : U / W = q := by
    have g1 : q ≤ U / W := (Int.le_ediv_iff_mul_le hW).2 h1
    have g2 : U / W < q + 1 := (Int.ediv_lt_iff_lt_mul hW).2 h2
    omega
  refine ⟨e, ?_⟩
  have := Int.emod_def U W
  rw [this, e, Int.mul_comm]
theorem dig_j2 (u v : List Int) (hu : Lim u) (hv : Lim v) (n : Nat) (hn : v.length = n) (hun : u.length = n + 1) (hL : n ≤ 100000) (hW : 0 < V v) (q : Int) (q0 : 0 ≤ q) (q1 : q < 4294967296) (h1 : V u < (q + 1) * V v) (h2 : (q - 1) * V v ≤ V u) :
    ∃ r : Int × List Int, Ev (fun k => nat_digitw.j2 k u v (n : Int) q) r ∧ (r.1 = V u / V v ∧ Lim r.2 ∧ r.2.length = n + 1 ∧ V r.2 = V u % V v) := by
  have key := dsub_l1 v hv q q0 q1 (V u - q * V v) n hn hL (fun r => r.1 = V u / V v ∧ Lim r.2 ∧ r.2.length = n + 1 ∧ V r.2 = V u % V v) ?_ (n + 1) 0 u 0 0 (by omega) hun hu (by omega) (by omega) (by omega) (by omega) (by omega) (by simp)
  · obtain ⟨r, hr, hR⟩ := key
    refine ⟨r, Ev.step (fun k => by simp only [nat_digitw.j2]; rfl) ?_, hR⟩
    rw [hun]
    exact hr
  · intro out b hlo ho b0 b1 hV
    have v0 := V_nonneg hlo
    have v1 := V_lt hlo
    rw [ho] at v1
    have hb : b = 0 ∨ b = 1 := by omega
    rcases hb with rfl | rfl
    · rw [Int.zero_mul, Int.add_zero] at hV
      obtain ⟨e1, e2⟩ := quo_one (q := q) (by omega) h1 hW
      refine ⟨(q % 4294967296, out), Ev.step (fun k => by simp only [nat_digitw.l1]; rfl) (Ev.neg (by omega) (Ev.pos (by trivial) (Ev.const rfl))), by show q % 4294967296 = _; omega, hlo, ho, by show V out = _; omega⟩
    · rw [Int.one_mul] at hV
      have e3 : (q - 1) * V v = q * V v - V v := by rw [Int.sub_mul, Int.one_mul]
      have e4 : (q - 1 + 1) * V v = q * V v := by rw [Int.sub_add_cancel]
      obtain ⟨e1, e2⟩ := quo_one (q := q - 1) h2 (by rw [e4]; omega) hW
      obtain ⟨r, c', h3, h4, h5, h6, h7, h8⟩ := dadd_l2 v hv q (V out + V v) n hn hL (n + 1) 0 out 0 (by omega) ho hlo (by omega) (by omega) (by simp)
      have r0 := V_nonneg h4
      have r1 := V_lt h4
      rw [h5] at r1
      have hq1 : 1 ≤ q := by
        rcases Int.lt_or_le q 1 with g | g
        · have : q = 0 := by omega
          subst this
          have := V_nonneg hu
          simp only [Int.zero_mul] at hV
          omega
        · exact g
      have hvn := V_lt hv
      have hc : c' = 1 := by
        rcases (show c' = 0 ∨ c' = 1 by omega) with rfl | rfl
        · rw [Int.zero_mul, Int.add_zero] at h8
          omega
        · rfl
      subst hc
      rw [Int.one_mul] at h8
      refine ⟨((IntKind.u64.wrap (q - 1)) % 4294967296, r), Ev.step (fun k => by simp only [nat_digitw.l1]; rfl) (Ev.neg (by omega) (Ev.neg (by decide) ?_)), ?_, h4, h5, ?_⟩
      · rw [ho]; exact h3
      · show IntKind.u64.wrap (q - 1) % 4294967296 = _
        rw [u64_id (by omega) (by omega)]; omega
      · show V r = _
        omega
theorem V_two (v : List Int) (hv : Lim v) (m : Nat) (hn : v.length = m + 2) : ∃ vl, 0 ≤ vl ∧ vl < 4294967296 ^ m ∧ V v = (lim v (m + 1) * 4294967296 + lim v m) * 4294967296 ^ m + vl := by
  refine ⟨V (v.take m), V_nonneg (hv.take m), by have := V_lt (hv.take m); rwa [List.length_take, Nat.min_eq_left (by omega)] at this, ?_⟩
  rw [V_split v m (by omega), V_lim v m, V_lim v (m + 1), List.drop_eq_nil_of_le (by omega)]
  simp only [V]
  grind
theorem V_three (u : List Int) (hu : Lim u) (m : Nat) (hun : u.length = m + 3) : ∃ ul, 0 ≤ ul ∧ ul < 4294967296 ^ m ∧ V u = ((lim u (m + 2) * 4294967296 + lim u (m + 1)) * 4294967296 + lim u m) * 4294967296 ^ m + ul := by
  refine ⟨V (u.take m), V_nonneg (hu.take m), by have := V_lt (hu.take m); rwa [List.length_take, Nat.min_eq_left (by omega)] at this, ?_⟩
  rw [V_split u m (by omega), V_lim u m, V_lim u (m + 1), V_lim u (m + 2), List.drop_eq_nil_of_le (by omega)]
  simp only [V]
  grind
theorem top_le (u v : List Int) (hu : Lim u) (hv : Lim v) (m : Nat) (hn : v.length = m + 2) (hun : u.length = m + 3) (hlt : V u < 4294967296 * V v) : lim u (m + 2) ≤ lim v (m + 1) := by
  obtain ⟨vl, a0, a1, ev⟩ := V_two v hv m hn
  obtain ⟨ul, b0, b1, eu⟩ := V_three u hu m hun
  have pos : (0 : Int) < 4294967296 ^ m := Int.pow_pos (by decide)
  have gu1 := lim_bd hu (m + 1)
  have gu0 := lim_bd hu m
  have gv := lim_bd hv m
  rcases Int.lt_or_le (lim v (m + 1)) (lim u (m + 2)) with h | h
  · exfalso
    have h3 : (lim v (m + 1) + 1) * (18446744073709551616 * 4294967296 ^ m) ≤ lim u (m + 2) * (18446744073709551616 * 4294967296 ^ m) := Int.mul_le_mul_of_nonneg_right (by omega) (by omega)
    have h4 : 0 ≤ (lim u (m + 1) * 4294967296 + lim u m) * 4294967296 ^ m := Int.mul_nonneg (by omega) (by omega)
    have h5 : lim v m * 4294967296 ^ m ≤ 4294967295 * 4294967296 ^ m := Int.mul_le_mul_of_nonneg_right (by omega) (by omega)
    have e1 : V u = lim u (m + 2) * (18446744073709551616 * 4294967296 ^ m) + (lim u (m + 1) * 4294967296 + lim u m) * 4294967296 ^ m + ul := by rw [eu]; grind
    have e2 : 4294967296 * V v = lim v (m + 1) * (18446744073709551616 * 4294967296 ^ m) + 4294967296 * (lim v m * 4294967296 ^ m) + 4294967296 * vl := by rw [ev]; grind
    have e3 : (lim v (m + 1) + 1) * (18446744073709551616 * 4294967296 ^ m) = lim v (m + 1) * (18446744073709551616 * 4294967296 ^ m) + 18446744073709551616 * 4294967296 ^ m := by grind
    omega
  · exact h
section dig
variable (u v : List Int) (hu : Lim u) (hv : Lim v) (m : Nat) (hn : v.length = m + 2) (hun : u.length = m + 3) (hL : m ≤ 90000) (hlt : V u < 4294967296 * V v) (h31 : 2147483648 ≤ lim v (m + 1))
include hu hv hn hun hL hlt h31
theorem est_l0 (R : Int × List Int → Prop) (cont : ∀ q : Int, 0 ≤ q → q < 4294967296 → V u < (q + 1) * V v → (q - 1) * V v ≤ V u → ∃ r, Ev (fun k => nat_digitw.j2 k u v ((m + 2 : Nat) : Int) q) r ∧ R r) :
    ∀ (d : Nat) (q rh : Int), 4294967296 ≤ rh + (d : Int) * 2147483648 → 0 ≤ rh → rh < 4294967296 → 0 ≤ q → q ≤ 8589934592 → lim u (m + 2) * 4294967296 + lim u (m + 1) = q * lim v (m + 1) + rh → V u < (q + 1) * V v →
      ∃ r, Ev (fun k => nat_digitw.l0 k u v ((m + 2 : Nat) : Int) q rh) r ∧ R r := by
  obtain ⟨vl, a0, a1, ev⟩ := V_two v hv m hn
  obtain ⟨ul, b0, b1, eu⟩ := V_three u hu m hun
  have tle := top_le u v hu hv m hn hun hlt
  have pos : (0 : Int) < 4294967296 ^ m := Int.pow_pos (by decide)
  have gu2 := lim_bd hu (m + 2)
  have gu1 := lim_bd hu (m + 1)
  have gu0 := lim_bd hu m
  have gv1 := lim_bd hv (m + 1)
  have gv0 := lim_bd hv m
  have hW : 0 < V v := by
    have : 0 < (lim v (m + 1) * 4294967296 + lim v m) * 4294967296 ^ m := Int.mul_pos (by omega) pos
    omega
  intro d
  induction d with
  | zero => intro q rh h1 h2 h3; omega
  | succ d ih =>
    intro q rh hd r0 r1 q0 q1 ht hq
    have ix2 : wrap64 (((m + 2 : Nat) : Int) - 2) = (m : Int) := by rw [wrap_id (by omega) (by omega)]; omega
    have ix1 : wrap64 (((m + 2 : Nat) : Int) - 1) = ((m + 1 : Nat) : Int) := by rw [wrap_id (by omega) (by omega)]; omega
    have less : V u < q * V v → 0 < q → ∃ r, Ev (fun k => nat_digitw.j1 k u v ((m + 2 : Nat) : Int) q rh true) r ∧ R r := by
      intro hl hq1
      have e1 : (q - 1) * lim v (m + 1) = q * lim v (m + 1) - lim v (m + 1) := by rw [Int.sub_mul, Int.one_mul]
      have e2 : (q - 1 + 1) * V v = q * V v := by rw [Int.sub_add_cancel]
      by_cases hb : (rh + lim v (m + 1)) / 4294967296 > 0
      · have hqb : q - 1 < 4294967296 := by
          rcases Int.lt_or_le (q - 1) 4294967296 with g | g
          · exact g
          · exfalso
            have h5 : 4294967296 * lim v (m + 1) ≤ (q - 1) * lim v (m + 1) := Int.mul_le_mul_of_nonneg_right g (by omega)
            have h6 : lim u (m + 2) * 4294967296 ≤ lim v (m + 1) * 4294967296 := Int.mul_le_mul_of_nonneg_right tle (by omega)
            omega
        have hlast : (q - 1 - 1) * V v ≤ V u := by
          refine est_last (qh := q - 1) (rh := rh + lim v (m + 1)) pos b0 a0 (by omega) gv0.1 eu ev (by rw [e1]; omega) (by omega) hqb (by omega) ?_
          have h7 : (q - 1) * lim v m ≤ 4294967295 * 4294967295 := Int.mul_le_mul (by omega) (by omega) gv0.1 (by decide)
          omega
        obtain ⟨r, hr, hR⟩ := cont (q - 1) (by omega) hqb (by rw [e2]; exact hl) hlast
        refine ⟨r, Ev.step (fun k => by simp only [nat_digitw.j1]; rfl) ?_, hR⟩
        rw [ix1, rd_lim, u64_id (n := lim v (m + 1)) (by omega) (by omega), u64_id (n := rh + lim v (m + 1)) (by omega) (by omega), u64_id (n := q - 1) (by omega) (by omega)]
        exact Ev.pos (by trivial) (Ev.pos (by omega) (Ev.pos (by omega) (Ev.pos hb hr)))
      · obtain ⟨r, hr, hR⟩ := ih (q - 1) (rh + lim v (m + 1)) (by omega) (by omega) (by omega) (by omega) (by omega) (by rw [e1]; omega) (by rw [e2]; exact hl)
        refine ⟨r, Ev.step (fun k => by simp only [nat_digitw.j1]; rfl) ?_, hR⟩
        rw [ix1, rd_lim, u64_id (n := lim v (m + 1)) (by omega) (by omega), u64_id (n := rh + lim v (m + 1)) (by omega) (by omega), u64_id (n := q - 1) (by omega) (by omega)]
        exact Ev.pos (by trivial) (Ev.pos (by omega) (Ev.pos (by omega) (Ev.neg hb hr)))
    by_cases hg : q / 4294967296 > 0
    · have hl : V u < q * V v := by
        have : 4294967296 * V v ≤ q * V v := Int.mul_le_mul_of_nonneg_right (by omega) (by omega)
        omega
      obtain ⟨r, hr, hR⟩ := less hl (by omega)
      exact ⟨r, Ev.step (fun k => by simp only [nat_digitw.l0]; rfl) (Ev.pos hg hr), hR⟩
    · have hqm : q * lim v m ≤ 4294967295 * 4294967295 := Int.mul_le_mul (by omega) (by omega) gv0.1 (by decide)
      have hqm0 : 0 ≤ q * lim v m := Int.mul_nonneg q0 gv0.1
      have hor : Go.bits .or .u64 (IntKind.u64.wrap (rh * 4294967296)) (lim u m) = rh * 4294967296 + lim u m := by
        rw [u64_id (by omega) (by omega)]
        exact bits_join .u64 64 (by decide) (fun n h0 h1 => u64_id h0 h1) 32 _ _ (by omega) (by omega) (by omega) gu0.1 gu0.2 (by omega)
      have pre : ∀ r, Ev (fun k => nat_digitw.j1 k u v ((m + 2 : Nat) : Int) q rh (decide (q * lim v m > rh * 4294967296 + lim u m))) r → Ev (fun k => nat_digitw.l0 k u v ((m + 2 : Nat) : Int) q rh) r := by
        intro r hr
        refine Ev.step (fun k => by simp only [nat_digitw.l0]; rfl) ?_
        rw [ix2, rd_lim, rd_lim, u64_id (n := lim v m) (by omega) (by omega), u64_id (n := lim u m) (by omega) (by omega), u64_id (n := q * lim v m) (by omega) (by omega), hor]
        exact Ev.neg hg (Ev.pos (by omega) (Ev.pos (by omega) (Ev.pos (by omega) hr)))
      by_cases ht2 : q * lim v m > rh * 4294967296 + lim u m
      · have hq1 : 0 < q := by
          rcases Int.lt_or_le 0 q with g | g
          · exact g
          · have : q = 0 := by omega
            rw [this, Int.zero_mul] at ht2
            omega
        obtain ⟨r, hr, hR⟩ := less (est_less (qh := q) (rh := rh) pos b1 a0 eu ev ht q0 ht2) hq1
        exact ⟨r, pre r (by rw [decide_eq_true ht2]; exact hr), hR⟩
      · obtain ⟨r, hr, hR⟩ := cont q q0 (by omega) hq (est_last (qh := q) (rh := rh) pos b0 a0 (by omega) gv0.1 eu ev ht q0 (by omega) (by omega) (by omega))
        refine ⟨r, pre r ?_, hR⟩
        rw [decide_eq_false ht2]
        exact Ev.step (fun k => by simp only [nat_digitw.j1]; rfl) (Ev.neg (by simp) hr)
theorem digitw_f : ∃ r : Int × List Int, Ev (fun k => nat_digitw.f k u v) r ∧ (r.1 = V u / V v ∧ Lim r.2 ∧ r.2.length = m + 3 ∧ V r.2 = V u % V v) := by
  obtain ⟨vl, a0, a1, ev⟩ := V_two v hv m hn
  obtain ⟨ul, b0, b1, eu⟩ := V_three u hu m hun
  have tle := top_le u v hu hv m hn hun hlt
  have pos : (0 : Int) < 4294967296 ^ m := Int.pow_pos (by decide)
  have gu2 := lim_bd hu (m + 2)
  have gu1 := lim_bd hu (m + 1)
  have gu0 := lim_bd hu m
  have gv1 := lim_bd hv (m + 1)
  have gv0 := lim_bd hv m
  have hW : 0 < V v := by
    have : 0 < (lim v (m + 1) * 4294967296 + lim v m) * 4294967296 ^ m := Int.mul_pos (by omega) pos
    omega
  have ix1 : wrap64 (((m + 2 : Nat) : Int) - 1) = ((m + 1 : Nat) : Int) := by rw [wrap_id (by omega) (by omega)]; omega
  have hor : Go.bits .or .u64 (IntKind.u64.wrap (lim u (m + 2) * 4294967296)) (lim u (m + 1)) = lim u (m + 2) * 4294967296 + lim u (m + 1) := by
    rw [u64_id (by omega) (by omega)]
    exact bits_join .u64 64 (by decide) (fun n h0 h1 => u64_id h0 h1) 32 _ _ (by omega) (by omega) (by omega) gu1.1 gu1.2 (by omega)
  obtain ⟨top, htop⟩ : ∃ t, lim u (m + 2) * 4294967296 + lim u (m + 1) = t := ⟨_, rfl⟩
  have hv1 : 0 < lim v (m + 1) := by omega
  have hq0 : 0 ≤ top / lim v (m + 1) := Int.ediv_nonneg (by omega) (by omega)
  have hq1 : top / lim v (m + 1) ≤ 8589934591 := by
    have h8 : top / lim v (m + 1) < 8589934592 := by
      rw [Int.ediv_lt_iff_lt_mul hv1]
      have : 8589934592 * 2147483648 ≤ 8589934592 * lim v (m + 1) := Int.mul_le_mul_of_nonneg_left h31 (by decide)
      omega
    omega
  have hr0 := Int.emod_nonneg top (show lim v (m + 1) ≠ 0 by omega)
  have hr1 := Int.emod_lt_of_pos top hv1
  have hdm := Int.mul_ediv_add_emod top (lim v (m + 1))
  obtain ⟨r, hr, hR⟩ := est_l0 u v hu hv m hn hun hL hlt h31 (fun r => r.1 = V u / V v ∧ Lim r.2 ∧ r.2.length = m + 3 ∧ V r.2 = V u % V v)
    (fun q q0 q1 g1 g2 => dig_j2 u v hu hv (m + 2) hn hun (by omega) hW q q0 q1 g1 g2) 3 (top / lim v (m + 1)) (top % lim v (m + 1)) (by omega) hr0 (by omega) hq0 (by omega) (by rw [htop, Int.mul_comm]; omega)
    (est_first pos b1 a0 gv0.1 gu0.2 (by rw [← htop]; exact eu) ev (by omega) hv1)
  refine ⟨r, Ev.congr (fun k => by unfold nat_digitw.f; rfl) ?_, hR⟩
  rw [hn, hun, ix1, rd_lim, rd_lim, rd_lim, u64_id (n := lim v (m + 1)) (by omega) (by omega), u64_id (n := lim u (m + 2)) (by omega) (by omega), u64_id (n := lim u (m + 1)) (by omega) (by omega), hor, htop, Int.tdiv_eq_ediv_of_nonneg (by omega), Int.tmod_eq_emod_of_nonneg (by omega), u64_id (n := top / lim v (m + 1)) (by omega) (by omega)]
  exact Ev.pos (by omega) (Ev.pos (by omega) (Ev.pos (by omega) (Ev.pos (by omega) (Ev.pos (by omega) (Ev.neg (by omega) hr)))))
end dig
def divA (a b : List Int) : List Int × List Int × Int := if short [a, b] then (if V b = 0 then ([], [], 1) else (enc (V a / V b), enc (V a % V b), 0)) else ([], [], 2)
def dsmA (a : List Int) (d : Int) : List Int × Int × Int := if short [a] then (if d = 0 then ([], 0, 1) else (enc (V a / d), V a % d, 0)) else ([], 0, 2)
theorem div32_f (r x d : Int) (r0 : 0 ≤ r) (r1 : r < d) (x0 : 0 ≤ x) (x1 : x < 4294967296) (d1 : d < 4294967296) : bits_Div32.f r x d = some ((r * 4294967296 + x) / d, (r * 4294967296 + x) % d) := by
  have hor : Go.bits .or .u64 (IntKind.u64.wrap (r * 4294967296)) x = r * 4294967296 + x := by
    rw [u64_id (by omega) (by omega)]
    exact bits_join .u64 64 (by decide) (fun n h0 h1 => u64_id h0 h1) 32 _ _ (by omega) (by omega) (by omega) x0 x1 (by omega)
  have h0 : 0 ≤ (r * 4294967296 + x) / d := Int.ediv_nonneg (by omega) (by omega)
  have h1 : (r * 4294967296 + x) / d < 4294967296 := by
    rw [Int.ediv_lt_iff_lt_mul (by omega)]
    have : (r + 1) * 4294967296 ≤ d * 4294967296 := Int.mul_le_mul_of_nonneg_right (by omega) (by decide)
    omega
  have h2 := Int.emod_nonneg (r * 4294967296 + x) (show d ≠ 0 by omega)
  have h3 := Int.emod_lt_of_pos (r * 4294967296 + x) (show 0 < d by omega)
  unfold bits_Div32.f
  rw [if_neg (by omega), if_neg (by omega), u64_id (n := r) (by omega) (by omega), u64_id (n := x) (by omega) (by omega), u64_id (n := d) (by omega) (by omega), hor, if_neg (by omega), Int.tdiv_eq_ediv_of_nonneg (by omega), Int.tmod_eq_emod_of_nonneg (by omega), u64_id (n := (r * 4294967296 + x) / d) h0 (by omega), show (r * 4294967296 + x) / d % 4294967296 = (r * 4294967296 + x) / d by omega, show (r * 4294967296 + x) % d % 4294967296 = (r * 4294967296 + x) % d by omega]
theorem horner (a Q R x d : Int) (hR : a = d * Q + R) (_hd : 0 < d) : x + 4294967296 * a = d * ((R * 4294967296 + x) / d + 4294967296 * Q) + (R * 4294967296 + x) % d := by
  have h := Int.mul_ediv_add_emod (R * 4294967296 + x) d
  have h3 : x + 4294967296 * (d * Q + R) = (R * 4294967296 + x) + 4294967296 * d * Q := by grind
  rw [hR, h3, Int.mul_add]
  have h2 : d * (4294967296 * Q) = 4294967296 * d * Q := by grind
  omega
theorem quo_of {a d q r : Int} (h : a = d * q + r) (r0 : 0 ≤ r) (r1 : r < d) : a / d = q ∧ a % d = r := by
  have hd : 0 < d := by omega
  have e1 : a / d = q := div_of h r0 r1
  refine ⟨e1, ?_⟩
  have := Int.emod_def a d
  rw [this, e1]; omega
theorem dsm_l0 (a : List Int) (ha : Lim a) (d : Int) (d0 : 0 < d) (d1 : d < 4294967296) (hla : a.length ≤ 4096) : ∀ (i : Nat) (out : List Int) (r : Int), i ≤ a.length → out.length = a.length → Lim out → out.take i = a.take i → 0 ≤ r → r < d → V (a.drop i) = d * V (out.drop i) + r →
    Ev (fun k => nat_DivSmall.l0 k d out r ((i : Int) - 1)) (enc (V a / d), V a % d, 0) := by
  intro i
  induction i with
  | zero =>
    intro out r hi ho hlo ht r0 r1 hV
    simp only [List.drop_zero] at hV
    obtain ⟨e1, e2⟩ := quo_of hV r0 r1
    have hs : len (V out) ≤ 4096 := by
      have := trim_len out
      rw [len_trim hlo] at this
      omega
    refine Ev.step (fun k => by simp only [nat_DivSmall.l0]; rfl) (Ev.neg (by omega) (Ev.bind (told_f out hlo (by omega)) (Ev.const ?_)))
    rw [ans, if_pos hs, e1, e2]
  | succ i ih =>
    intro out r hi ho hlo ht r0 r1 hV
    have hia : i < a.length := by omega
    have hio : i < out.length := by omega
    have hx : lim out i = lim a i := by
      rw [lim_in out i hio, lim_in a i hia]
      have h1 := List.getElem_of_eq ht (i := i) (by simp; omega)
      simpa using h1
    have gx := lim_bd ha i
    have hq0 : 0 ≤ (r * 4294967296 + lim a i) / d := Int.ediv_nonneg (by omega) (by omega)
    have hq1 : (r * 4294967296 + lim a i) / d < 4294967296 := by
      rw [Int.ediv_lt_iff_lt_mul d0]
      have : (r + 1) * 4294967296 ≤ d * 4294967296 := Int.mul_le_mul_of_nonneg_right (by omega) (by decide)
      omega
    have e : (((i + 1 : Nat) : Int) - 1) = (i : Int) := by omega
    refine Ev.step (fun k => by simp only [nat_DivSmall.l0]; rfl) ?_
    rw [e, rd_lim, hx, wrap_id (x := (i : Int) - 1) (by omega) (by omega), Int.toNat_natCast]
    refine Ev.pos (by omega) (Ev.pos (by omega) (Ev.pos (by omega) (Ev.pre (div32_f r (lim a i) d r0 r1 gx.1 gx.2 d1) ?_)))
    refine ih (out.set i ((r * 4294967296 + lim a i) / d)) ((r * 4294967296 + lim a i) % d) (by omega) (by simp [ho]) (hlo.set _ _ hq0 hq1) ?_ (Int.emod_nonneg _ (by omega)) (Int.emod_lt_of_pos _ d0) ?_
    · rw [List.take_set_of_le (by omega)]
      have := congrArg (List.take i) ht
      rwa [List.take_take, List.take_take, Nat.min_eq_left (by omega)] at this
    · rw [V_lim a i, V_lim (out.set i _) i, List.drop_set_of_lt (by omega), lim_in (out.set i ((r * 4294967296 + lim a i) / d)) i (by simp; omega), List.getElem_set_self]
      exact horner _ _ _ _ _ hV d0
theorem dsm_f (a : List Int) (d : Int) (ha : okL a) (d0 : 0 ≤ d) (d1 : d < 4294967296) : Ev (fun k => nat_DivSmall.f k a d) (dsmA a d) := by
  refine Ev.congr (fun k => by unfold nat_DivSmall.f; rfl) (Ev.bind (fits_f [a] (fun x hx => by simp at hx; exact hx ▸ ha) (by simp)) ?_)
  by_cases h : short [a]
  · refine Ev.pos (by simpa using h) ?_
    by_cases hd : d = 0
    · exact Ev.pos hd (Ev.const (by rw [dsmA, if_pos h, if_pos hd]))
    · refine Ev.neg hd (Ev.bind (trim_f a (by have := ha.2; omega)) (Ev.pre (clone_f _ (by have := okL_trim' ha; omega)) ?_))
      have hl : (trimL a).length ≤ 4096 := by rw [len_trim ha.1]; exact h a (by simp)
      rw [wrap_id (x := ((trimL a).length : Int) - 1) (by omega) (by omega)]
      have := dsm_l0 (trimL a) ha.1.trim d (by omega) d1 hl (trimL a).length (trimL a) 0 (Nat.le_refl _) rfl ha.1.trim rfl (by omega) (by omega) (by simp [V])
      rw [V_trim] at this
      exact Ev.res this (by rw [dsmA, if_pos h, if_neg hd])
  · exact Ev.neg (by simpa using h) (Ev.const (by rw [dsmA, if_neg h]))
theorem lz_f (x : Int) (h0 : 0 < x) (h1 : x < 4294967296) : ∃ s : Nat, s < 32 ∧ bits_LeadingZeros32.f x = some (s : Int) ∧ 2147483648 ≤ x * 2 ^ s ∧ x * 2 ^ s < 4294967296 := by
  obtain ⟨k, hk, h2⟩ := bl_ge h0
  have h3 := lt_bl (n := x) (by omega)
  have h4 := bl32 (x := x) (by omega) h1
  refine ⟨32 - bl x, by omega, ?_, ?_, ?_⟩
  · unfold bits_LeadingZeros32.f
    rw [len32_f x (by omega) h1]
    simp only [Option.bind_some]
    rw [wrap_id (by omega) (by omega)]
    congr 1; omega
  · have h5 : (2 : Int) ^ k * 2 ^ (32 - bl x) ≤ x * 2 ^ (32 - bl x) := Int.mul_le_mul_of_nonneg_right h2 (Int.le_of_lt (Int.pow_pos (by decide)))
    rw [← Int.pow_add, show k + (32 - bl x) = 31 by omega] at h5
    exact h5
  · have h5 : x * 2 ^ (32 - bl x) < 2 ^ bl x * 2 ^ (32 - bl x) := Int.mul_lt_mul_of_pos_right h3 (Int.pow_pos (by decide))
    rw [← Int.pow_add, show bl x + (32 - bl x) = 32 by omega] at h5
    exact h5
theorem wind_V (u : List Int) (i L : Nat) (h : i + L ≤ u.length) : V (u.drop i) = V ((u.take (i + L)).drop i) + 4294967296 ^ L * V (u.drop (i + L)) := by
  have e : u.drop i = (u.take (i + L)).drop i ++ u.drop (i + L) := by
    conv => lhs; rw [← List.take_append_drop (i + L) u]
    rw [List.drop_append_of_le_length (by simp; omega)]
  have hl : ((u.take (i + L)).drop i).length = L := by simp; omega
  conv => lhs; rw [e]
  rw [V_app, hl]
theorem digit_ev (u v : List Int) (lo hi : Int) (w r : List Int) (qd : Int) (h : 0 ≤ lo ∧ lo < hi ∧ hi ≤ u.length) (hw : (u.take hi.toNat).drop lo.toNat = w) (hr : Ev (fun k => nat_digitw.f k w v) (qd, r)) (hl : r.length = w.length) :
    Ev (fun k => nat_digit.f k u lo hi v) (qd, u.take lo.toNat ++ r ++ u.drop hi.toNat) := by
  obtain ⟨K, hK⟩ := hr
  refine ⟨K, fun k hk => ?_⟩
  have h2 : nat_digitw.f k w v = some (qd, r) := hK k hk
  show nat_digit.f k u lo hi v = _
  unfold nat_digit.f
  rw [if_pos h, hw, h2]
  simp only [Option.bind_some]
  rw [if_pos hl]
theorem div_alg (T P r W q qd : Int) : T + P * r + W * (q + P * (qd - 0)) = T + P * (W * qd + r) + W * q := by grind
theorem len_calc (i m K : Nat) (h : i + (m + 3) ≤ K + m + 2) : i + (m + 3) + (K + m + 2 - (i + (m + 3))) = K + m + 2 := by omega
theorem div_nums (i m K ul ql : Nat) (hd : i + 1 ≤ K) (hul : ul = K + m + 2) (hql : ql = K) (hL : m ≤ 5000) (hK : K ≤ 5000) :
    (0 ≤ (i : Int) ∧ (i : Int) < ((i + (m + 3) : Nat) : Int) ∧ ((i + (m + 3) : Nat) : Int) ≤ (ul : Int)) ∧ ((((i + 1 : Nat) : Int) - 1) = (i : Int)) ∧ (wrap64 (wrap64 ((i : Int) + ((m + 2 : Nat) : Int)) + 1) = ((i + (m + 3) : Nat) : Int)) ∧ (wrap64 ((i : Int) - 1) = (i : Int) - 1) ∧ ((i : Int) ≥ 0) ∧ ((i : Int) < (ql : Int)) ∧ i < ql ∧ i ≤ ul ∧ i ≤ K ∧ (i + 1 + (m + 2) = i + (m + 3)) ∧ m ≤ 90000 ∧ (min (i + (m + 3)) ul - i = m + 3) ∧ i + (m + 3) ≤ ul ∧ i + 1 + (m + 2) ≤ ul := by
  refine ⟨⟨by omega, by omega, by omega⟩, by omega, ?_, wrap_id (by omega) (by omega), by omega, by omega, by omega, by omega, by omega, by omega, by omega, by omega, by omega, by omega⟩
  rw [wrap_id (x := (i : Int) + ((m + 2 : Nat) : Int)) (by omega) (by omega), wrap_id (by omega) (by omega)]
  omega
theorem div_l0 (v : List Int) (hv : Lim v) (m : Nat) (hn : v.length = m + 2) (hL : m ≤ 5000) (h31 : 2147483648 ≤ lim v (m + 1)) (s : Nat) (hs : s < 32) (U0 : Int) (K : Nat) (hK : K ≤ 5000) :
    ∀ (d : Nat) (u q : List Int), d ≤ K → u.length = K + m + 2 → Lim u → q.length = K → Lim q → V (u.drop d) < V v → (∀ j, j < d → lim q j = 0) → V u + V v * V q = U0 → len (V v) ≤ 4096 →
      Ev (fun k => nat_Div.l0 k (s : Int) u v q ((d : Int) - 1)) (enc (U0 / V v), enc (U0 % V v / 2 ^ s), 0) := by
  intro d
  induction d with
  | zero =>
    intro u q hd hul hu hql hq hlt hz hV hs4
    simp only [List.drop_zero] at hlt
    have hu0 := V_nonneg hu
    obtain ⟨e1, e2⟩ := quo_of (a := U0) (d := V v) (q := V q) (r := V u) (by omega) hu0 hlt
    have hsh : short [u] := by
      intro x hx
      simp at hx
      subst hx
      exact Nat.le_trans (len_mono hu0 (by omega)) hs4
    have hshr := shr_f u (s : Int) ⟨hu, by omega⟩ (by omega)
    unfold shrA at hshr
    rw [if_pos hsh, if_neg (by omega), Int.toNat_natCast] at hshr
    refine Ev.step (fun k => by simp only [nat_Div.l0]; rfl) (Ev.neg (by omega) (Ev.bind hshr (Ev.bind (trim_f q (by omega)) (Ev.pre (clone_f (trimL q) (by have := trim_len q; omega)) (Ev.const ?_)))))
    rw [trim_enc hq, e1, e2]
  | succ i ih =>
    intro u q hd hul hu hql hq hlt hz hV hs4
    obtain ⟨hin, e, ei', ew1i, hge, hlq, hiq, hiu, hiK, hm3, hm9, hwm, him1, him2⟩ := div_nums i m K u.length q.length hd hul hql hL hK
    have ei : wrap64 (wrap64 ((i : Int) + (v.length : Int)) + 1) = ((i + (m + 3) : Nat) : Int) := by rw [hn]; exact ei'
    have hwl : ((u.take (i + (m + 3))).drop i).length = m + 3 := by rw [List.length_drop, List.length_take, hwm]
    have htl : (u.take i).length = i := by rw [List.length_take, Nat.min_eq_left hiu]
    have hdl : (u.drop (i + (m + 3))).length = u.length - (i + (m + 3)) := by simp
    have ew := wind_V u i (m + 3) him1
    have ew1 := wind_V u (i + 1) (m + 2) him2
    have hz1 := hz i (Nat.lt_succ_self i)
    rw [hm3] at ew1
    have e0 := V_lim u i
    have gx := lim_bd hu i
    have hu1 := V_nonneg (hu.drop (i + 1))
    have hz0 : V (u.drop (i + (m + 3))) = 0 := by
      have hvn := V_lt hv
      rw [hn] at hvn
      have h0 := V_nonneg (hu.drop (i + (m + 3)))
      have h1 := V_nonneg ((hu.take (i + (m + 3))).drop (i + 1))
      rcases Int.lt_or_le 0 (V (u.drop (i + (m + 3)))) with g | g
      · exfalso
        have h2 : (4294967296 : Int) ^ (m + 2) * 1 ≤ 4294967296 ^ (m + 2) * V (u.drop (i + (m + 3))) := Int.mul_le_mul_of_nonneg_left (by omega) (Int.le_of_lt (Int.pow_pos (by decide)))
        clear ew e0 gx hu1 hin ei e ew1i hge hlq hV
        omega
      · exact Int.le_antisymm g h0
    rw [hz0, Int.mul_zero, Int.add_zero] at ew
    obtain ⟨w, hw⟩ : ∃ w, (u.take (i + (m + 3))).drop i = w := ⟨_, rfl⟩
    rw [hw] at ew hwl
    have hwLim : Lim w := by rw [← hw]; exact (hu.take _).drop _
    have hW : 0 < V v := Int.lt_of_le_of_lt hu1 hlt
    have hwlt : V w < 4294967296 * V v := by rw [← ew, e0]; clear ew1 hV ew; omega
    obtain ⟨⟨qd, r⟩, hr, e1, hrl, hrn, e2⟩ := digitw_f w v hwLim hv m hn hwl hm9 hwlt h31
    simp only at e1 hrl hrn e2
    have hq0 : 0 ≤ qd := by rw [e1]; exact Int.ediv_nonneg (V_nonneg hwLim) (Int.le_of_lt hW)
    have hq1 : qd < 4294967296 := by rw [e1, Int.ediv_lt_iff_lt_mul hW]; exact hwlt
    have hmod : V r < V v := by rw [e2]; exact Int.emod_lt_of_pos _ hW
    have hsplit : V w = V v * qd + V r := by rw [e1, e2]; exact (Int.mul_ediv_add_emod _ _).symm
    have hdig := digit_ev u v (i : Int) ((i + (m + 3) : Nat) : Int) w r qd hin (by rw [Int.toNat_natCast, Int.toNat_natCast]; exact hw) hr (hrn.trans hwl.symm)
    rw [Int.toNat_natCast, Int.toNat_natCast] at hdig
    have g1 : V (u.take i ++ r ++ u.drop (i + (m + 3))) = V (u.take i) + 4294967296 ^ i * V r := by rw [V_app, V_app, hz0, htl, Int.mul_zero, Int.add_zero]
    have g2 : V u = V (u.take i) + 4294967296 ^ i * (V v * qd + V r) := by rw [V_split u i hiu, ew, hsplit]
    have hlen : (u.take i ++ r ++ u.drop (i + (m + 3))).length = K + m + 2 := by
      rw [List.length_append, List.length_append, htl, hdl, hrn, hul]
      exact len_calc i m K (by rw [← hul]; exact him1)
    have hdrop : V ((u.take i ++ r ++ u.drop (i + (m + 3))).drop i) < V v := by
      rw [List.append_assoc, List.drop_append_of_le_length (by rw [htl]; exact Nat.le_refl _), List.drop_of_length_le (by rw [htl]; exact Nat.le_refl _), List.nil_append, V_app, hz0, Int.mul_zero, Int.add_zero]
      exact hmod
    refine Ev.step (fun k => by simp only [nat_Div.l0]; rfl) ?_
    rw [e, ei, ew1i, Int.toNat_natCast]
    refine Ev.pos hge (Ev.bind hdig (Ev.pos hge (Ev.pos hlq ?_)))
    refine ih (u.take i ++ r ++ u.drop (i + (m + 3))) (q.set i qd) hiK hlen (((hu.take _).app hrl).app (hu.drop _)) (by rw [List.length_set]; exact hql) (hq.set _ _ hq0 hq1) hdrop ?_ ?_ hs4
    · intro j hj
      unfold lim
      rw [List.getD_eq_getElem?_getD, List.getElem?_set_ne (Nat.ne_of_gt hj)]
      have := hz j (Nat.lt_succ_of_lt hj)
      unfold lim at this
      rwa [List.getD_eq_getElem?_getD] at this
    · rw [V_set_lim q i qd hiq, hz1, ← hV, g1, g2]
      exact div_alg ..
theorem div_f (a b : List Int) (ha : okL a) (hb : okL b) : Ev (fun k => nat_Div.f k a b) (divA a b) := by
  refine Ev.congr (fun k => by unfold nat_Div.f; rfl) (Ev.bind (fits_f [a, b] (fun x hx => by simp at hx; rcases hx with rfl | rfl <;> assumption) (by simp)) ?_)
  by_cases h : short [a, b]
  · have h1 : (trimL a).length ≤ 4096 := by rw [len_trim ha.1]; exact h a (by simp)
    have h2 : (trimL b).length ≤ 4096 := by rw [len_trim hb.1]; exact h b (by simp)
    have va := V_nonneg ha.1
    have vb := V_nonneg hb.1
    refine Ev.pos (by simpa using h) (Ev.bind (trim_f a (by have := ha.2; omega)) (Ev.bind (trim_f b (by have := hb.2; omega)) ?_))
    by_cases hb0 : (trimL b).length = 0
    · have : V b = 0 := by rw [← V_trim, List.eq_nil_of_length_eq_zero hb0]; rfl
      exact Ev.pos (by omega) (Ev.const (by rw [divA, if_pos h, if_pos this]))
    · have htop := trim_top b (by omega)
      have gtop := hb.1.trim.get ((trimL b).length - 1) (by omega)
      have hVb : 0 < V b := by
        have e := V_split (trimL b) ((trimL b).length - 1) (by omega)
        have e2 := V_drop (trimL b) ((trimL b).length - 1) (by omega)
        rw [List.drop_eq_nil_of_le («as» := trimL b) (i := (trimL b).length - 1 + 1) (by omega)] at e2
        simp only [V, Int.mul_zero, Int.add_zero] at e2
        rw [e2, V_trim] at e
        have := V_nonneg (hb.1.trim.take ((trimL b).length - 1))
        have : 0 < (4294967296 : Int) ^ ((trimL b).length - 1) * (trimL b)[(trimL b).length - 1] := Int.mul_pos (Int.pow_pos (by decide)) (by omega)
        omega
      have target : divA a b = (enc (V a / V b), enc (V a % V b), 0) := by rw [divA, if_pos h, if_neg (by omega)]
      rw [target]
      refine Ev.neg (by omega) (Ev.bind (cmp_f (trimL a) (trimL b) ⟨ha.1.trim, by omega⟩ ⟨hb.1.trim, by omega⟩) ?_)
      rw [V_trim, V_trim]
      by_cases hlt : V a < V b
      · refine Ev.pos (by rw [cmpI, if_pos hlt]; decide) (Ev.pre (clone_f _ (by omega)) (Ev.const ?_))
        rw [trim_enc ha.1, Int.ediv_eq_zero_of_lt va hlt, Int.emod_eq_of_lt va hlt, enc_zero]
      · have hc : ¬ cmpI (V a) (V b) < 0 := by unfold cmpI; rw [if_neg hlt]; split <;> decide
        refine Ev.neg hc ?_
        by_cases hone : (trimL b).length = 1
        · obtain ⟨y, hy⟩ := List.length_eq_one_iff.1 hone
          have e0 : trimL b = [(trimL b)[0]] := by simp only [hy, List.getElem_cons_zero]
          have g0 := hb.1.trim.get 0 (by omega)
          have eV : V b = (trimL b)[0] := by
            conv => lhs; rw [← V_trim, e0]
            simp [V]
          have sa : short [trimL a] := fun x hx => by simp at hx; subst hx; rw [V_trim]; exact h a (by simp)
          have hd := dsm_f (trimL a) (trimL b)[0] ⟨ha.1.trim, by omega⟩ g0.1 g0.2
          unfold dsmA at hd
          rw [if_pos sa, if_neg (by omega), V_trim, ← eV] at hd
          have hm0 := Int.emod_nonneg (V a) (show V b ≠ 0 by omega)
          have hm1 := Int.emod_lt_of_pos (V a) hVb
          have hr : rd (trimL b) 0 = (trimL b)[0] := rd_get (trimL b) 0 (by omega)
          refine Ev.pos (by omega) (Ev.pos (by omega) ?_)
          rw [hr, ← eV]
          refine Ev.bind hd (Ev.bind (trim_f [V a % V b] (by simp)) (Ev.pre (clone_f _ (by have := trim_len [V a % V b]; simp at this; omega)) (Ev.const ?_)))
          have hL1 : Lim [V a % V b] := Lim.cons hm0 (by omega) Lim.nil
          rw [trim_enc hL1]
          simp [V]
        · obtain ⟨m, hm⟩ : ∃ m, (trimL b).length = m + 2 := ⟨(trimL b).length - 2, by omega⟩
          have hge : (trimL b).length ≤ (trimL a).length := by
            rw [len_trim ha.1, len_trim hb.1]
            exact len_mono vb (by omega)
          obtain ⟨x, hx⟩ : ∃ x, (trimL b)[(trimL b).length - 1] = x := ⟨_, rfl⟩
          rw [hx] at htop gtop
          obtain ⟨s, hs, hlz, hx1, hx2⟩ := lz_f x (by omega) gtop.2
          have hD : (0 : Int) < 2 ^ s := Int.pow_pos (by decide)
          have hD2 : (2 : Int) ^ s < 4294967296 := by
            have h := Nat.pow_le_pow_right (n := 2) (by decide) (show s ≤ 31 by omega)
            have h2 : ((2 ^ s : Nat) : Int) ≤ ((2 ^ 31 : Nat) : Int) := Int.ofNat_le.2 h
            rw [Int.natCast_pow] at h2
            exact Int.lt_of_le_of_lt h2 (by decide)
          have hTa : V (trimL a) * 2 ^ s < 4294967296 ^ ((trimL a).length + 1) := by
            have h3 := V_lt ha.1.trim
            rw [Int.pow_succ]
            exact Int.lt_of_lt_of_le (Int.mul_lt_mul_of_pos_right h3 hD) (Int.mul_le_mul_of_nonneg_left (by omega) (Int.le_of_lt (Int.pow_pos (by decide))))
          have hbs : V (trimL b) = V ((trimL b).take (m + 1)) + 4294967296 ^ (m + 1) * x := by
            have e := V_split (trimL b) (m + 1) (by omega)
            have e2 := V_drop (trimL b) (m + 1) (by omega)
            rw [List.drop_eq_nil_of_le («as» := trimL b) (i := m + 1 + 1) (by omega)] at e2
            simp only [V, Int.mul_zero, Int.add_zero] at e2
            rw [e2] at e
            have : (trimL b)[m + 1]'(by omega) = x := by rw [← hx]; congr 1; omega
            rw [this] at e
            exact e
          have hbl := V_lt (hb.1.trim.take (m + 1))
          rw [List.length_take, Nat.min_eq_left (by omega)] at hbl
          have hTb : V (trimL b) * 2 ^ s < 4294967296 ^ ((trimL b).length + 0) := by
            rw [Nat.add_zero, hm, Int.pow_succ, hbs]
            have h4 : (V ((trimL b).take (m + 1)) + 4294967296 ^ (m + 1) * x) * 2 ^ s < (4294967296 ^ (m + 1) + 4294967296 ^ (m + 1) * x) * 2 ^ s := Int.mul_lt_mul_of_pos_right (by omega) hD
            have h5 : (4294967296 ^ (m + 1) + 4294967296 ^ (m + 1) * x) * 2 ^ s = 4294967296 ^ (m + 1) * (x * 2 ^ s + 2 ^ s) := by grind
            have h6 : x * 2 ^ s + 2 ^ s ≤ 4294967296 := by
              have e32 : (4294967296 : Int) = 2 ^ (32 - s) * 2 ^ s := by rw [← Int.pow_add, show 32 - s + s = 32 by omega]; decide
              have : x < 2 ^ (32 - s) := by
                rcases Int.lt_or_le x (2 ^ (32 - s)) with g | g
                · exact g
                · have := Int.mul_le_mul_of_nonneg_right g (Int.le_of_lt hD)
                  omega
              have h7 : (x + 1) * 2 ^ s ≤ 2 ^ (32 - s) * 2 ^ s := Int.mul_le_mul_of_nonneg_right (by omega) (Int.le_of_lt hD)
              rw [Int.add_mul, Int.one_mul] at h7
              omega
            have h8 : (4294967296 : Int) ^ (m + 1) * (x * 2 ^ s + 2 ^ s) ≤ 4294967296 ^ (m + 1) * 4294967296 := Int.mul_le_mul_of_nonneg_left h6 (Int.le_of_lt (Int.pow_pos (by decide)))
            omega
          obtain ⟨u, hu, hul, hun, huV⟩ := left_gf (trimL a) ha.1.trim h1 s hs 1 (by omega) hTa
          obtain ⟨v, hv, hvl, hvn, hvV⟩ := left_gf (trimL b) hb.1.trim h2 s hs 0 (by omega) hTb
          rw [V_trim] at huV hvV
          rw [Nat.add_zero, hm] at hvn
          obtain ⟨K, hK⟩ : ∃ K, (trimL a).length = K + m + 1 := ⟨(trimL a).length - m - 1, by omega⟩
          have h31 : 2147483648 ≤ lim v (m + 1) := by
            have e1 := V_split v (m + 1) (by omega)
            have e2 := V_lim v (m + 1)
            rw [List.drop_eq_nil_of_le («as» := v) (i := m + 1 + 1) (by omega)] at e2
            simp only [V, Int.mul_zero, Int.add_zero] at e2
            rw [e2, hvV, ← V_trim, hbs] at e1
            have g1 := V_lt (hvl.take (m + 1))
            rw [List.length_take, Nat.min_eq_left (by omega)] at g1
            have g0 := V_nonneg (hb.1.trim.take (m + 1))
            have pp : (0 : Int) < 4294967296 ^ (m + 1) := Int.pow_pos (by decide)
            rcases Int.lt_or_le (lim v (m + 1)) 2147483648 with g | g
            · exfalso
              have h5 : (V ((trimL b).take (m + 1)) + 4294967296 ^ (m + 1) * x) * 2 ^ s = V ((trimL b).take (m + 1)) * 2 ^ s + 4294967296 ^ (m + 1) * (x * 2 ^ s) := by grind
              have h6 : 0 ≤ V ((trimL b).take (m + 1)) * 2 ^ s := Int.mul_nonneg g0 (Int.le_of_lt hD)
              have h7 : (4294967296 : Int) ^ (m + 1) * 2147483648 ≤ 4294967296 ^ (m + 1) * (x * 2 ^ s) := Int.mul_le_mul_of_nonneg_left hx1 (Int.le_of_lt pp)
              have h8 : (4294967296 : Int) ^ (m + 1) * (lim v (m + 1) + 1) ≤ 4294967296 ^ (m + 1) * 2147483648 := Int.mul_le_mul_of_nonneg_left (by omega) (Int.le_of_lt pp)
              rw [Int.mul_add, Int.mul_one] at h8
              omega
            · exact g
          have eb : (trimL b).length - 1 = m + 1 := by omega
          have ibx : rd (trimL b) (wrap64 (((trimL b).length : Int) - 1)) = x := by
            rw [wrap_id (by omega) (by omega), show ((trimL b).length : Int) - 1 = (((trimL b).length - 1 : Nat) : Int) by omega, rd_get _ _ (by omega), hx]
          have eK : wrap64 (wrap64 (((trimL a).length : Int) - ((trimL b).length : Int)) + 1) = (K : Int) := by
            rw [wrap_id (x := ((trimL a).length : Int) - ((trimL b).length : Int)) (by omega) (by omega), wrap_id (by omega) (by omega)]; omega
          refine Ev.neg (by omega) (Ev.pos (by rw [wrap_id (by omega) (by omega)]; omega) (Ev.pos (by rw [wrap_id (by omega) (by omega)]; omega) ?_))
          rw [ibx]
          refine Ev.pre hlz (Ev.bind hu (Ev.bind hv ?_))
          rw [eK]
          refine Ev.pos (by omega) (Ev.pos (by omega) (Ev.pre rfl ?_))
          rw [Int.toNat_natCast, List.length_replicate, wrap_id (x := (K : Int) - 1) (by omega) (by omega)]
          have hVv : V v = V b * 2 ^ s := hvV
          have hlv : len (V v) ≤ 4096 := by
            have := trim_len v
            rw [len_trim hvl] at this
            omega
          have hdr : V (u.drop K) < V v := by
            rw [drop_div u hul K (by omega), huV, hVv]
            have pK : (0 : Int) < 4294967296 ^ K := Int.pow_pos (by decide)
            rw [Int.ediv_lt_iff_lt_mul pK]
            have h3 := V_lt ha.1.trim
            rw [V_trim, hK, show K + m + 1 = (m + 1) + K by omega, Int.pow_add] at h3
            have h4 : (4294967296 : Int) ^ (m + 1) ≤ V b := by
              have h5 : (4294967296 : Int) ^ (m + 1) * 1 ≤ 4294967296 ^ (m + 1) * x := Int.mul_le_mul_of_nonneg_left (by omega) (Int.le_of_lt (Int.pow_pos (by decide)))
              have h6 := V_nonneg (hb.1.trim.take (m + 1))
              rw [V_trim] at hbs
              omega
            have h5 : (4294967296 : Int) ^ (m + 1) * 4294967296 ^ K ≤ V b * 4294967296 ^ K := Int.mul_le_mul_of_nonneg_right h4 (Int.le_of_lt pK)
            have h6 : V a * 2 ^ s < V b * 4294967296 ^ K * 2 ^ s := Int.mul_lt_mul_of_pos_right (by omega) hD
            have h7 : V b * 4294967296 ^ K * 2 ^ s = V b * 2 ^ s * 4294967296 ^ K := by grind
            omega
          have key := div_l0 v hvl m hvn (by omega) h31 s hs (V a * 2 ^ s) K (by omega) K u (List.replicate K 0) (Nat.le_refl _) (by omega) hul (by simp) (Lim.zeros _) hdr (fun j _ => zeros_lim _ j) (by rw [V_zeros, huV]; omega) hlv
          refine Ev.res key ?_
          rw [hVv, Int.mul_ediv_mul_of_pos_left _ _ hD]
          have hmm : V a * 2 ^ s % (V b * 2 ^ s) = V a % V b * 2 ^ s := by
            have h9 := Int.mul_emod_mul_of_pos (V a) (V b) hD
            rw [Int.mul_comm (2 ^ s) (V a), Int.mul_comm (2 ^ s) (V b), Int.mul_comm (2 ^ s) (V a % V b)] at h9
            exact h9
          rw [hmm, Int.mul_ediv_cancel _ (by omega)]
  · exact Ev.neg (by simpa using h) (Ev.const (by rw [divA, if_neg h]))
theorem rdsm_l0 (a : List Int) (ha : Lim a) (d : Int) (d0 : 0 < d) (d1 : d < 4294967296) (hla : a.length ≤ 4096) : ∀ (i : Nat) (out : List Int) (r : Int), i ≤ a.length → out.length = a.length → Lim out → out.take i = a.take i → 0 ≤ r → r < d → V (a.drop i) = d * V (out.drop i) + r →
    Ev (fun k => glossatorref01_DivSmall.l0 k d out r ((i : Int) - 1)) (enc (V a / d), V a % d, 0) := by
  intro i
  induction i with
  | zero =>
    intro out r hi ho hlo ht r0 r1 hV
    simp only [List.drop_zero] at hV
    obtain ⟨e1, e2⟩ := quo_of hV r0 r1
    refine Ev.step (fun k => by simp only [glossatorref01_DivSmall.l0]; rfl) (Ev.neg (by omega) (Ev.bind (rtrim_f out (by omega)) (Ev.const ?_)))
    rw [trim_enc hlo, e1, e2, show r % 4294967296 = r by omega]
  | succ i ih =>
    intro out r hi ho hlo ht r0 r1 hV
    have hia : i < a.length := by omega
    have hio : i < out.length := by omega
    have hx : lim out i = lim a i := by
      rw [lim_in out i hio, lim_in a i hia]
      have h1 := List.getElem_of_eq ht (i := i) (by simp; omega)
      simpa using h1
    have gx := lim_bd ha i
    have hq0 : 0 ≤ (r * 4294967296 + lim a i) / d := Int.ediv_nonneg (by omega) (by omega)
    have hq1 : (r * 4294967296 + lim a i) / d < 4294967296 := by
      rw [Int.ediv_lt_iff_lt_mul d0]
      have : (r + 1) * 4294967296 ≤ d * 4294967296 := Int.mul_le_mul_of_nonneg_right (by omega) (by decide)
      omega
    have hor : Go.bits .or .u64 (IntKind.u64.wrap (r * 4294967296)) (lim a i) = r * 4294967296 + lim a i := by
      rw [u64_id (by omega) (by omega)]
      exact bits_join .u64 64 (by decide) (fun n h0 h1 => u64_id h0 h1) 32 _ _ (by omega) (by omega) (by omega) gx.1 gx.2 (by omega)
    have e : (((i + 1 : Nat) : Int) - 1) = (i : Int) := by omega
    refine Ev.step (fun k => by simp only [glossatorref01_DivSmall.l0]; rfl) ?_
    rw [e, rd_lim, hx, wrap_id (x := (i : Int) - 1) (by omega) (by omega), Int.toNat_natCast, u64_id (n := lim a i) (by omega) (by omega), u64_id (n := d) (by omega) (by omega), hor, Int.tdiv_eq_ediv_of_nonneg (by omega), Int.tmod_eq_emod_of_nonneg (by omega), u64_id (n := (r * 4294967296 + lim a i) / d) hq0 (by omega), show (r * 4294967296 + lim a i) / d % 4294967296 = (r * 4294967296 + lim a i) / d by omega]
    refine Ev.pos (by omega) (Ev.pos (by omega) (Ev.pos (by omega) (Ev.neg (by omega) ?_)))
    refine ih (out.set i ((r * 4294967296 + lim a i) / d)) ((r * 4294967296 + lim a i) % d) (by omega) (by simp [ho]) (hlo.set _ _ hq0 hq1) ?_ (Int.emod_nonneg _ (by omega)) (Int.emod_lt_of_pos _ d0) ?_
    · rw [List.take_set_of_le (by omega)]
      have := congrArg (List.take i) ht
      rwa [List.take_take, List.take_take, Nat.min_eq_left (by omega)] at this
    · rw [V_lim a i, V_lim (out.set i _) i, List.drop_set_of_lt (by omega), lim_in (out.set i ((r * 4294967296 + lim a i) / d)) i (by simp; omega), List.getElem_set_self]
      exact horner _ _ _ _ _ hV d0
theorem rdsm_f (a : List Int) (d : Int) (ha : okL a) (d0 : 0 ≤ d) (d1 : d < 4294967296) : Ev (fun k => glossatorref01_DivSmall.f k a d) (dsmA a d) := by
  refine Ev.congr (fun k => by unfold glossatorref01_DivSmall.f; rfl) (Ev.bind (long_f [a] (fun x hx => by simp at hx; exact hx ▸ ha) (by simp)) ?_)
  by_cases h : short [a]
  · refine Ev.neg (by simpa using h) ?_
    by_cases hd : d = 0
    · exact Ev.pos hd (Ev.const (by rw [dsmA, if_pos h, if_pos hd]))
    · refine Ev.neg hd (Ev.bind (rtrim_f a (by have := ha.2; omega)) ?_)
      have hl : (trimL a).length ≤ 4096 := by rw [len_trim ha.1]; exact h a (by simp)
      rw [wrap_id (x := ((trimL a).length : Int) - 1) (by omega) (by omega)]
      have := rdsm_l0 (trimL a) ha.1.trim d (by omega) d1 hl (trimL a).length (trimL a) 0 (Nat.le_refl _) rfl ha.1.trim rfl (by omega) (by omega) (by simp [V])
      rw [V_trim] at this
      exact Ev.res this (by rw [dsmA, if_pos h, if_neg hd])
  · exact Ev.pos (by simpa using h) (Ev.const (by rw [dsmA, if_neg h]))
theorem twice1_f (a : List Int) (b : Int) (ha : Lim a) (hla : a.length ≤ 35184372087808) (b0 : 0 ≤ b) (b1 : b ≤ 1) : Ev (fun k => glossatorref01_twice.f k a b) (enc (2 * V a + b)) := by
  have := twice_l0 a ha (2 * V a + b) hla a.length 0 [] b (by omega) rfl Lim.nil b0 b1 (by simp [V]; omega)
  exact this
theorem rless_f (a b : List Int) (ha : okL a) (hb : Lim b) (hlt : V b ≤ V a) : Ev (fun k => glossatorref01_less.f k a b) (enc (V a - V b)) :=
  Ev.congr (fun k => by unfold glossatorref01_less.f; rfl) (less_l0 a b ha hb hlt a.length 0 [] 0 (by omega) rfl Lim.nil (by omega) (by omega) (by simp [V]))
theorem mod_two (x : Int) : Go.bits .and .u32 (x % 4294967296) 1 = x % 4294967296 % 2 :=
  bits_mask .u32 32 (by decide) (fun n h0 h1 => by rw [IntKind.wrap_u32]; omega) 1 (by decide) _ (by omega) (by omega)
theorem bit_f (a : List Int) (ha : Lim a) (hla : a.length ≤ 35184372087808) (i : Nat) (hi : i / 32 < a.length) : glossatorref01_bit.f a (i : Int) = some (V a / 2 ^ i % 2) := by
  have gx := lim_bd ha (i / 32)
  have hD : (0 : Int) < 2 ^ (i % 32) := Int.pow_pos (by decide)
  have e1 : wrap64 (Int.tdiv (i : Int) 32) = ((i / 32 : Nat) : Int) := by rw [tdiv32 _ (by omega), wrap_id (by omega) (by omega)]; simp
  have e2 : Int.tmod (i : Int) 32 = ((i % 32 : Nat) : Int) := by rw [tmod32 _ (by omega)]; simp
  have hs : shr .u32 (lim a (i / 32)) ((i % 32 : Nat) : Int) = lim a (i / 32) / 2 ^ (i % 32) := by
    have h9 := shr_small (k := .u32) (x := lim a (i / 32)) (y := ((i % 32 : Nat) : Int)) rfl (show ((i % 32 : Nat) : Int) ≤ ((32 : Nat) : Int) by omega)
    rw [← h9, Int.toNat_natCast]
  have hq : lim a (i / 32) / 2 ^ (i % 32) ≤ lim a (i / 32) := Int.ediv_le_self _ gx.1
  have hq0 : 0 ≤ lim a (i / 32) / 2 ^ (i % 32) := Int.ediv_nonneg gx.1 (Int.le_of_lt hD)
  unfold glossatorref01_bit.f
  rw [e1, e2, if_pos (by omega), if_pos (by omega), if_pos (by omega), rd_lim, hs]
  have hm := mod_two (lim a (i / 32) / 2 ^ (i % 32))
  rw [show lim a (i / 32) / 2 ^ (i % 32) % 4294967296 = lim a (i / 32) / 2 ^ (i % 32) by omega] at hm
  rw [hm]
  congr 1
  rw [← div_split (V a) i, ← drop_div a ha (i / 32) (by omega), V_lim a (i / 32)]
  obtain ⟨t, ht⟩ : ∃ t, V (a.drop (i / 32 + 1)) = t := ⟨_, rfl⟩
  rw [ht]
  have e32 : (4294967296 : Int) * t = (2 ^ (31 - i % 32) * t * 2) * 2 ^ (i % 32) := by
    have : (4294967296 : Int) = 2 ^ (31 - i % 32) * 2 * 2 ^ (i % 32) := by
      rw [← Int.pow_succ, ← Int.pow_add, show 31 - i % 32 + 1 + i % 32 = 32 by omega]; decide
    rw [this]; grind
  rw [e32, Int.add_mul_ediv_right _ _ (by omega), Int.add_mul_emod_self_right]
theorem rdiv_step (N Q R W b : Int) (h : N = Q * W + R) : 2 * N + b = (2 * Q) * W + (2 * R + b) := by rw [h]; grind
theorem rdiv_step1 (N Q R W b : Int) (h : N = Q * W + R) : 2 * N + b = (2 * Q + 1) * W + (2 * R + b - W) := by rw [h]; grind
theorem rdiv_l0 (a b : List Int) (ha : okL a) (hb : okL b) (hW : 0 < V b) (la : len (V a) ≤ 4096) (lb : len (V b) ≤ 4096) : ∀ (d : Nat) (Q R : Int), d ≤ bl (V a) → 0 ≤ Q → 0 ≤ R → R < V b → V a / 2 ^ d = Q * V b + R →
    Ev (fun k => glossatorref01_Div.l0 k a b (enc Q) (enc R) ((d : Int) - 1)) (enc (V a / V b), enc (V a % V b), 0) := by
  have va := V_nonneg ha.1
  have hbl := (len_bl va).1 la
  have hal : bl (V a) ≤ 32 * a.length := (len_bl va).1 (by rw [← len_trim ha.1]; exact trim_len a)
  intro d
  induction d with
  | zero =>
    intro Q R _ q0 r0 r1 hV
    rw [Int.pow_zero, Int.ediv_one] at hV
    obtain ⟨e1, e2⟩ := quo_of (a := V a) (d := V b) (q := Q) (r := R) (by rw [Int.mul_comm]; exact hV) r0 r1
    exact Ev.step (fun k => by simp only [glossatorref01_Div.l0]; rfl) (Ev.neg (by omega) (Ev.const (by rw [e1, e2])))
  | succ i ih =>
    intro Q R hd q0 r0 r1 hV
    have e : (((i + 1 : Nat) : Int) - 1) = (i : Int) := by omega
    have hbit := bit_f a ha.1 ha.2 i (by omega)
    obtain ⟨bt, hbt⟩ : ∃ x, V a / 2 ^ i % 2 = x := ⟨_, rfl⟩
    rw [hbt] at hbit
    have hN : V a / 2 ^ i = 2 * (V a / 2 ^ (i + 1)) + bt := by
      rw [Int.pow_succ, ← Int.ediv_ediv_of_nonneg (Int.le_of_lt (Int.pow_pos (by decide)))]
      omega
    have hR2 : len (2 * R + bt) ≤ 4097 := by
      refine (len_le (by omega)).2 ?_
      have h1 := lt_len (n := R) r0
      have h2 := Nat.le_trans (len_mono r0 (Int.le_of_lt r1)) lb
      have h3 : R < 4294967296 ^ 4096 := (len_le r0).1 h2
      rw [Int.pow_succ]
      generalize (4294967296 : Int) ^ 4096 = P at h3
      omega
    have lR : len R ≤ 4096 := Nat.le_trans (len_mono r0 (Int.le_of_lt r1)) lb
    have hQa : Q ≤ V a := by
      have h1 : V a / 2 ^ (i + 1) ≤ V a := Int.ediv_le_self _ va
      have h2 : Q * 1 ≤ Q * V b := Int.mul_le_mul_of_nonneg_left (by omega) q0
      omega
    have lQ : len Q ≤ 4096 := Nat.le_trans (len_mono q0 hQa) la
    refine Ev.step (fun k => by simp only [glossatorref01_Div.l0]; rfl) ?_
    rw [e, wrap_id (x := (i : Int) - 1) (by omega) (by omega)]
    have hok : okL (enc (2 * R + bt)) := okL.enc (by omega)
    have t1 := twice1_f (enc R) bt (Lim.enc R) (by unfold len at lR; omega) (by omega) (by omega)
    rw [V_enc r0] at t1
    have hc := rcmp_f (enc (2 * R + bt)) b hok hb
    rw [V_enc (by omega)] at hc
    refine Ev.pos (by omega) (Ev.pre hbit (Ev.bind t1 (Ev.bind hc ?_)))
    by_cases hlt : 2 * R + bt < V b
    · refine Ev.neg (by unfold cmpI; rw [if_pos hlt]; decide) ?_
      have t2 := twice1_f (enc Q) 0 (Lim.enc Q) (by unfold len at lQ; omega) (by omega) (by omega)
      rw [V_enc q0, Int.add_zero] at t2
      exact Ev.bind t2 (ih (2 * Q) (2 * R + bt) (by omega) (by omega) (by omega) hlt (by rw [hN]; exact rdiv_step _ _ _ _ _ hV))
    · refine Ev.pos (by unfold cmpI; rw [if_neg hlt]; split <;> decide) ?_
      have hl := rless_f (enc (2 * R + bt)) b hok hb.1 (by rw [V_enc (by omega)]; omega)
      rw [V_enc (by omega)] at hl
      have t2 := twice1_f (enc Q) 1 (Lim.enc Q) (by unfold len at lQ; omega) (by omega) (by omega)
      rw [V_enc q0] at t2
      exact Ev.bind hl (Ev.bind t2 (ih (2 * Q + 1) (2 * R + bt - V b) (by omega) (by omega) (by omega) (by omega) (by rw [hN]; exact rdiv_step1 _ _ _ _ _ hV)))
theorem rdiv_f (a b : List Int) (ha : okL a) (hb : okL b) : Ev (fun k => glossatorref01_Div.f k a b) (divA a b) := by
  refine Ev.congr (fun k => by unfold glossatorref01_Div.f; rfl) (Ev.bind (long_f [a, b] (fun x hx => by simp at hx; rcases hx with rfl | rfl <;> assumption) (by simp)) ?_)
  have va := V_nonneg ha.1
  have vb := V_nonneg hb.1
  unfold divA
  by_cases h : short [a, b]
  · rw [if_pos h]
    refine Ev.neg (by simpa using h) (Ev.bind (rbits_f b hb) ?_)
    by_cases hz : V b = 0
    · rw [if_pos hz]
      exact Ev.pos (by rw [hz, bl_zero]; rfl) (Ev.const rfl)
    · rw [if_neg hz]
      have hbz : ¬ bl (V b) = 0 := fun q => hz ((bl_eq_zero vb).1 q)
      have la := h a (by simp)
      have hbl := (len_bl va).1 la
      refine Ev.neg (by omega) (Ev.bind (rbits_f a ha) ?_)
      rw [wrap_id (x := (bl (V a) : Int) - 1) (by omega) (by omega)]
      have key := rdiv_l0 a b ha hb (by omega) la (h b (by simp)) (bl (V a)) 0 0 (Nat.le_refl _) (by omega) (by omega) (by omega) (by rw [Int.ediv_eq_zero_of_lt va (lt_bl va)]; simp)
      rw [enc_zero] at key
      exact key
  · rw [if_neg h]
    exact Ev.pos (by simpa using h) (Ev.const rfl)
theorem small_l0 (ls : List (List Int)) (hl : ls.length ≤ 35184372088831) : ∀ (d i : Nat), i + d = ls.length → ∃ b, Ev (fun k => glossatorlaw01_small.l0 k ls (i : Int)) b := by
  intro d
  induction d with
  | zero => intro i hi; exact ⟨true, Ev.step (fun k => by simp only [glossatorlaw01_small.l0]; rfl) (Ev.neg (by omega) (Ev.const rfl))⟩
  | succ d ih =>
    intro i hi
    by_cases h : ((rd_L1 ls (i : Int)).length : Int) > 200
    · exact ⟨false, Ev.step (fun k => by simp only [glossatorlaw01_small.l0]; rfl) (Ev.pos (by omega) (Ev.pos (by omega) (Ev.pos h (Ev.const rfl))))⟩
    · obtain ⟨b, hb⟩ := ih (i + 1) (by omega)
      refine ⟨b, Ev.step (fun k => by simp only [glossatorlaw01_small.l0]; rfl) (Ev.pos (by omega) (Ev.pos (by omega) (Ev.neg h ?_)))⟩
      rw [wrap_id (by omega) (by omega)]
      exact hb
theorem divA_len (a b : List Int) (ha : okL a) (hb : okL b) : (divA a b).1.length ≤ 4096 ∧ (divA a b).2.1.length ≤ 4096 := by
  have va := V_nonneg ha.1
  have vb := V_nonneg hb.1
  unfold divA
  split
  · rename_i h
    split
    · simp
    · rename_i hz
      have la := h a (by simp)
      have lb := h b (by simp)
      have m1 := Int.emod_lt_of_pos (V a) (show 0 < V b by omega)
      exact ⟨Nat.le_trans (len_mono (Int.ediv_nonneg va vb) (Int.ediv_le_self _ va)) la, Nat.le_trans (len_mono (Int.emod_nonneg _ hz) (by omega)) lb⟩
  · simp
theorem dsmA_len (a : List Int) (d : Int) (ha : okL a) (d0 : 0 ≤ d) : (dsmA a d).1.length ≤ 4096 := by
  have va := V_nonneg ha.1
  unfold dsmA
  split
  · rename_i h
    split
    · simp
    · exact Nat.le_trans (len_mono (Int.ediv_nonneg va d0) (Int.ediv_le_self _ va)) (h a (by simp))
  · simp
theorem NatDivs : glossatorlaw01_NatDivs.Pure := by
  intro a b d _ hza hwa _ hzb hwb hd
  have ha := okL.of hwa hza
  have hb := okL.of hwb hzb
  have hd2 := wf_u32 hd
  have l1 := dsmA_len a d ha hd2.1
  have l2 := divA_len a b ha hb
  refine Ev.rounds (Ev.congr (fun k => by unfold glossatorlaw01_NatDivs.f; simp only [Option.bind_some, List.nil_append, List.length_nil, Nat.zero_add]; rfl) (Ev.pos (by omega) ?_))
  refine Ev.bind (dsm_f a d ha hd2.1 hd2.2) (Ev.bind (rdsm_f a d ha hd2.1 hd2.2) (Ev.bind (limbs_f _ _ rfl (by omega)) (Ev.pos (by rfl) (Ev.pos (by rfl) ?_))))
  rw [show ((dsmA a d).2.2 != (dsmA a d).2.2) = false by simp]
  refine Ev.step (fun k => by simp only [glossatorlaw01_NatDivs.j0, Option.bind_some, List.nil_append, List.length_nil, Nat.zero_add]; rfl) (Ev.neg (by simp) ?_)
  obtain ⟨s, hs⟩ := small_l0 [a, b] (by simp) 2 0 (by simp)
  refine Ev.bind (Ev.congr (fun k => by unfold glossatorlaw01_small.f; rfl) hs) ?_
  cases s with
  | false => exact Ev.neg (by simp) (Ev.bind awake_f (Ev.const rfl))
  | true =>
    refine Ev.pos rfl (Ev.pos (by omega) ?_)
    exact Ev.bind (div_f a b ha hb) (Ev.bind (rdiv_f a b ha hb) (Ev.bind (limbs_f _ _ rfl (by omega)) (Ev.pos (by rfl) (Ev.bind (limbs_f _ _ rfl (by omega)) (Ev.pos (by rfl) (Ev.pos (by rfl) (Ev.bind awake_f (Ev.const rfl))))))))
end Go.Proofs.Ytflccadclkddoaa.Pure
