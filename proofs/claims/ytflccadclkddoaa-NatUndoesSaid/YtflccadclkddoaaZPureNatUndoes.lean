-- Out of texts of this seat by a program of this session: what the claim does not reach is struck
import Derived.Test.YtflccadclkddoaaZPNatUndoesx9
import Derived.Test.YtflccadclkddoaaZNatPlain
import Derived.Test.YtflccadclkddoaaZNatBits
namespace Go.Proofs.Ytflccadclkddoaa.Pure
open Go.RowKit Go.Proofs.Ytflccadclkddoaa.PNatUndoes Go.Proofs.YtflccadclkddoaaW.PrintWords Go.Proofs.YtflccadclkddoaaW.PrintLast Go.Proofs.YtflccadclkddoaaW.PrintMore Go.Proofs.Ytflccadclkddoaa.NatPlain
theorem Ev.pos {α : Type} {c : Prop} [Decidable c] {f g : Nat → Option α} {r : α} (h : c) (k : Ev f r) : Ev (fun n => if c then f n else g n) r := Ev.congr (fun _ => if_pos h) k
theorem Ev.neg {α : Type} {c : Prop} [Decidable c] {f g : Nat → Option α} {r : α} (h : ¬ c) (k : Ev g r) : Ev (fun n => if c then f n else g n) r := Ev.congr (fun _ => if_neg h) k
theorem Ev.const {α : Type} {x : Option α} {r : α} (h : x = some r) : Ev (fun _ => x) r := ⟨0, fun _ _ => h⟩
theorem Ev.pre {α β : Type} {x : Option α} {a : α} {f : Nat → α → Option β} {r : β} (h : x = some a) (k : Ev (fun n => f n a) r) : Ev (fun n => x.bind (f n)) r := Ev.congr (fun _ => by rw [h]; rfl) k
theorem Ev.res {α : Type} {g : Nat → Option α} {r r' : α} (k : Ev g r') (e : r' = r) : Ev g r := e ▸ k
theorem wrap_id {x : Int} (h0 : -9223372036854775808 ≤ x) (h1 : x ≤ 9223372036854775807) : wrap64 x = x := by unfold wrap64; omega
theorem wf_u32 {n : Int} (h : (Lit.int .u32 n).wf = true) : 0 ≤ n ∧ n < 4294967296 := by
  simp [Lit.wf, IntKind.min, IntKind.max, IntKind.signed, IntKind.bits] at h; omega
theorem u64_id {n : Int} (h0 : 0 ≤ n) (h1 : n < 18446744073709551616) : IntKind.u64.wrap n = n := by
  simp [IntKind.wrap, IntKind.bits, IntKind.signed]; omega
theorem u64_mod (n : Int) : IntKind.u64.wrap n = n % 18446744073709551616 := by simp [IntKind.wrap, IntKind.bits, IntKind.signed]
theorem rd_getD (l : List Int) (i : Int) : rd l i = l.getD i.toNat 0 := rfl
theorem rd_get (l : List Int) (j : Nat) (h : j < l.length) : rd l (j : Int) = l[j] := by
  rw [rd_getD, Int.toNat_natCast, List.getD_eq_getElem?_getD, List.getElem?_eq_getElem h]; rfl
def okL (l : List Int) : Prop := Lim l ∧ l.length ≤ 35184372087808
theorem okL.of {l : List Int} (hw : ∀ x ∈ l, (Lit.int .u32 x).wf = true) (hs : l.length * 4 ≤ 140737488351232) : okL l := ⟨fun x hx => wf_u32 (hw x hx), by omega⟩
theorem okL.nil : okL [] := ⟨Lim.nil, by simp⟩
theorem okL.enc {n : Int} (h : len n ≤ 35184372087808) : okL (enc n) := ⟨Lim.enc n, h⟩
theorem trim_le {l : List Int} (h : okL l) : len (V l) ≤ 35184372087808 := by rw [← len_trim h.1]; exact Nat.le_trans (trim_len l) h.2
theorem trim_l0 (l : List Int) (hl : l.length ≤ 35184372088831) : ∀ (d k : Nat), (trimL l).length + d ≤ l.length → d < k → nat_trim.l0 k l (((trimL l).length + d : Nat) : Int) = some (trimL l) := by
  intro d
  induction d with
  | zero =>
    intro k h hk
    obtain ⟨k, rfl⟩ : ∃ m, k = m + 1 := ⟨k - 1, by omega⟩
    have e : l.take (((trimL l).length + 0 : Nat) : Int).toNat = trimL l := by rw [Int.toNat_natCast]; exact trim_take l
    simp only [nat_trim.l0]
    rw [e]
    by_cases h0 : 0 < (trimL l).length
    · have hne := trim_last l h0
      have hne2 : ¬ rd l (wrap64 ((((trimL l).length + 0 : Nat) : Int) - 1)) = 0 := by
        rw [wrap_id (by omega) (by omega), rd_getD, show ((((trimL l).length + 0 : Nat) : Int) - 1).toNat = (trimL l).length - 1 by omega]
        exact hne
      rw [if_pos (by omega), if_neg hne2, wrap_id (by omega) (by omega), if_pos (by omega), if_pos (by omega), if_pos (by omega), if_pos (by omega)]
    · rw [if_neg (by omega), if_pos (by omega), if_pos (by omega)]
  | succ d ih =>
    intro k h hk
    obtain ⟨k, rfl⟩ : ∃ m, k = m + 1 := ⟨k - 1, by omega⟩
    have h0 := trim_above l ((trimL l).length + d) (by omega)
    have e : wrap64 ((((trimL l).length + (d + 1) : Nat) : Int) - 1) = (((trimL l).length + d : Nat) : Int) := by rw [wrap_id (by omega) (by omega)]; omega
    simp only [nat_trim.l0]
    rw [e, if_pos (by omega), if_pos (by omega), if_pos (by omega), if_pos (by rw [rd_getD, Int.toNat_natCast]; exact h0)]
    exact ih k (by omega) (by omega)
theorem trim_f (l : List Int) (hl : l.length ≤ 35184372088831) : Ev (fun k => nat_trim.f k l) (trimL l) := by
  refine ⟨l.length + 1, fun k hk => ?_⟩
  have := trim_l0 l hl (l.length - (trimL l).length) k (by have := trim_len l; omega) (by omega)
  rw [show (trimL l).length + (l.length - (trimL l).length) = l.length by have := trim_len l; omega] at this
  exact this
theorem rdL_get (ls : List (List Int)) (j : Nat) (h : j < ls.length) : rd_L1 ls (j : Int) = ls[j] := by
  unfold rd_L1
  rw [Int.toNat_natCast, List.getD_eq_getElem?_getD, List.getElem?_eq_getElem h]; rfl
def short (ls : List (List Int)) : Prop := ∀ l ∈ ls, len (V l) ≤ 4096
instance (ls : List (List Int)) : Decidable (short ls) := by unfold short; infer_instance
theorem fits_l0 (ls : List (List Int)) (h : ∀ l ∈ ls, okL l) (hl : ls.length ≤ 35184372088831) : ∀ (d i : Nat), i + d = ls.length → Ev (fun k => nat_fits.l0 k ls (ls.length : Int) (i : Int)) (decide (short (ls.drop i))) := by
  intro d
  induction d with
  | zero =>
    intro i hi
    refine Ev.step (fun k => by simp only [nat_fits.l0]; rfl) (Ev.neg (by omega) ?_)
    rw [List.drop_eq_nil_of_le (by omega)]
    exact Ev.const (by simp [short])
  | succ d ih =>
    intro i hi
    have hlt : i < ls.length := by omega
    have ho := h _ (List.getElem_mem hlt)
    refine Ev.step (fun k => by simp only [nat_fits.l0]; rfl) (Ev.pos (by omega) (Ev.pos (by omega) (Ev.pos (by omega) ?_)))
    rw [rdL_get ls i hlt]
    refine Ev.bind (trim_f _ (by have := ho.2; omega)) ?_
    rw [List.drop_eq_getElem_cons hlt, len_trim ho.1]
    by_cases hs : len (V ls[i]) ≤ 4096
    · refine Ev.neg (by omega) ?_
      rw [wrap_id (by omega) (by omega)]
      have : short (ls.drop (i + 1)) ↔ short (ls[i] :: ls.drop (i + 1)) := ⟨fun hq x hx => (List.mem_cons.1 hx).elim (fun e => e ▸ hs) (hq x), fun hq x hx => hq x (List.mem_cons_of_mem _ hx)⟩
      exact Ev.res (ih (i + 1) (by omega)) (by rw [decide_eq_decide]; exact this)
    · refine Ev.pos (by omega) (Ev.const ?_)
      rw [decide_eq_false (fun hq : short (ls[i] :: ls.drop (i + 1)) => hs (hq _ List.mem_cons_self))]
theorem fits_f (ls : List (List Int)) (h : ∀ l ∈ ls, okL l) (hl : ls.length ≤ 35184372088831) : Ev (fun k => nat_fits.f k ls) (decide (short ls)) := fits_l0 ls h hl ls.length 0 (by omega)
theorem clone_f (l : List Int) (hl : l.length ≤ 35184372088831) : slices_Clone_uint32_uint32.f l = some l := by
  unfold slices_Clone_uint32_uint32.f
  rw [if_pos (by omega)]
def ans (n : Int) : List Int × Int := if len n ≤ 4096 then (enc n, 0) else ([], 2)
theorem told_f (l : List Int) (h : Lim l) (hl : l.length ≤ 35184372087808) : Ev (fun k => nat_told.f k l) (ans (V l)) := by
  refine Ev.congr (fun k => by unfold nat_told.f; rfl) (Ev.bind (fits_f [l] (fun x hx => by simp at hx; exact hx ▸ ⟨h, hl⟩) (by simp)) ?_)
  by_cases hs : len (V l) ≤ 4096
  · refine Ev.pos (by simp [short, hs]) (Ev.bind (trim_f l (by omega)) (Ev.pre (clone_f _ (by have := trim_len l; omega)) (Ev.const ?_)))
    rw [ans, if_pos hs, trim_enc h]
  · refine Ev.neg (by simp [short, hs]) (Ev.const ?_)
    rw [ans, if_neg hs]
theorem okL_trim' {a : List Int} (ha : okL a) : (trimL a).length ≤ 35184372087808 := Nat.le_trans (trim_len a) ha.2
theorem low_f (n : Int) (_ : 0 ≤ n) : nat_low_uint64.f n = some (n % 4294967296, n / 4294967296) := rfl
theorem V_snoc (l : List Int) (c : Int) : V (l ++ [c]) = V l + 4294967296 ^ l.length * c := by rw [V_app]; simp [V]
theorem V_one (c : Int) : V [c] = c := by simp [V]
def sumV : List (List Int) → Int
  | [] => 0
  | l :: r => V l + sumV r
theorem add_l2 (bs : List (List Int)) (j : Nat) (x : List Int) (hx : Lim x) (r : List Int × Int) (S : Int) (L : Nat) (hxL : x.length ≤ L) (hL : L + 1 ≤ 35184372087808)
    (cont : ∀ out : List Int, Lim out → out.length ≤ L + 1 → V out = S → Ev (fun k => nat_Add.l0 k out bs (bs.length : Int) ((j : Int) + 1)) r) (hj : (j : Int) + 1 ≤ 9223372036854775807) :
    ∀ (d i : Nat) (out : List Int) (c : Int), i + d = L → out.length = L → Lim out → 0 ≤ c → c ≤ 1 → V out + c * 4294967296 ^ i + V (x.drop i) * 4294967296 ^ i = S →
      Ev (fun k => nat_Add.l2 k out x c bs (bs.length : Int) (j : Int) (L : Int) (i : Int)) r := by
  intro d
  induction d with
  | zero =>
    intro i out c hi ho hlo c0 c1 hV
    rw [List.drop_eq_nil_of_le (by omega)] at hV
    refine Ev.step (fun k => by simp only [nat_Add.l2]; rfl) (Ev.neg (by omega) ?_)
    rw [wrap_id (x := (j : Int) + 1) (by omega) hj]
    by_cases hc : c > 0
    · refine Ev.pos hc (Ev.pos (by omega) ?_)
      have hc1 : c = 1 := by omega
      subst hc1
      refine cont _ (hlo.app (Lim.cons (by decide) (by decide) Lim.nil)) (by simp; omega) ?_
      rw [V_snoc, ho, ← hV, show L = i by omega]
      simp [V]
    · refine Ev.neg hc (cont _ hlo (by omega) ?_)
      have hc0 : c = 0 := by omega
      subst hc0
      rw [← hV]
      simp [V]
  | succ d ih =>
    intro i out c hi ho hlo c0 c1 hV
    have hlt : i < out.length := by omega
    have hg := hlo.get i hlt
    refine Ev.step (fun k => by simp only [nat_Add.l2]; rfl) (Ev.pos (by omega) (Ev.pos (by omega) (Ev.pos (by omega) ?_)))
    rw [rd_get out i hlt, wrap_id (x := (i : Int) + 1) (by omega) (by omega), Int.toNat_natCast]
    have hp : (4294967296 : Int) ^ (i + 1) = 4294967296 ^ i * 4294967296 := Int.pow_succ ..
    by_cases hxi : i < x.length
    · have hgx := hx.get i hxi
      refine Ev.pos (by omega) ?_
      rw [rd_get x i hxi, u64_id (n := out[i]) (by omega) (by omega), u64_id (n := x[i]) (by omega) (by omega), u64_id (n := c + out[i]) (by omega) (by omega), u64_id (n := c + out[i] + x[i]) (by omega) (by omega)]
      refine Ev.pre (low_f _ (by omega)) ?_
      simp only
      have := ih (i + 1) (out.set i ((c + out[i] + x[i]) % 4294967296)) ((c + out[i] + x[i]) / 4294967296) (by omega) (by simp; omega) (hlo.set _ _ (by omega) (by omega)) (by omega) (by omega) ?_
      · exact this
      · rw [V_set out i _ hlt, hp]
        rw [V_drop x i hxi] at hV
        have e : (c + out[i] + x[i]) = (c + out[i] + x[i]) % 4294967296 + 4294967296 * ((c + out[i] + x[i]) / 4294967296) := by omega
        generalize (c + out[i] + x[i]) % 4294967296 = lo at e ⊢
        generalize (c + out[i] + x[i]) / 4294967296 = hi' at e ⊢
        generalize (4294967296 : Int) ^ i = P at hV ⊢
        generalize V (x.drop (i + 1)) = R at hV ⊢
        generalize V out = W at hV ⊢
        grind
    · refine Ev.neg (by omega) ?_
      rw [u64_id (n := out[i]) (by omega) (by omega), u64_id (n := c + out[i]) (by omega) (by omega)]
      refine Ev.pre (low_f _ (by omega)) ?_
      simp only
      have := ih (i + 1) (out.set i ((c + out[i]) % 4294967296)) ((c + out[i]) / 4294967296) (by omega) (by simp; omega) (hlo.set _ _ (by omega) (by omega)) (by omega) (by omega) ?_
      · exact this
      · rw [V_set out i _ hlt, hp]
        rw [List.drop_eq_nil_of_le (by omega)] at hV ⊢
        have e : (c + out[i]) = (c + out[i]) % 4294967296 + 4294967296 * ((c + out[i]) / 4294967296) := by omega
        generalize (c + out[i]) % 4294967296 = lo at e ⊢
        generalize (c + out[i]) / 4294967296 = hi' at e ⊢
        generalize (4294967296 : Int) ^ i = P at hV ⊢
        generalize V out = W at hV ⊢
        simp only [V] at hV ⊢
        grind
theorem add_l1 (bs : List (List Int)) (j : Nat) (x : List Int) (hx : Lim x) (r : List Int × Int) (S : Int) (L : Nat) (hxL : x.length ≤ L) (hL : L + 1 ≤ 35184372087808)
    (cont : ∀ out : List Int, Lim out → out.length ≤ L + 1 → V out = S → Ev (fun k => nat_Add.l0 k out bs (bs.length : Int) ((j : Int) + 1)) r) (hj : (j : Int) + 1 ≤ 9223372036854775807) :
    ∀ (d : Nat) (out : List Int), x.length - out.length = d → out.length ≤ L → Lim out → V out + V x = S → Ev (fun k => nat_Add.l1 k out x bs (bs.length : Int) (j : Int)) r := by
  intro d
  induction d with
  | zero =>
    intro out hd hoL hlo hV
    refine Ev.step (fun k => by simp only [nat_Add.l1]; rfl) (Ev.neg (by omega) ?_)
    refine add_l2 bs j x hx r S out.length (by omega) (by omega) (fun o h1 h2 h3 => cont o h1 (by omega) h3) hj out.length 0 out 0 (by omega) rfl hlo (by omega) (by omega) ?_
    simp only [List.drop_zero, Int.pow_zero]
    omega
  | succ d ih =>
    intro out hd hoL hlo hV
    refine Ev.step (fun k => by simp only [nat_Add.l1]; rfl) (Ev.pos (by omega) (Ev.pos (by omega) ?_))
    refine ih (out ++ [0]) (by simp; omega) (by simp; omega) (hlo.app (Lim.cons (by decide) (by decide) Lim.nil)) ?_
    rw [V_snoc]
    omega
theorem add_l0 (bs : List (List Int)) (hbs : ∀ l ∈ bs, okL l) (hsh : short bs) (hbl : bs.length ≤ 5864062014634) : ∀ (d j : Nat) (out : List Int), j + d = bs.length → Lim out → out.length ≤ 4096 + j → Ev (fun k => nat_Add.l0 k out bs (bs.length : Int) (j : Int)) (ans (V out + sumV (bs.drop j))) := by
  intro d
  induction d with
  | zero =>
    intro j out hj hlo hol
    rw [List.drop_eq_nil_of_le (by omega)]
    refine Ev.step (fun k => by simp only [nat_Add.l0]; rfl) (Ev.neg (by omega) ?_)
    refine Ev.bind (told_f out hlo (by omega)) (Ev.const ?_)
    simp [sumV]
  | succ d ih =>
    intro j out hj hlo hol
    have hlt : j < bs.length := by omega
    have ho := hbs _ (List.getElem_mem hlt)
    have hs := hsh _ (List.getElem_mem hlt)
    refine Ev.step (fun k => by simp only [nat_Add.l0]; rfl) (Ev.pos (by omega) (Ev.pos (by omega) (Ev.pos (by omega) ?_)))
    rw [rdL_get bs j hlt]
    refine Ev.bind (trim_f _ (by have := ho.2; omega)) ?_
    rw [List.drop_eq_getElem_cons hlt]
    have htl : (trimL bs[j]).length ≤ 4096 := by rw [len_trim ho.1]; exact hs
    refine add_l1 bs j (trimL bs[j]) ho.1.trim _ (V out + V bs[j]) (4096 + j) (by omega) (by omega) (fun o h1 h2 h3 => ?_) (by omega) _ out rfl hol hlo (by rw [V_trim])
    have := ih (j + 1) o (by omega) h1 (by omega)
    rw [h3] at this
    refine Ev.res (Ev.congr (fun k => rfl) this) ?_
    simp only [sumV]
    congr 1
    omega
def addA (a : List Int) (bs : List (List Int)) : List Int × Int := if short [a] ∧ short bs then ans (V a + sumV bs) else ([], 2)
theorem add_f (a : List Int) (bs : List (List Int)) (ha : okL a) (hbs : ∀ l ∈ bs, okL l) (hbl : bs.length ≤ 5864062014634) : Ev (fun k => nat_Add.f k a bs) (addA a bs) := by
  refine Ev.congr (fun k => by unfold nat_Add.f; rfl) (Ev.bind (fits_f [a] (fun x hx => by simp at hx; exact hx ▸ ha) (by simp)) ?_)
  have err : ∀ h : ¬ (short [a] ∧ short bs), Ev (fun k => nat_Add.j0 k a bs true) (addA a bs) := by
    intro h
    refine Ev.step (fun k => by simp only [nat_Add.j0]; rfl) (Ev.pos (by trivial) (Ev.const ?_))
    rw [addA, if_neg h]
  by_cases h1 : short [a]
  · refine Ev.pos (by simpa using h1) (Ev.bind (fits_f bs hbs (by omega)) ?_)
    by_cases h2 : short bs
    · rw [decide_eq_true h2]
      refine Ev.step (fun k => by simp only [nat_Add.j0]; rfl) (Ev.neg (by simp) ?_)
      have htl : (trimL a).length ≤ 4096 := by rw [len_trim ha.1]; exact h1 a (by simp)
      refine Ev.bind (trim_f a (by have := ha.2; omega)) (Ev.pre (clone_f _ (by omega)) ?_)
      have := add_l0 bs hbs h2 hbl bs.length 0 (trimL a) (by omega) ha.1.trim (by omega)
      rw [V_trim] at this
      refine Ev.res this ?_
      rw [addA, if_pos ⟨h1, h2⟩]
      rfl
    · rw [decide_eq_false h2]
      exact err (fun h => h2 h.2)
  · refine Ev.neg (by simpa using h1) (err (fun h => h1 h.1))
theorem small_len {n : Int} (h0 : 0 ≤ n) (h : n < 4294967296) : len n ≤ 1 := (len_le h0).2 (by simpa using h)
theorem okL_one {n : Int} (h0 : 0 ≤ n) (h : n < 4294967296) : okL [n] := ⟨Lim.cons h0 h Lim.nil, by simp⟩
theorem awake_f : Ev (fun k => glossatorlaw01_awake.f k) true := by
  have h := add_f [2] [[3]] (okL_one (by decide) (by decide)) (fun l hl => by simp at hl; exact hl ▸ okL_one (by decide) (by decide)) (by simp)
  have s2 : short [[2]] := fun l hl => by simp at hl; rw [hl, V_one]; exact Nat.le_trans (small_len (by decide) (by decide)) (by decide)
  have s3 : short [[3]] := fun l hl => by simp at hl; rw [hl, V_one]; exact Nat.le_trans (small_len (by decide) (by decide)) (by decide)
  have e : addA [2] [[3]] = ([5], 0) := by
    rw [addA, if_pos ⟨s2, s3⟩, ans]
    have : V [2] + sumV [[3]] = 5 := by simp [V, sumV]
    rw [this, if_pos (Nat.le_trans (small_len (by decide) (by decide)) (by decide)), enc_pos (by decide)]
    rw [show (5 : Int) / 4294967296 = 0 by decide, enc_zero]
    rfl
  rw [e] at h
  refine Ev.congr (fun k => by unfold glossatorlaw01_awake.f; rfl) (Ev.bind h (Ev.const ?_))
  decide
def lim (l : List Int) (j : Nat) : Int := l.getD j 0
theorem lim_in (l : List Int) (j : Nat) (h : j < l.length) : lim l j = l[j] := by
  unfold lim; rw [List.getD_eq_getElem?_getD, List.getElem?_eq_getElem h]; rfl
theorem lim_out (l : List Int) (j : Nat) (h : l.length ≤ j) : lim l j = 0 := by
  unfold lim; rw [List.getD_eq_getElem?_getD, List.getElem?_eq_none h]; rfl
theorem lim_bd {l : List Int} (h : Lim l) (j : Nat) : 0 ≤ lim l j ∧ lim l j < 4294967296 := by
  by_cases hj : j < l.length
  · rw [lim_in l j hj]; exact h.get j hj
  · rw [lim_out l j (by omega)]; omega
theorem V_lim (l : List Int) (j : Nat) : V (l.drop j) = lim l j + 4294967296 * V (l.drop (j + 1)) := by
  by_cases hj : j < l.length
  · rw [V_drop l j hj, lim_in l j hj]
  · rw [List.drop_eq_nil_of_le (by omega), List.drop_eq_nil_of_le (by omega), lim_out l j (by omega)]; rfl
theorem zeros_lim (n j : Nat) : lim (List.replicate n 0) j = 0 := by
  by_cases h : j < n
  · rw [lim_in _ _ (by simpa using h)]; simp
  · exact lim_out _ _ (by simp; omega)
theorem rd_lim (l : List Int) (j : Nat) : rd l (j : Int) = lim l j := by rw [rd_getD, Int.toNat_natCast]; rfl
theorem V_set_lim (l : List Int) (i : Nat) (x : Int) (h : i < l.length) : V (l.set i x) = V l + 4294967296 ^ i * (x - lim l i) := by rw [V_set l i x h, lim_in l i h]
def cmpI (x y : Int) : Int := if x < y then -1 else if x > y then 1 else 0
theorem V_at (l : List Int) (i : Nat) (h : i < l.length) : V l = V (l.take i) + 4294967296 ^ i * (l[i] + 4294967296 * V (l.drop (i + 1))) := by
  rw [← V_drop l i h]; exact V_split l i (by omega)
theorem part_lt (a b : List Int) (ha : Lim a) (hb : Lim b) (i : Nat) (hia : i < a.length) (hib : i < b.length) (hd : V (a.drop (i + 1)) = V (b.drop (i + 1))) (h : a[i] < b[i]) : V a < V b := by
  rw [V_at a i hia, V_at b i hib, hd]
  have h1 := V_lt (ha.take i)
  rw [List.length_take, Nat.min_eq_left (by omega)] at h1
  have h2 := V_nonneg (hb.take i)
  generalize V (b.drop (i + 1)) = R
  have h3 : (4294967296 : Int) ^ i * (a[i] + 1) ≤ 4294967296 ^ i * b[i] := Int.mul_le_mul_of_nonneg_left (by omega) (Int.le_of_lt (Int.pow_pos (by decide)))
  rw [Int.mul_add, Int.mul_add]
  rw [Int.mul_add, Int.mul_one] at h3
  omega
theorem cmp_len {m n : Int} (_ : 0 ≤ m) (h : len m < len n) : m < n := by
  rcases Int.lt_or_le m n with h' | h'
  · exact h'
  · have hn : 0 ≤ n := by
      rcases Int.lt_or_le n 0 with q | q
      · have : len n = 0 := by unfold len enc; rw [dif_pos (by omega)]; rfl
        omega
      · exact q
    have := len_mono hn h'
    omega
theorem cmp_l0 (a b : List Int) (ha : Lim a) (hb : Lim b) (hl : a.length = b.length) (hla : a.length ≤ 35184372088831) : ∀ (d : Nat), d ≤ a.length → V (a.drop d) = V (b.drop d) → Ev (fun k => nat_Cmp.l0 k a b ((d : Int) - 1)) (cmpI (V a) (V b)) := by
  intro d
  induction d with
  | zero =>
    intro _ hd
    simp only [List.drop_zero] at hd
    refine Ev.step (fun k => by simp only [nat_Cmp.l0]; rfl) (Ev.neg (by omega) (Ev.const ?_))
    rw [hd, cmpI, if_neg (by omega), if_neg (by omega)]
  | succ d ih =>
    intro hda hd
    have hia : d < a.length := by omega
    have hib : d < b.length := by omega
    rw [show ((d + 1 : Nat) : Int) - 1 = (d : Int) by omega]
    refine Ev.step (fun k => by simp only [nat_Cmp.l0]; rfl) (Ev.pos (by omega) (Ev.pos (by omega) (Ev.pos (by omega) (Ev.pos (by omega) ?_))))
    rw [rd_get a d hia, rd_get b d hib, wrap_id (by omega) (by omega)]
    by_cases h1 : a[d] < b[d]
    · have := part_lt a b ha hb d hia hib hd h1
      exact Ev.pos h1 (Ev.const (by rw [cmpI, if_pos this]))
    · refine Ev.neg h1 ?_
      by_cases h2 : a[d] > b[d]
      · have := part_lt b a hb ha d hib hia hd.symm h2
        exact Ev.pos h2 (Ev.const (by rw [cmpI, if_neg (by omega), if_pos this]))
      · refine Ev.neg h2 (ih (by omega) ?_)
        rw [V_drop a d hia, V_drop b d hib, hd, show a[d] = b[d] by omega]
theorem cmp_f (a b : List Int) (ha : okL a) (hb : okL b) : Ev (fun k => nat_Cmp.f k a b) (cmpI (V a) (V b)) := by
  refine Ev.congr (fun k => by unfold nat_Cmp.f; rfl) (Ev.bind (trim_f a (by have := ha.2; omega)) (Ev.bind (trim_f b (by have := hb.2; omega)) ?_))
  have la := trim_le ha
  have lb := trim_le hb
  have h0 := V_nonneg ha.1
  have h1 := V_nonneg hb.1
  rw [len_trim ha.1, len_trim hb.1]
  by_cases h : len (V a) = len (V b)
  · refine Ev.pos (by omega) ?_
    rw [wrap_id (by omega) (by omega)]
    have := cmp_l0 (trimL a) (trimL b) ha.1.trim hb.1.trim (by rw [len_trim ha.1, len_trim hb.1, h]) (by rw [len_trim ha.1]; omega) (trimL a).length (Nat.le_refl _) (by rw [List.drop_eq_nil_of_le (Nat.le_refl _), List.drop_eq_nil_of_le (by rw [len_trim ha.1, len_trim hb.1, h]; exact Nat.le_refl _)])
    rw [V_trim, V_trim, len_trim ha.1] at this
    exact this
  · refine Ev.neg (by omega) ?_
    by_cases h2 : len (V a) < len (V b)
    · have := cmp_len h0 h2
      exact Ev.pos (by omega) (Ev.const (by rw [cmpI, if_pos this]))
    · have := cmp_len h1 (show len (V b) < len (V a) by omega)
      exact Ev.neg (by omega) (Ev.const (by rw [cmpI, if_neg (by omega), if_pos this]))
theorem take_step (W P r o x y b : Int) (e : o - b - y = r - 4294967296 * x) : W + P * (r - o) - x * (P * 4294967296) = W - b * P - P * y := by grind
theorem take_l0 (b : List Int) (hb : Lim b) (S : Int) (L : Nat) (hL : L ≤ 35184372087808) (hbL : b.length ≤ L) (hS : 0 ≤ S) (P : List Int → Prop) (hP : ∀ out : List Int, Lim out → out.length = L → V out = S → P out) :
    ∀ (d i : Nat) (out : List Int) (c : Int), i + d = L → out.length = L → Lim out → 0 ≤ c → c ≤ 1 → V out - c * 4294967296 ^ i - 4294967296 ^ i * V (b.drop i) = S →
      ∃ r, Ev (fun k => nat_take.l0 k out b c (L : Int) (i : Int)) r ∧ P r := by
  intro d
  induction d with
  | zero =>
    intro i out c hi ho hlo c0 c1 hV
    rw [List.drop_eq_nil_of_le (by omega)] at hV
    simp only [V, Int.mul_zero, Int.sub_zero] at hV
    have hc : c = 0 := by
      have := V_lt hlo
      rw [ho, show L = i by omega] at this
      by_cases h : c = 0
      · exact h
      · have : c = 1 := by omega
        subst this
        omega
    subst hc
    refine ⟨out, Ev.step (fun k => by simp only [nat_take.l0]; rfl) (Ev.neg (by omega) (Ev.const rfl)), hP out hlo ho (by omega)⟩
  | succ d ih =>
    intro i out c hi ho hlo c0 c1 hV
    have hlt : i < out.length := by omega
    have hg := hlo.get i hlt
    have hp : (4294967296 : Int) ^ (i + 1) = 4294967296 ^ i * 4294967296 := Int.pow_succ ..
    have hgb := lim_bd hb i
    have hw : ∀ y, y = lim b i → ∃ r x : Int, (IntKind.u64.wrap (IntKind.u64.wrap (out[i] - c) - y)) % 4294967296 = r ∧ (IntKind.u64.wrap (IntKind.u64.wrap (out[i] - c) - y)) / 9223372036854775808 = x ∧ 0 ≤ r ∧ r < 4294967296 ∧ 0 ≤ x ∧ x ≤ 1 ∧ out[i] - c - y = r - 4294967296 * x := by
      intro y hy
      refine ⟨_, _, rfl, rfl, ?_⟩
      rw [u64_mod, u64_mod]
      omega
    have go : ∀ r x : Int, 0 ≤ r → r < 4294967296 → 0 ≤ x → x ≤ 1 → out[i] - c - lim b i = r - 4294967296 * x → ∃ q, Ev (fun k => nat_take.l0 k (out.set i r) b x (L : Int) ((i + 1 : Nat) : Int)) q ∧ P q := by
      intro r x r0 r1 x0 x1 e
      refine ih (i + 1) (out.set i r) x (by omega) (by simp [ho]) (hlo.set _ _ r0 r1) x0 x1 ?_
      rw [V_set out i _ hlt, hp]
      rw [V_lim b i] at hV
      have hs := take_step (V out) ((4294967296 : Int) ^ i) _ _ _ _ _ e
      rw [hs, ← hV]
      generalize (4294967296 : Int) ^ i = Q
      generalize V (b.drop (i + 1)) = R
      grind
    by_cases hbi : i < b.length
    · have hl := lim_in b i hbi
      obtain ⟨r, x, e1, e2, r0, r1, x0, x1, e⟩ := hw b[i] hl.symm
      obtain ⟨q, hq, hp⟩ := go r x r0 r1 x0 x1 (by rw [hl]; exact e)
      refine ⟨q, ?_, hp⟩
      refine Ev.step (fun k => by simp only [nat_take.l0]; rfl) (Ev.pos (by omega) (Ev.pos (by omega) (Ev.pos (by omega) (Ev.pos (by omega) ?_))))
      have hgb' := hb.get i hbi
      rw [rd_get out i hlt, rd_get b i hbi, wrap_id (x := (i : Int) + 1) (by omega) (by omega), Int.toNat_natCast, u64_id (n := out[i]) (by omega) (by omega), u64_id (n := b[i]) (by omega) (by omega), e1, e2]
      exact hq
    · have hl := lim_out b i (by omega)
      obtain ⟨r, x, e1, e2, r0, r1, x0, x1, e⟩ := hw 0 hl.symm
      obtain ⟨q, hq, hp⟩ := go r x r0 r1 x0 x1 (by rw [hl]; exact e)
      refine ⟨q, ?_, hp⟩
      refine Ev.step (fun k => by simp only [nat_take.l0]; rfl) (Ev.pos (by omega) (Ev.pos (by omega) (Ev.pos (by omega) (Ev.neg (by omega) ?_))))
      have e3 : IntKind.u64.wrap (IntKind.u64.wrap (out[i] - c) - 0) = IntKind.u64.wrap (out[i] - c) := by rw [u64_mod, u64_mod]; omega
      rw [e3] at e1 e2
      rw [rd_get out i hlt, wrap_id (x := (i : Int) + 1) (by omega) (by omega), Int.toNat_natCast, u64_id (n := out[i]) (by omega) (by omega), e1, e2]
      exact hq
theorem take_f (a b : List Int) (ha : okL a) (hb : Lim b) (hl : b.length ≤ a.length) (h : V b ≤ V a) : ∃ r, Ev (fun k => nat_take.f k a b) r ∧ Lim r ∧ r.length = a.length ∧ V r = V a - V b := by
  have := take_l0 b hb (V a - V b) a.length ha.2 hl (by omega) (fun r => Lim r ∧ r.length = a.length ∧ V r = V a - V b) (fun out h1 h2 h3 => ⟨h1, h2, h3⟩) a.length 0 a 0 (by omega) rfl ha.1 (by omega) (by omega) (by simp)
  exact this
def subA (a b : List Int) : List Int × Int := if short [a, b] then (if V a < V b then ([], 1) else ans (V a - V b)) else ([], 2)
theorem okL_trim {a : List Int} (ha : okL a) : okL (trimL a) := ⟨ha.1.trim, Nat.le_trans (trim_len a) ha.2⟩
theorem sub_f (a b : List Int) (ha : okL a) (hb : okL b) : Ev (fun k => nat_Sub.f k a b) (subA a b) := by
  refine Ev.congr (fun k => by unfold nat_Sub.f; rfl) (Ev.bind (fits_f [a, b] (fun x hx => by simp at hx; rcases hx with rfl | rfl <;> assumption) (by simp)) ?_)
  by_cases h : short [a, b]
  · refine Ev.pos (by simpa using h) (Ev.bind (cmp_f a b ha hb) ?_)
    by_cases hlt : V a < V b
    · refine Ev.pos (by rw [cmpI, if_pos hlt]; decide) (Ev.const ?_)
      rw [subA, if_pos h, if_pos hlt]
    · have hc : ¬ cmpI (V a) (V b) < 0 := by unfold cmpI; rw [if_neg hlt]; split <;> decide
      obtain ⟨r, hr, h1, h2, h3⟩ := take_f (trimL a) (trimL b) (okL_trim ha) hb.1.trim (by rw [len_trim ha.1, len_trim hb.1]; exact len_mono (V_nonneg hb.1) (by omega)) (by rw [V_trim, V_trim]; omega)
      refine Ev.neg hc (Ev.bind (trim_f a (by have := ha.2; omega)) (Ev.pre (clone_f _ (by have := (okL_trim ha).2; omega)) (Ev.bind (trim_f b (by have := hb.2; omega)) (Ev.bind hr (Ev.bind (told_f r h1 (by have := (okL_trim ha).2; omega)) (Ev.const ?_))))))
      rw [subA, if_pos h, if_neg hlt, h3, V_trim, V_trim]
  · refine Ev.neg (by simpa using h) (Ev.const ?_)
    rw [subA, if_neg h]
def tab8 : ByteArray := (⟨#[0, 1, 2, 2, 3, 3, 3, 3, 4, 4, 4, 4, 4, 4, 4, 4, 5, 5, 5, 5, 5, 5, 5, 5, 5, 5, 5, 5, 5, 5, 5, 5, 6, 6, 6, 6, 6, 6, 6, 6, 6, 6, 6, 6, 6, 6, 6, 6, 6, 6, 6, 6, 6, 6, 6, 6, 6, 6, 6, 6, 6, 6, 6, 6, 7, 7, 7, 7, 7, 7, 7, 7, 7, 7, 7, 7, 7, 7, 7, 7, 7, 7, 7, 7, 7, 7, 7, 7, 7, 7, 7, 7, 7, 7, 7, 7, 7, 7, 7, 7, 7, 7, 7, 7, 7, 7, 7, 7, 7, 7, 7, 7, 7, 7, 7, 7, 7, 7, 7, 7, 7, 7, 7, 7, 7, 7, 7, 7, 8, 8, 8, 8, 8, 8, 8, 8, 8, 8, 8, 8, 8, 8, 8, 8, 8, 8, 8, 8, 8, 8, 8, 8, 8, 8, 8, 8, 8, 8, 8, 8, 8, 8, 8, 8, 8, 8, 8, 8, 8, 8, 8, 8, 8, 8, 8, 8, 8, 8, 8, 8, 8, 8, 8, 8, 8, 8, 8, 8, 8, 8, 8, 8, 8, 8, 8, 8, 8, 8, 8, 8, 8, 8, 8, 8, 8, 8, 8, 8, 8, 8, 8, 8, 8, 8, 8, 8, 8, 8, 8, 8, 8, 8, 8, 8, 8, 8, 8, 8, 8, 8, 8, 8, 8, 8, 8, 8, 8, 8, 8, 8, 8, 8, 8, 8, 8, 8, 8, 8, 8, 8, 8, 8, 8, 8, 8, 8]⟩ : ByteArray)
theorem tab8_ok : ∀ i : Nat, i < 256 → (i = 0 ∧ bt tab8 (i : Int) = 0) ∨ (1 ≤ bt tab8 (i : Int) ∧ bt tab8 (i : Int) ≤ 8 ∧ (2 : Int) ^ (bt tab8 (i : Int) - 1).toNat ≤ i ∧ (i : Int) < 2 ^ ((bt tab8 (i : Int) - 1).toNat + 1)) := by decide +kernel
theorem tab8_bl (i : Int) (h0 : 0 ≤ i) (h1 : i < 256) : bt ((⟨#[0, 1, 2, 2, 3, 3, 3, 3, 4, 4, 4, 4, 4, 4, 4, 4, 5, 5, 5, 5, 5, 5, 5, 5, 5, 5, 5, 5, 5, 5, 5, 5, 6, 6, 6, 6, 6, 6, 6, 6, 6, 6, 6, 6, 6, 6, 6, 6, 6, 6, 6, 6, 6, 6, 6, 6, 6, 6, 6, 6, 6, 6, 6, 6, 7, 7, 7, 7, 7, 7, 7, 7, 7, 7, 7, 7, 7, 7, 7, 7, 7, 7, 7, 7, 7, 7, 7, 7, 7, 7, 7, 7, 7, 7, 7, 7, 7, 7, 7, 7, 7, 7, 7, 7, 7, 7, 7, 7, 7, 7, 7, 7, 7, 7, 7, 7, 7, 7, 7, 7, 7, 7, 7, 7, 7, 7, 7, 7, 8, 8, 8, 8, 8, 8, 8, 8, 8, 8, 8, 8, 8, 8, 8, 8, 8, 8, 8, 8, 8, 8, 8, 8, 8, 8, 8, 8, 8, 8, 8, 8, 8, 8, 8, 8, 8, 8, 8, 8, 8, 8, 8, 8, 8, 8, 8, 8, 8, 8, 8, 8, 8, 8, 8, 8, 8, 8, 8, 8, 8, 8, 8, 8, 8, 8, 8, 8, 8, 8, 8, 8, 8, 8, 8, 8, 8, 8, 8, 8, 8, 8, 8, 8, 8, 8, 8, 8, 8, 8, 8, 8, 8, 8, 8, 8, 8, 8, 8, 8, 8, 8, 8, 8, 8, 8, 8, 8, 8, 8, 8, 8, 8, 8, 8, 8, 8, 8, 8, 8, 8, 8, 8, 8, 8, 8, 8, 8]⟩ : ByteArray)) i = bl i := by
  show bt tab8 i = bl i
  obtain ⟨n, rfl⟩ := Int.eq_ofNat_of_zero_le h0
  rcases tab8_ok n (by omega) with ⟨a, b⟩ | ⟨a, b, c, d⟩
  · subst a
    rw [b]
    exact (congrArg (fun z : Nat => (z : Int)) bl_zero).symm
  · have := bl_of c d
    omega
theorem wrap_two (c n : Int) (c0 : 0 ≤ c) (n0 : 0 ≤ n) (h : c + n ≤ 9223372036854775807) : wrap64 (c + wrap64 n) = c + n := by
  rw [wrap_id (x := n) (by omega) (by omega), wrap_id (by omega) h]
theorem bl_shift (x : Int) (m : Nat) (h : (2 : Int) ^ m ≤ x) : (bl x : Int) = m + bl (x / 2 ^ m) := by
  have pos : (0 : Int) < 2 ^ m := Int.pow_pos (by decide)
  rw [bl_div (by omega)]
  obtain ⟨k, hk, _⟩ := bl_ge (n := x) (by omega)
  have : ¬ bl x ≤ m := fun hq => by have := (bl_le (n := x) (k := m) (by omega)).1 hq; omega
  omega
theorem len32_f (x : Int) (h0 : 0 ≤ x) (h1 : x < 4294967296) : bits_Len32.f x = some (bl x : Int) := by
  unfold bits_Len32.f
  by_cases c1 : x ≥ 65536
  · have e1 := bl_shift x 16 c1
    rw [show (2 : Int) ^ 16 = 65536 by decide] at e1
    rw [if_pos c1]
    by_cases c2 : x / 65536 ≥ 256
    · have e2 := bl_shift (x / 65536) 8 c2
      rw [show (2 : Int) ^ 8 = 256 by decide] at e2
      rw [if_pos c2, show (x / 65536) / 256 % 256 = (x / 65536) / 256 by omega, if_pos (by omega), if_pos (by omega), tab8_bl _ (by omega) (by omega)]
      have : bl ((x / 65536) / 256) ≤ 8 := (bl_le (by omega)).2 (by show _ < (256 : Int); omega)
      rw [wrap_two _ _ (by decide) (by omega) (by omega)]
      congr 1; omega
    · rw [if_neg c2, show (x / 65536) % 256 = x / 65536 by omega, if_pos (by omega), if_pos (by omega), tab8_bl _ (by omega) (by omega)]
      have : bl (x / 65536) ≤ 8 := (bl_le (by omega)).2 (by show _ < (256 : Int); omega)
      rw [wrap_two _ _ (by decide) (by omega) (by omega)]
      congr 1; omega
  · rw [if_neg c1]
    by_cases c2 : x ≥ 256
    · have e2 := bl_shift x 8 c2
      rw [show (2 : Int) ^ 8 = 256 by decide] at e2
      rw [if_pos c2, show x / 256 % 256 = x / 256 by omega, if_pos (by omega), if_pos (by omega), tab8_bl _ (by omega) (by omega)]
      have : bl (x / 256) ≤ 8 := (bl_le (by omega)).2 (by show _ < (256 : Int); omega)
      rw [wrap_two _ _ (by decide) (by omega) (by omega)]
      congr 1; omega
    · rw [if_neg c2, show x % 256 = x by omega, if_pos (by omega), if_pos (by omega), tab8_bl _ (by omega) (by omega)]
      have : bl x ≤ 8 := (bl_le (by omega)).2 (by show _ < (256 : Int); omega)
      rw [wrap_two _ _ (by decide) (by omega) (by omega)]
      congr 1; omega
theorem bl32 {x : Int} (h0 : 0 ≤ x) (h1 : x < 4294967296) : bl x ≤ 32 := (bl_le h0).2 h1
theorem bits_f (a : List Int) (ha : okL a) : Ev (fun k => nat_Bits.f k a) (bl (V a) : Int) := by
  refine Ev.congr (fun k => by unfold nat_Bits.f; rfl) (Ev.bind (trim_f a (by have := ha.2; omega)) ?_)
  have hl := okL_trim' ha
  by_cases h : (trimL a).length = 0
  · refine Ev.pos (by omega) (Ev.const ?_)
    have : trimL a = [] := List.eq_nil_of_length_eq_zero h
    rw [← V_trim, this]
    simp [V, bl_zero]
  · have ht := trim_top a (by omega)
    have hb := bl_V (trimL a) ha.1.trim (by omega) ht
    have hg := ha.1.trim.get ((trimL a).length - 1) (by omega)
    have h32 := bl32 hg.1 hg.2
    refine Ev.neg (by omega) ?_
    rw [wrap_id (x := ((trimL a).length : Int) - 1) (by omega) (by omega)]
    refine Ev.pos (by omega) (Ev.pos (by omega) ?_)
    rw [show ((trimL a).length : Int) - 1 = (((trimL a).length - 1 : Nat) : Int) by omega, rd_get _ _ (by omega)]
    refine Ev.pre (len32_f _ hg.1 hg.2) (Ev.const ?_)
    rw [wrap_id (x := 32 * (((trimL a).length - 1 : Nat) : Int)) (by omega) (by omega), wrap_id (by omega) (by omega), ← V_trim a, hb]
    congr 1
theorem or32 (x y : Int) (s : Nat) (hs : s ≤ 32) (x0 : 0 ≤ x) (x1 : x < 2 ^ s) (y0 : 0 ≤ y) (y1 : y < 4294967296) (hy : y % 2 ^ s = 0) : Go.bits .or .u32 x y = x + y := by
  have hx : x < 4294967296 := Int.lt_of_lt_of_le x1 (by
    have h := Nat.pow_le_pow_right (n := 2) (by decide) hs
    have h2 : ((2 ^ s : Nat) : Int) ≤ ((2 ^ 32 : Nat) : Int) := Int.ofNat_le.2 h
    rw [Int.natCast_pow] at h2
    exact h2)
  have h := bits_join .u32 32 (by decide) (fun n h0 h1 => by rw [IntKind.wrap_u32]; omega) s y x y0 hy y1 x0 x1 hx
  have hc : Go.bits .or .u32 x y = Go.bits .or .u32 y x := by
    unfold Go.bits
    simp only
    rw [BitVec.or_comm]
  rw [hc, h]; omega
theorem left_alg (P D x lo hi W T : Int) (e : x * D = lo + 4294967296 * hi) (hT : T = W + P * x) : W * D + P * lo + P * 4294967296 * hi = T * D := by grind
theorem left_l0 (a : List Int) (ha : Lim a) (s : Nat) (hs : s < 32) (L : Nat) (hL : a.length < L) (hL2 : L ≤ 35184372087808) : ∀ (d i : Nat) (out : List Int), i + d = a.length → out.length = L → Lim out → (∀ j, i < j → lim out j = 0) → lim out i < 2 ^ s → V out = V (a.take i) * 2 ^ s →
    ∃ r, Ev (fun k => nat_left.l0 k (s : Int) out a (a.length : Int) (i : Int)) r ∧ Lim r ∧ r.length = L ∧ V r = V a * 2 ^ s := by
  have hD : (0 : Int) < 2 ^ s := Int.pow_pos (by decide)
  have hD2 : (2 : Int) ^ s * 2 ^ (32 - s) = 4294967296 := by
    rw [← Int.pow_add, show s + (32 - s) = 32 by omega]; decide
  have hE : (0 : Int) < 2 ^ (32 - s) := Int.pow_pos (by decide)
  have hD3 : (2 : Int) ^ s ≤ 2147483648 := by
    have h := Nat.pow_le_pow_right (n := 2) (by decide) (show s ≤ 31 by omega)
    have h2 : ((2 ^ s : Nat) : Int) ≤ ((2 ^ 31 : Nat) : Int) := Int.ofNat_le.2 h
    rw [Int.natCast_pow] at h2
    exact h2
  intro d
  induction d with
  | zero =>
    intro i out hi ho hlo _ _ hV
    refine ⟨out, Ev.step (fun k => by simp only [nat_left.l0]; rfl) (Ev.neg (by omega) (Ev.const rfl)), hlo, ho, ?_⟩
    rw [hV, List.take_of_length_le (by omega)]
  | succ d ih =>
    intro i out hi ho hlo hz hc hV
    have hlt : i < a.length := by omega
    have hlo2 : i < out.length := by omega
    have hg := ha.get i hlt
    have hgo := hlo.get i hlo2
    rw [lim_in out i hlo2] at hc
    obtain ⟨v, hv⟩ : ∃ v : Int, v = a[i] * 2 ^ s := ⟨_, rfl⟩
    have v0 : 0 ≤ v := by rw [hv]; exact Int.mul_nonneg hg.1 (by omega)
    have v1 : v < 4294967296 * 2 ^ s := by rw [hv]; exact Int.mul_lt_mul_of_pos_right hg.2 hD
    have v2 : v < 18446744073709551616 := by omega
    have hsh : shl .u64 (IntKind.u64.wrap a[i]) (s : Int) = v := by
      unfold shl
      have e : min (s : Int).toNat IntKind.u64.bits = s := by
        have : IntKind.u64.bits = 64 := rfl
        omega
      rw [e, u64_id (n := a[i]) (by omega) (by omega), ← hv, u64_id v0 v2]
    have hdiv : v % 4294967296 % 2 ^ s = 0 := by
      have h1 : v % 4294967296 % 2 ^ s = v % 2 ^ s := Int.emod_emod_of_dvd v ⟨2 ^ (32 - s), hD2.symm⟩
      rw [h1, hv, Int.mul_emod_left]
    have hhi : v / 4294967296 < 2 ^ s := Int.ediv_lt_of_lt_mul (by decide) (by rw [Int.mul_comm]; exact v1)
    have hlow : v % 4294967296 + 2 ^ s ≤ 4294967296 := by
      have h1 := Int.mul_ediv_add_emod (v % 4294967296) (2 ^ s)
      rw [hdiv, Int.add_zero] at h1
      have h2 : v % 4294967296 / 2 ^ s < 2 ^ (32 - s) := Int.ediv_lt_of_lt_mul hD (by rw [Int.mul_comm, hD2]; omega)
      have h3 : (2 : Int) ^ s * (v % 4294967296 / 2 ^ s + 1) ≤ 2 ^ s * 2 ^ (32 - s) := Int.mul_le_mul_of_nonneg_left (by omega) (by omega)
      rw [hD2, Int.mul_add, h1] at h3
      omega
    have hor : Go.bits .or .u32 out[i] (v % 4294967296) = out[i] + v % 4294967296 := or32 _ _ s (by omega) hgo.1 hc (by omega) (by omega) hdiv
    obtain ⟨r, hr, h1, h2, h3⟩ := ih (i + 1) ((out.set i (out[i] + v % 4294967296)).set (i + 1) (v / 4294967296)) (by omega) (by simp [ho]) ((hlo.set _ _ (by omega) (by omega)).set _ _ (by omega) (by omega)) (fun j hj => by
        unfold lim
        rw [List.getD_eq_getElem?_getD, List.getElem?_set_ne (by omega), List.getElem?_set_ne (by omega)]
        have := hz j (by omega)
        unfold lim at this
        rwa [List.getD_eq_getElem?_getD] at this) (by rw [lim_in _ _ (by simp; omega), List.getElem_set_self]; exact hhi) (by
        have hz1 := hz (i + 1) (by omega)
        have hi1 : i + 1 < out.length := by omega
        rw [lim_in out _ hi1] at hz1
        rw [V_set _ _ _ (by simp; omega), V_set _ _ _ hlo2, List.getElem_set_ne (by omega), hz1, hV, V_take_succ a i hlt, Int.pow_succ]
        have := left_alg (4294967296 ^ i) (2 ^ s) a[i] (v % 4294967296) (v / 4294967296) (V (a.take i)) _ (by rw [← hv]; omega) rfl
        rw [← this]
        generalize (4294967296 : Int) ^ i = P
        generalize V (a.take i) * 2 ^ s = W
        grind)
    refine ⟨r, ?_, h1, h2, h3⟩
    refine Ev.step (fun k => by simp only [nat_left.l0]; rfl) (Ev.pos (by omega) (Ev.pos (by omega) (Ev.pos (by omega) (Ev.pos (by omega) (Ev.pos (by omega) (Ev.pre rfl ?_))))))
    rw [rd_get a i hlt, rd_get out i hlo2, hsh, hor, wrap_id (x := (i : Int) + 1) (by omega) (by omega), Int.toNat_natCast, show v / 4294967296 % 4294967296 = v / 4294967296 by omega, show ((i : Int) + 1).toNat = i + 1 by omega]
    exact Ev.pos (by omega) (Ev.pos (by omega) hr)
theorem left_f (a : List Int) (ha : Lim a) (hla : a.length ≤ 4096) (s : Nat) (hs : s < 32) : ∃ r, Ev (fun k => nat_left.f k a (s : Int) 1) r ∧ Lim r ∧ r.length = a.length + 1 ∧ V r = V a * 2 ^ s := by
  obtain ⟨r, hr, h1, h2, h3⟩ := left_l0 a ha s hs (a.length + 1) (by omega) (by omega) a.length 0 (List.replicate (a.length + 1) 0) (by omega) (by simp) (Lim.zeros _) (fun j _ => zeros_lim _ j) (by rw [zeros_lim]; exact Int.pow_pos (by decide)) (by rw [V_zeros]; simp [V])
  refine ⟨r, ?_, h1, h2, h3⟩
  refine Ev.congr (fun k => by unfold nat_left.f; rfl) ?_
  rw [wrap_id (x := (a.length : Int) + 1) (by omega) (by omega), show ((a.length : Int) + 1).toNat = a.length + 1 by omega]
  exact Ev.pos (by omega) (Ev.pos (by omega) hr)
theorem pow_split (n : Nat) : (4294967296 : Int) ^ (n / 32) * 2 ^ (n % 32) = 2 ^ n := by
  rw [pow32, ← Int.pow_add, show 32 * (n / 32) + n % 32 = n by omega]
def shlA (a : List Int) (n : Int) : List Int × Int := if short [a] then (if n < 0 then ([], 1) else if V a = 0 then ([], 0) else if (bl (V a) : Int) + n > 131072 then ([], 2) else (enc (V a * 2 ^ n.toNat), 0)) else ([], 2)
theorem tdiv32 (n : Int) (h : 0 ≤ n) : Int.tdiv n 32 = ((n.toNat / 32 : Nat) : Int) := by rw [Int.tdiv_eq_ediv_of_nonneg h]; omega
theorem tmod32 (n : Int) (h : 0 ≤ n) : Int.tmod n 32 = ((n.toNat % 32 : Nat) : Int) := by rw [Int.tmod_eq_emod_of_nonneg h]; omega
theorem shl_f (a : List Int) (n : Int) (ha : okL a) (hn : n ≤ 9223372036854775807) : Ev (fun k => nat_Shl.f k a n) (shlA a n) := by
  refine Ev.congr (fun k => by unfold nat_Shl.f; rfl) (Ev.bind (fits_f [a] (fun x hx => by simp at hx; exact hx ▸ ha) (by simp)) ?_)
  have hv := V_nonneg ha.1
  unfold shlA
  by_cases h : short [a]
  · rw [if_pos h]
    refine Ev.pos (by simpa using h) ?_
    have hs := h a (by simp)
    have hbl := (len_bl hv).1 hs
    by_cases h1 : n < 0
    · rw [if_pos h1]; exact Ev.pos h1 (Ev.const rfl)
    · rw [if_neg h1]
      refine Ev.neg h1 (Ev.bind (bits_f a ha) ?_)
      by_cases h2 : V a = 0
      · rw [if_pos h2]
        exact Ev.pos (by rw [h2, bl_zero]; rfl) (Ev.const rfl)
      · rw [if_neg h2]
        have hb0 : ¬ bl (V a) = 0 := fun q => h2 ((bl_eq_zero hv).1 q)
        refine Ev.neg (by omega) (Ev.bind (bits_f a ha) ?_)
        rw [wrap_id (x := 131072 - (bl (V a) : Int)) (by omega) (by omega)]
        by_cases h3 : (bl (V a) : Int) + n > 131072
        · rw [if_pos h3]
          exact Ev.pos (by omega) (Ev.const rfl)
        · rw [if_neg h3]
          refine Ev.neg (by omega) ?_
          rw [tdiv32 n (by omega), tmod32 n (by omega), wrap_id (by omega) (by omega), Int.toNat_natCast]
          have htl : (trimL a).length ≤ 4096 := by rw [len_trim ha.1]; exact hs
          obtain ⟨r, hr, q1, q2, q3⟩ := left_f (trimL a) ha.1.trim htl (n.toNat % 32) (Nat.mod_lt _ (by decide))
          refine Ev.pos (by omega) (Ev.pos (by omega) (Ev.pre rfl (Ev.bind (trim_f a (by have := ha.2; omega)) (Ev.bind hr ?_))))
          refine Ev.pos (by simp; omega) (Ev.bind (told_f _ ((Lim.zeros _).app q1) (by simp; omega)) (Ev.const ?_))
          have e : V (List.replicate (n.toNat / 32) 0 ++ r) = V a * 2 ^ n.toNat := by
            rw [V_app, V_zeros, List.length_replicate, q3, V_trim, ← pow_split n.toNat]
            generalize (4294967296 : Int) ^ (n.toNat / 32) = P
            grind
          have hpos : 0 < V a := by omega
          have hl : len (V a * 2 ^ n.toNat) ≤ 4096 := (len_bl (by rw [← e]; exact V_nonneg ((Lim.zeros _).app q1))).2 (by rw [bl_mul hpos]; omega)
          rw [e, ans, if_pos hl]
  · rw [if_neg h]
    exact Ev.neg (by simpa using h) (Ev.const rfl)
theorem or64h (x y : Int) (x0 : 0 ≤ x) (x1 : x < 4294967296) (y0 : 0 ≤ y) (y1 : y < 4294967296) : Go.bits .or .u64 x (y * 4294967296) = x + 4294967296 * y := by
  have h := bits_join .u64 64 (by decide) (fun n h0 h1 => u64_id h0 h1) 32 (y * 4294967296) x (by omega) (by omega) (by omega) x0 x1 (by omega)
  have hc : Go.bits .or .u64 x (y * 4294967296) = Go.bits .or .u64 (y * 4294967296) x := by
    unfold Go.bits
    simp only
    rw [BitVec.or_comm]
  rw [hc, h]; omega
theorem shr64 (x : Int) (s : Nat) (hs : s < 32) : shr .u64 x (s : Int) = x / 2 ^ s := by
  unfold shr
  have e : min (s : Int).toNat IntKind.u64.bits = s := by
    have : IntKind.u64.bits = 64 := rfl
    omega
  rw [e]
theorem sh_get (D : Int) (l : List Int) (i : Nat) (h : i < (sh D l).length) : (sh D l)[i] = (lim l i + 4294967296 * lim l (i + 1)) / D % 4294967296 := by
  induction l generalizing i with
  | nil => simp [sh] at h
  | cons x l ih =>
    cases i with
    | zero =>
      simp only [sh, List.getElem_cons_zero]
      have : lim (x :: l) (0 + 1) = l.headD 0 := by cases l <;> rfl
      rw [this]
      rfl
    | succ i =>
      simp only [sh, List.getElem_cons_succ]
      rw [ih i (by simpa [sh] using h)]
      rfl
theorem take_set (l : List Int) (i : Nat) (x : Int) (h : i < l.length) : (l.set i x).take (i + 1) = l.take i ++ [x] := by
  rw [List.take_succ_eq_append_getElem (by simpa using h), List.take_set_of_le (Nat.le_refl _), List.getElem_set_self]
theorem shr_l0 (a : List Int) (ha : Lim a) (n : Int) (hn : 0 ≤ n) (hla : a.length ≤ 4096) : ∀ (d i : Nat) (out : List Int), i + d = a.length → out.length = a.length → out.take i = (sh (2 ^ (n.toNat % 32)) a).take i →
    Ev (fun k => nat_Shr.l0 k a n out a (a.length : Int) (i : Int)) (ans (V a / 2 ^ (n.toNat % 32))) := by
  have hE : (0 : Int) < 2 ^ (32 - n.toNat % 32) := Int.pow_pos (by decide)
  have hD : (0 : Int) < 2 ^ (n.toNat % 32) := Int.pow_pos (by decide)
  have hB : (4294967296 : Int) = 2 ^ (n.toNat % 32) * 2 ^ (32 - n.toNat % 32) := by
    rw [← Int.pow_add, show n.toNat % 32 + (32 - n.toNat % 32) = 32 by omega]; decide
  intro d
  induction d with
  | zero =>
    intro i out hi ho ht
    rw [List.take_of_length_le (by omega), List.take_of_length_le (by rw [sh_len]; omega)] at ht
    subst ht
    have := told_f (sh (2 ^ (n.toNat % 32)) a) (sh_lim _ a) (by rw [sh_len]; omega)
    rw [V_sh _ _ hD hE hB a ha] at this
    exact Ev.step (fun k => by simp only [nat_Shr.l0]; rfl) (Ev.neg (by omega) (Ev.bind this (Ev.const rfl)))
  | succ d ih =>
    intro i out hi ho ht
    have hlt : i < a.length := by omega
    have hg := ha.get i hlt
    have hnext : ∀ v : Int, v = (sh (2 ^ (n.toNat % 32)) a)[i]'(by rw [sh_len]; exact hlt) → (out.set i v).take (i + 1) = (sh (2 ^ (n.toNat % 32)) a).take (i + 1) := by
      intro v hv
      rw [take_set _ _ _ (by omega), ht, hv, ← List.take_succ_eq_append_getElem]
    refine Ev.step (fun k => by simp only [nat_Shr.l0]; rfl) (Ev.pos (by omega) (Ev.pos (by omega) (Ev.pos (by omega) ?_)))
    rw [rd_get a i hlt, wrap_id (x := (i : Int) + 1) (by omega) (by omega), tmod32 n hn, shr64 _ _ (Nat.mod_lt _ (by decide)), shr64 _ _ (Nat.mod_lt _ (by decide)), Int.toNat_natCast, u64_id (n := a[i]) (by omega) (by omega)]
    by_cases h1 : i + 1 < a.length
    · have hg1 := ha.get (i + 1) h1
      rw [show (i : Int) + 1 = ((i + 1 : Nat) : Int) by omega, rd_get a (i + 1) h1, u64_id (n := a[i + 1]) (by omega) (by omega), u64_id (n := a[i + 1] * 4294967296) (by omega) (by omega), or64h _ _ hg.1 hg.2 hg1.1 hg1.2]
      refine Ev.pos (by omega) (Ev.pos (by omega) (Ev.pos (by omega) (Ev.pos (by omega) (ih (i + 1) _ (by omega) (by simp [ho]) (hnext _ ?_)))))
      rw [sh_get, lim_in a i hlt, lim_in a (i + 1) h1]
    · rw [show (i : Int) + 1 = ((i + 1 : Nat) : Int) by omega]
      refine Ev.neg (by omega) (Ev.pos (by omega) (Ev.pos (by omega) (ih (i + 1) _ (by omega) (by simp [ho]) (hnext _ ?_))))
      rw [sh_get, lim_in a i hlt, lim_out a (i + 1) (by omega)]
      simp
def shrA (a : List Int) (n : Int) : List Int × Int := if short [a] then (if n < 0 then ([], 1) else (enc (V a / 2 ^ n.toNat), 0)) else ([], 2)
theorem drop_div (a : List Int) (ha : Lim a) (q : Nat) (h : q ≤ a.length) : V (a.drop q) = V a / 4294967296 ^ q := by
  have e := V_split a q h
  have h1 := V_lt (ha.take q)
  rw [List.length_take, Nat.min_eq_left h] at h1
  have h2 := V_nonneg (ha.take q)
  exact (div_of (n := V a) (r := V (a.take q)) (by rw [e]; omega) h2 h1).symm
theorem div_split (v : Int) (n : Nat) : v / 4294967296 ^ (n / 32) / 2 ^ (n % 32) = v / 2 ^ n := by
  rw [Int.ediv_ediv_of_nonneg (Int.le_of_lt (Int.pow_pos (by decide))), pow_split]
theorem shr_f (a : List Int) (n : Int) (ha : okL a) (hn : n ≤ 9223372036854775807) : Ev (fun k => nat_Shr.f k a n) (shrA a n) := by
  refine Ev.congr (fun k => by unfold nat_Shr.f; rfl) (Ev.bind (fits_f [a] (fun x hx => by simp at hx; exact hx ▸ ha) (by simp)) ?_)
  have hv := V_nonneg ha.1
  unfold shrA
  by_cases h : short [a]
  · rw [if_pos h]
    refine Ev.pos (by simpa using h) ?_
    have hs := h a (by simp)
    by_cases h1 : n < 0
    · rw [if_pos h1]; exact Ev.pos h1 (Ev.const rfl)
    · rw [if_neg h1]
      have htl : (trimL a).length ≤ 4096 := by rw [len_trim ha.1]; exact hs
      refine Ev.neg h1 (Ev.bind (trim_f a (by have := ha.2; omega)) ?_)
      rw [tdiv32 n (by omega), wrap_id (by omega) (by omega), Int.toNat_natCast]
      by_cases h2 : (trimL a).length ≤ n.toNat / 32
      · refine Ev.pos (by omega) (Ev.const ?_)
        have hz : V a / 2 ^ n.toNat = 0 := by
          apply Int.ediv_eq_zero_of_lt hv
          have h3 := V_lt ha.1.trim
          rw [V_trim, pow32] at h3
          have h4 : (2 : Int) ^ (32 * (trimL a).length) ≤ 2 ^ n.toNat := by
            have h := Nat.pow_le_pow_right (n := 2) (by decide) (show 32 * (trimL a).length ≤ n.toNat by omega)
            have h2 : ((2 ^ (32 * (trimL a).length) : Nat) : Int) ≤ ((2 ^ n.toNat : Nat) : Int) := Int.ofNat_le.2 h
            rw [Int.natCast_pow, Int.natCast_pow] at h2
            exact h2
          omega
        rw [hz, enc_zero]
      · refine Ev.neg (by omega) (Ev.pos (by omega) (Ev.pos (by omega) (Ev.pre rfl ?_)))
        have hd : ((trimL a).drop (n.toNat / 32)).length = (trimL a).length - n.toNat / 32 := by simp
        refine Ev.pos (by omega) (Ev.pos (by omega) ?_)
        have := shr_l0 ((trimL a).drop (n.toNat / 32)) (ha.1.trim.drop _) n (by omega) (by omega) ((trimL a).drop (n.toNat / 32)).length 0 (List.replicate ((trimL a).drop (n.toNat / 32)).length 0) (by omega) (by simp) (by simp)
        rw [drop_div _ ha.1.trim _ (by omega), V_trim, div_split] at this
        refine Ev.res this ?_
        have hl : len (V a / 2 ^ n.toNat) ≤ len (V a) := len_mono (Int.ediv_nonneg hv (Int.le_of_lt (Int.pow_pos (by decide)))) (Int.ediv_le_self _ hv)
        rw [ans, if_pos (by omega)]
  · rw [if_neg h]
    exact Ev.neg (by simpa using h) (Ev.const rfl)
theorem mul_step (W P lo hi o c x y : Int) (e : c + o + x * y = lo + 4294967296 * hi) : W + P * (lo - o) + hi * (P * 4294967296) = W + c * P + P * (x * y) := by grind
theorem mul_bd {c o x y : Int} (c0 : 0 ≤ c) (c1 : c < 4294967296) (o0 : 0 ≤ o) (o1 : o < 4294967296) (x0 : 0 ≤ x) (x1 : x < 4294967296) (y0 : 0 ≤ y) (y1 : y < 4294967296) : 0 ≤ x * y ∧ x * y ≤ 18446744065119617025 ∧ 0 ≤ c + o + x * y ∧ c + o + x * y < 18446744073709551616 := by
  have h1 : 0 ≤ x * y := Int.mul_nonneg x0 y0
  have h2 : x * y ≤ 4294967295 * 4294967295 := Int.mul_le_mul (by omega) (by omega) y0 (by decide)
  omega
theorem mul_l1 (b a : List Int) (hb : Lim b) (i : Nat) (hi : i < a.length) (x : Int) (x0 : 0 ≤ x) (x1 : x < 4294967296) (r : List Int × Int) (S : Int) (hla : a.length ≤ 4096) (hlb : b.length ≤ 4096)
    (cont : ∀ out : List Int, Lim out → out.length = a.length + b.length → (∀ j, i + 1 + b.length ≤ j → lim out j = 0) → V out = S → Ev (fun k => nat_Mul.l0 k b out a (a.length : Int) ((i : Int) + 1)) r) :
    ∀ (d m : Nat) (out : List Int) (c : Int), m + d = b.length → out.length = a.length + b.length → Lim out → (∀ j, i + b.length ≤ j → lim out j = 0) → 0 ≤ c → c < 4294967296 →
      V out + c * 4294967296 ^ (i + m) + x * 4294967296 ^ (i + m) * V (b.drop m) = S →
      Ev (fun k => nat_Mul.l1 k b out (i : Int) x c a (a.length : Int) (i : Int) b (b.length : Int) (m : Int)) r := by
  intro d
  induction d with
  | zero =>
    intro m out c hm ho hlo hz c0 c1 hV
    have hmb : m = b.length := by omega
    subst hmb
    have hlt : i + b.length < out.length := by omega
    have hz0 := hz (i + b.length) (Nat.le_refl _)
    rw [lim_in out _ hlt] at hz0
    refine Ev.step (fun k => by simp only [nat_Mul.l1]; rfl) (Ev.neg (by omega) ?_)
    rw [wrap_id (x := (i : Int) + (b.length : Int)) (by omega) (by omega), wrap_id (x := (i : Int) + 1) (by omega) (by omega), show c % 4294967296 = c by omega, show ((i : Int) + (b.length : Int)).toNat = i + b.length by omega]
    refine Ev.pos (by omega) (Ev.pos (by omega) (cont _ (hlo.set _ _ c0 c1) (by simp [ho]) (fun j hj => ?_) ?_))
    · unfold lim
      rw [List.getD_eq_getElem?_getD, List.getElem?_set_ne (by omega)]
      have := hz j (by omega)
      unfold lim at this
      rwa [List.getD_eq_getElem?_getD] at this
    · rw [V_set out _ c hlt, hz0, ← hV, List.drop_eq_nil_of_le (Nat.le_refl _)]
      simp only [V, Int.sub_zero]
      rw [Int.mul_comm c]
      omega
  | succ d ih =>
    intro m out c hm ho hlo hz c0 c1 hV
    have hmb : m < b.length := by omega
    have hlt : i + m < out.length := by omega
    have ho' := hlo.get (i + m) hlt
    have hb' := hb.get m hmb
    have bd := mul_bd c0 c1 ho'.1 ho'.2 x0 x1 hb'.1 hb'.2
    refine Ev.step (fun k => by simp only [nat_Mul.l1]; rfl) (Ev.pos (by omega) (Ev.pos (by omega) (Ev.pos (by omega) ?_)))
    rw [wrap_id (x := (i : Int) + (m : Int)) (by omega) (by omega), wrap_id (x := (m : Int) + 1) (by omega) (by omega), rd_get b m hmb, show (i : Int) + (m : Int) = ((i + m : Nat) : Int) by omega, rd_get out (i + m) hlt, Int.toNat_natCast]
    refine Ev.pos (by omega) (Ev.pos (by omega) ?_)
    rw [u64_id (n := x) (by omega) (by omega), u64_id (n := b[m]) (by omega) (by omega), u64_id (n := out[i + m]) (by omega) (by omega), u64_id (n := x * b[m]) (by omega) (by omega), u64_id (n := c + out[i + m]) (by omega) (by omega), u64_id (n := c + out[i + m] + x * b[m]) (by omega) (by omega)]
    refine Ev.pre (low_f _ (by omega)) ?_
    simp only
    have := ih (m + 1) (out.set (i + m) ((c + out[i + m] + x * b[m]) % 4294967296)) ((c + out[i + m] + x * b[m]) / 4294967296) (by omega) (by simp [ho]) (hlo.set _ _ (by omega) (by omega)) (fun j hj => ?_) (by omega) (by omega) ?_
    · exact this
    · unfold lim
      rw [List.getD_eq_getElem?_getD, List.getElem?_set_ne (by omega)]
      have := hz j hj
      unfold lim at this
      rwa [List.getD_eq_getElem?_getD] at this
    · rw [V_set out _ _ hlt, show i + (m + 1) = (i + m) + 1 by omega, Int.pow_succ]
      rw [V_drop b m hmb] at hV
      have e : c + out[i + m] + x * b[m] = (c + out[i + m] + x * b[m]) % 4294967296 + 4294967296 * ((c + out[i + m] + x * b[m]) / 4294967296) := by omega
      have hs := mul_step (V out) ((4294967296 : Int) ^ (i + m)) _ _ _ _ _ _ e
      rw [hs, ← hV]
      generalize (4294967296 : Int) ^ (i + m) = P
      generalize V (b.drop (m + 1)) = R
      grind
theorem mul_l0 (b a : List Int) (hb : Lim b) (ha : Lim a) (hla : a.length ≤ 4096) (hlb : b.length ≤ 4096) : ∀ (d i : Nat) (out : List Int), i + d = a.length → out.length = a.length + b.length → Lim out → (∀ j, i + b.length ≤ j → lim out j = 0) →
    V out + 4294967296 ^ i * V (a.drop i) * V b = V a * V b → Ev (fun k => nat_Mul.l0 k b out a (a.length : Int) (i : Int)) (ans (V a * V b)) := by
  intro d
  induction d with
  | zero =>
    intro i out hi ho hlo _ hV
    refine Ev.step (fun k => by simp only [nat_Mul.l0]; rfl) (Ev.neg (by omega) ?_)
    refine Ev.bind (told_f out hlo (by omega)) (Ev.const ?_)
    rw [List.drop_eq_nil_of_le (by omega)] at hV
    simp only [V, Int.mul_zero, Int.zero_mul, Int.add_zero] at hV
    rw [hV]
  | succ d ih =>
    intro i out hi ho hlo hz hV
    have hlt : i < a.length := by omega
    have hg := ha.get i hlt
    refine Ev.step (fun k => by simp only [nat_Mul.l0]; rfl) (Ev.pos (by omega) (Ev.pos (by omega) (Ev.pos (by omega) ?_)))
    rw [rd_get a i hlt]
    refine mul_l1 b a hb i hlt a[i] hg.1 hg.2 _ (V out + a[i] * 4294967296 ^ i * V b) hla hlb (fun o h1 h2 h3 h4 => ?_) b.length 0 out 0 (by omega) ho hlo hz (by omega) (by omega) ?_
    · refine ih (i + 1) o (by omega) h2 h1 h3 ?_
      rw [h4, ← hV, V_drop a i hlt, Int.pow_succ]
      generalize (4294967296 : Int) ^ i = P
      generalize V (a.drop (i + 1)) = R
      generalize V b = Y
      grind
    · simp
def mulA (a b : List Int) : List Int × Int := if short [a, b] then ans (V a * V b) else ([], 2)
theorem mul_f (a b : List Int) (ha : okL a) (hb : okL b) : Ev (fun k => nat_Mul.f k a b) (mulA a b) := by
  refine Ev.congr (fun k => by unfold nat_Mul.f; rfl) (Ev.bind (fits_f [a, b] (fun x hx => by simp at hx; rcases hx with rfl | rfl <;> assumption) (by simp)) ?_)
  by_cases h : short [a, b]
  · refine Ev.pos (by simpa using h) (Ev.bind (trim_f a (by have := ha.2; omega)) (Ev.bind (trim_f b (by have := hb.2; omega)) ?_))
    have h1 : (trimL a).length ≤ 4096 := by rw [len_trim ha.1]; exact h a (by simp)
    have h2 : (trimL b).length ≤ 4096 := by rw [len_trim hb.1]; exact h b (by simp)
    rw [wrap_id (x := ((trimL a).length : Int) + ((trimL b).length : Int)) (by omega) (by omega), show (((trimL a).length : Int) + ((trimL b).length : Int)).toNat = (trimL a).length + (trimL b).length by omega]
    refine Ev.pos (by omega) (Ev.pos (by omega) ?_)
    have := mul_l0 (trimL b) (trimL a) hb.1.trim ha.1.trim h1 h2 (trimL a).length 0 (List.replicate ((trimL a).length + (trimL b).length) 0) (by omega) (by simp) (Lim.zeros _) (fun j _ => ?_) ?_
    · rw [V_trim, V_trim] at this
      refine Ev.res this ?_
      rw [mulA, if_pos h]
    · unfold lim
      by_cases hj : j < (trimL a).length + (trimL b).length
      · rw [List.getD_eq_getElem?_getD, List.getElem?_replicate_of_lt hj]; rfl
      · rw [List.getD_eq_getElem?_getD, List.getElem?_eq_none (by simp; omega)]; rfl
    · rw [V_zeros]
      simp
  · refine Ev.neg (by simpa using h) (Ev.const ?_)
    rw [mulA, if_neg h]
theorem lim_part (a : List Int) (ha : Lim a) (q s t : Nat) (hq : q ≤ a.length) (hst : s + t ≤ 32) : lim a q / 2 ^ s % 2 ^ t = V a / 2 ^ (32 * q + s) % 2 ^ t := by
  have hD : (0 : Int) < 2 ^ s := Int.pow_pos (by decide)
  have e0 : V a / 2 ^ (32 * q + s) = V (a.drop q) / 2 ^ s := by
    rw [drop_div a ha q hq, pow32, Int.pow_add, Int.ediv_ediv_of_nonneg (Int.le_of_lt (Int.pow_pos (by decide)))]
  rw [e0, V_lim a q]
  obtain ⟨z, hz⟩ : ∃ z, V (a.drop (q + 1)) = z := ⟨_, rfl⟩
  rw [hz]
  have e32 : (4294967296 : Int) * z = (2 ^ (32 - s - t) * z * 2 ^ t) * 2 ^ s := by
    have : (4294967296 : Int) = 2 ^ (32 - s - t) * 2 ^ t * 2 ^ s := by
      rw [← Int.pow_add, ← Int.pow_add, show 32 - s - t + t + s = 32 by omega]; decide
    rw [this]; grind
  rw [e32, Int.add_mul_ediv_right _ _ (by omega), Int.add_mul_emod_self_right]
theorem pow256n (i : Nat) : (256 : Int) ^ i = 2 ^ (8 * i) := by
  rw [Int.pow_mul]; rfl
theorem four (i : Nat) : 32 * (i / 4) + 8 * (i % 4) = 8 * i := by omega
theorem td4 (i : Nat) : Int.tdiv (i : Int) 4 = ((i / 4 : Nat) : Int) := by rw [Int.tdiv_eq_ediv_of_nonneg (by omega)]; omega
theorem tm4 (i : Nat) : Int.tmod (i : Int) 4 = ((i % 4 : Nat) : Int) := by rw [Int.tmod_eq_emod_of_nonneg (by omega)]; omega
def lowD : Nat → Int → List Int
  | 0, _ => []
  | i + 1, v => v / 256 ^ i % 256 :: lowD i v
theorem lowD_len : ∀ (n : Nat) (v : Int), (lowD n v).length = n
  | 0, _ => rfl
  | n + 1, v => by simp [lowD, lowD_len n]
theorem lowD_back : ∀ (n : Nat) (v : Int), lowD (n + 1) v = lowD n (v / 256) ++ [v % 256]
  | 0, v => by simp [lowD]
  | n + 1, v => by
    rw [lowD, lowD_back n v, lowD, List.cons_append]
    congr 2
    rw [Int.pow_succ, Int.mul_comm, Int.ediv_ediv_of_nonneg (by decide)]
theorem lowD_bd : ∀ (n : Nat) (v : Int), ∀ x ∈ lowD n v, 0 ≤ x ∧ x < 256
  | 0, _, x, h => by cases h
  | n + 1, v, x, h => by
    rcases List.mem_cons.1 h with rfl | h
    · omega
    · exact lowD_bd n v x h
def nby (v : Int) : Nat := (bl v + 7) / 8
theorem nby_le {v : Int} (h0 : 0 ≤ v) (k : Nat) : nby v ≤ k ↔ v < 256 ^ k := by
  rw [pow256n, ← bl_le h0]; unfold nby; omega
theorem byte_of (a : List Int) (ha : Lim a) (i : Nat) (hi : i / 4 < a.length) : shr .u32 (lim a (i / 4)) ((8 * (i % 4) : Nat) : Int) % 256 = V a / 256 ^ i % 256 := by
  have h9 := shr_small (k := .u32) (x := lim a (i / 4)) (y := ((8 * (i % 4) : Nat) : Int)) rfl (show ((8 * (i % 4) : Nat) : Int) ≤ ((32 : Nat) : Int) by omega)
  rw [← h9, Int.toNat_natCast]
  have := lim_part a ha (i / 4) (8 * (i % 4)) 8 (by omega) (by omega)
  rw [four] at this
  rw [pow256n]
  exact this
theorem set_rep (m : Nat) (L : List Int) (c : Int) : (List.replicate (m + 1) 0 ++ L).set m c = List.replicate m 0 ++ c :: L := by
  rw [List.replicate_succ', List.append_assoc, List.set_append_right _ _ (by simp)]
  simp
theorem bytes_l0 (a : List Int) (ha : Lim a) (n : Nat) (hn : n ≤ 281474976710656) (hla : n ≤ 4 * a.length) : ∀ (d i : Nat), i + d = n → Ev (fun k => nat_Bytes.l0 k a (n : Int) (List.replicate d 0 ++ lowD i (V a)) (n : Int) (i : Int)) (lowD n (V a)) := by
  intro d
  induction d with
  | zero =>
    intro i hi
    have : i = n := by omega
    subst this
    exact Ev.step (fun k => by simp only [nat_Bytes.l0]; rfl) (Ev.neg (by omega) (Ev.const (by simp)))
  | succ d ih =>
    intro i hi
    have hL : (List.replicate (d + 1) 0 ++ lowD i (V a)).length = n := by simp [lowD_len]; omega
    have e1 : wrap64 (Int.tdiv (i : Int) 4) = ((i / 4 : Nat) : Int) := by rw [td4, wrap_id (by omega) (by omega)]
    have e2 : wrap64 (8 * Int.tmod (i : Int) 4) = ((8 * (i % 4) : Nat) : Int) := by rw [tm4, wrap_id (by omega) (by omega)]; omega
    have e3 : wrap64 (wrap64 ((n : Int) - 1) - (i : Int)) = (d : Int) := by rw [wrap_id (x := (n : Int) - 1) (by omega) (by omega), wrap_id (by omega) (by omega)]; omega
    refine Ev.step (fun k => by simp only [nat_Bytes.l0]; rfl) ?_
    rw [e1, e2, e3, hL, rd_lim, byte_of a ha i (by omega), Int.toNat_natCast, set_rep, wrap_id (x := (i : Int) + 1) (by omega) (by omega)]
    refine Ev.pos (by omega) (Ev.pos (by omega) (Ev.pos (by omega) (Ev.pos (by omega) (Ev.pos (by omega) (Ev.pos (by omega) ?_)))))
    exact ih (i + 1) (by omega)
theorem bl_len (a : List Int) (ha : Lim a) : bl (V a) ≤ 32 * a.length := (len_bl (V_nonneg ha)).1 (by rw [← len_trim ha]; exact trim_len a)
theorem bytes_f (a : List Int) (ha : okL a) : Ev (fun k => nat_Bytes.f k a) (lowD (nby (V a)) (V a)) := by
  refine Ev.congr (fun k => by unfold nat_Bytes.f; rfl) (Ev.bind (bits_f a ha) ?_)
  have hl := bl_len a ha.1
  have hs := ha.2
  have e : wrap64 (Int.tdiv (wrap64 ((bl (V a) : Int) + 7)) 8) = (nby (V a) : Int) := by
    have h2 : Int.tdiv ((bl (V a) : Int) + 7) 8 = ((nby (V a) : Nat) : Int) := by rw [Int.tdiv_eq_ediv_of_nonneg (by omega)]; unfold nby; omega
    have h3 : nby (V a) ≤ 281474976710656 := by unfold nby; omega
    rw [wrap_id (x := (bl (V a) : Int) + 7) (by omega) (by omega), h2, wrap_id (by omega) (by omega)]
  have h3 : nby (V a) ≤ 281474976710656 := by unfold nby; omega
  rw [e, Int.toNat_natCast]
  refine Ev.pos (by omega) (Ev.pos h3 (Ev.pre rfl ?_))
  rw [List.length_replicate]
  have := bytes_l0 a ha.1 (nby (V a)) h3 (by unfold nby; omega) (nby (V a)) 0 (by omega)
  simpa [lowD] using this
def beV : List Int → Int
  | [] => 0
  | c :: l => c * 256 ^ l.length + beV l
def Byt (l : List Int) : Prop := ∀ x ∈ l, 0 ≤ x ∧ x < 256
theorem Byt.tail {x : Int} {l : List Int} (h : Byt (x :: l)) : Byt l := fun y hy => h y (by simp [hy])
theorem Byt.drop {l : List Int} (h : Byt l) (n : Nat) : Byt (l.drop n) := fun x hx => h x (List.mem_of_mem_drop hx)
theorem Byt.get {l : List Int} (h : Byt l) (j : Nat) (hj : j < l.length) : 0 ≤ l[j] ∧ l[j] < 256 := h _ (List.getElem_mem hj)
theorem beV_bd : ∀ (l : List Int), Byt l → 0 ≤ beV l ∧ beV l < 256 ^ l.length
  | [], _ => by simp [beV]
  | c :: l, h => by
    have ih := beV_bd l h.tail
    have hc := h c (by simp)
    simp only [beV, List.length_cons, Int.pow_succ]
    have h1 : c * 256 ^ l.length ≤ 255 * 256 ^ l.length := Int.mul_le_mul_of_nonneg_right (by omega) (Int.le_of_lt (Int.pow_pos (by decide)))
    have h2 : 0 ≤ c * 256 ^ l.length := Int.mul_nonneg hc.1 (Int.le_of_lt (Int.pow_pos (by decide)))
    omega
theorem beV_app : ∀ (a b : List Int), beV (a ++ b) = beV a * 256 ^ b.length + beV b
  | [], b => by simp [beV]
  | c :: a, b => by
    simp only [List.cons_append, beV, beV_app a b, List.length_append, Int.pow_add]
    grind
theorem lowD_beV : ∀ (n : Nat) (v : Int), 0 ≤ v → v < 256 ^ n → beV (lowD n v) = v
  | 0, v, h0, h1 => by simp at h1; simp [lowD, beV]; omega
  | n + 1, v, h0, h1 => by
    rw [lowD_back, beV_app, lowD_beV n (v / 256) (by omega) (by rw [Int.pow_succ] at h1; omega)]
    simp [beV]; omega
def dz : List Int → List Int
  | [] => []
  | x :: l => if x = 0 then dz l else x :: l
theorem dz_len : ∀ l : List Int, (dz l).length ≤ l.length
  | [] => by simp [dz]
  | x :: l => by have := dz_len l; simp only [dz]; split <;> simp <;> omega
theorem dz_beV : ∀ l : List Int, beV (dz l) = beV l
  | [] => rfl
  | x :: l => by simp only [dz]; split; rename_i h; rw [dz_beV l]; simp [beV, h]; rfl
theorem lim_small (out : List Int) (ho : Lim out) (q s : Nat) (hq : q < out.length) (h : V out < 2 ^ (32 * q + s)) : lim out q < 2 ^ s := by
  have pos : (0 : Int) < 4294967296 ^ q := Int.pow_pos (by decide)
  have e := V_split out q (by omega)
  rw [V_lim out q] at e
  have h1 := V_nonneg (ho.take q)
  have h2 := V_nonneg (ho.drop (q + 1))
  rcases Int.lt_or_le (lim out q) (2 ^ s) with g | g
  · exact g
  · exfalso
    have h3 : (4294967296 : Int) ^ q * 2 ^ s ≤ 4294967296 ^ q * (lim out q + 4294967296 * V (out.drop (q + 1))) := Int.mul_le_mul_of_nonneg_left (by omega) (by omega)
    rw [Int.pow_add, ← pow32] at h
    omega
theorem pow_mono2 {a b : Nat} (h : a ≤ b) : (2 : Int) ^ a ≤ 2 ^ b := by
  have h := Nat.pow_le_pow_right (n := 2) (by decide) h
  have h2 : ((2 ^ a : Nat) : Int) ≤ ((2 ^ b : Nat) : Int) := Int.ofNat_le.2 h
  rw [Int.natCast_pow, Int.natCast_pow] at h2
  exact h2
theorem shl_byte (c : Int) (c0 : 0 ≤ c) (c1 : c < 256) (s : Nat) (hs : s ≤ 24) : shl .u32 (c % 4294967296) (s : Int) = c * 2 ^ s := by
  unfold shl
  have e : min (s : Int).toNat IntKind.u32.bits = s := by
    have : IntKind.u32.bits = 32 := rfl
    omega
  have h1 : c * 2 ^ s ≤ 255 * 2 ^ s := Int.mul_le_mul_of_nonneg_right (by omega) (Int.le_of_lt (Int.pow_pos (by decide)))
  have h2 : (2 : Int) ^ s ≤ 16777216 := pow_mono2 hs
  have h3 : 0 ≤ c * 2 ^ s := Int.mul_nonneg c0 (Int.le_of_lt (Int.pow_pos (by decide)))
  rw [e, show c % 4294967296 = c by omega, IntKind.wrap_u32]
  omega
def lby (n : Nat) : Nat := (n + 3) / 4
theorem fb_step (out : List Int) (ho : Lim out) (i : Nat) (c : Int) (c0 : 0 ≤ c) (c1 : c < 256) (hi : i / 4 < out.length) (hV : V out < 256 ^ i) :
    Go.bits .or .u32 (lim out (i / 4)) (c * 2 ^ (8 * (i % 4))) = lim out (i / 4) + c * 2 ^ (8 * (i % 4)) ∧ 0 ≤ lim out (i / 4) + c * 2 ^ (8 * (i % 4)) ∧ lim out (i / 4) + c * 2 ^ (8 * (i % 4)) < 4294967296 ∧
      V (out.set (i / 4) (lim out (i / 4) + c * 2 ^ (8 * (i % 4)))) = V out + c * 256 ^ i := by
  have hD : (0 : Int) < 2 ^ (8 * (i % 4)) := Int.pow_pos (by decide)
  have hs := lim_small out ho (i / 4) (8 * (i % 4)) hi (by rw [four, ← pow256n]; exact hV)
  have hg := lim_bd ho (i / 4)
  have h2 : (2 : Int) ^ (8 * (i % 4)) ≤ 16777216 := Int.le_trans (pow_mono2 (a := 8 * (i % 4)) (b := 24) (by omega)) (by decide)
  have h3 : 0 ≤ c * 2 ^ (8 * (i % 4)) := Int.mul_nonneg c0 (by omega)
  have h4 : (c + 1) * 2 ^ (8 * (i % 4)) ≤ 256 * 2 ^ (8 * (i % 4)) := Int.mul_le_mul_of_nonneg_right (by omega) (by omega)
  rw [Int.add_mul, Int.one_mul] at h4
  refine ⟨or32 _ _ (8 * (i % 4)) (by omega) hg.1 hs h3 (by omega) (Int.mul_emod_left _ _), by omega, by omega, ?_⟩
  rw [V_set_lim out _ _ hi, pow256n, ← four i, Int.pow_add, ← pow32]
  grind
theorem fb_nums (n d i : Nat) (hl : n ≤ 16384) (hi : i + (d + 1) = n) :
    wrap64 (Int.tdiv (i : Int) 4) = ((i / 4 : Nat) : Int) ∧ wrap64 (8 * Int.tmod (i : Int) 4) = ((8 * (i % 4) : Nat) : Int) ∧ wrap64 (wrap64 ((n : Int) - 1) - (i : Int)) = (d : Int) ∧ wrap64 ((i : Int) + 1) = ((i + 1 : Nat) : Int) ∧ i / 4 < lby n ∧ d < n ∧ n - (d + 1) = i ∧ (i : Int) < (n : Int) ∧ 8 * (i % 4) ≤ 24 ∧ i + 1 + d = n := by
  refine ⟨?_, ?_, ?_, by rw [wrap_id (by omega) (by omega)]; omega, by unfold lby; omega, by omega, by omega, by omega, by omega, by omega⟩
  · rw [td4, wrap_id (by omega) (by omega)]
  · rw [tm4, wrap_id (by omega) (by omega)]; omega
  · rw [wrap_id (x := (n : Int) - 1) (by omega) (by omega), wrap_id (by omega) (by omega)]; omega
theorem fb_l1 (l : List Int) (hb : Byt l) (hl : l.length ≤ 16384) : ∀ (d i : Nat) (out : List Int), i + d = l.length → out.length = lby l.length → Lim out → V out = beV (l.drop d) →
    ∃ r, Ev (fun k => nat_FromBytes.l1 k l out (l.length : Int) (i : Int)) (r, 0) ∧ Lim r ∧ r.length = lby l.length ∧ V r = beV l := by
  intro d
  induction d with
  | zero =>
    intro i out hi ho hlo hV
    exact ⟨out, Ev.step (fun k => by simp only [nat_FromBytes.l1]; rfl) (Ev.neg (by omega) (Ev.const rfl)), hlo, ho, hV⟩
  | succ d ih =>
    intro i out hi ho hlo hV
    obtain ⟨e1, e2, e3, e4, hq', hd, hni, hlt, h24, hi2⟩ := fb_nums l.length d i hl hi
    have hc := hb.get d hd
    have hq : i / 4 < out.length := by rw [ho]; exact hq'
    have hVb : V out < 256 ^ i := by
      rw [hV]
      have := (beV_bd _ (hb.drop (d + 1))).2
      rwa [List.length_drop, hni] at this
    obtain ⟨g1, g2, g3, g4⟩ := fb_step out hlo i l[d] hc.1 hc.2 hq hVb
    obtain ⟨r, h1, h2⟩ := ih (i + 1) (out.set (i / 4) (lim out (i / 4) + l[d] * 2 ^ (8 * (i % 4)))) hi2 (by rw [List.length_set]; exact ho) (hlo.set _ _ g2 g3) (by
      rw [g4, hV, List.drop_eq_getElem_cons hd, beV, List.length_drop, hni, Int.add_comm])
    refine ⟨r, Ev.step (fun k => by simp only [nat_FromBytes.l1]; rfl) ?_, h2⟩
    rw [e1, e2, e3, e4, rd_lim, rd_lim, lim_in l d hd, shl_byte _ hc.1 hc.2 _ h24, g1, Int.toNat_natCast]
    exact Ev.pos hlt (Ev.pos (Int.natCast_nonneg _) (Ev.pos (Int.ofNat_lt.2 hq) (Ev.pos (Int.natCast_nonneg _) (Ev.pos (Int.ofNat_lt.2 hd) (Ev.pos (Int.natCast_nonneg _) h1)))))
def FbA (l : List Int) (r : List Int × Int) : Prop := if (dz l).length > 16384 then r = ([], 2) else r.2 = 0 ∧ Lim r.1 ∧ r.1.length = lby (dz l).length ∧ V r.1 = beV (dz l)
theorem lby_wrap (n : Nat) (h : n ≤ 16384) : wrap64 (Int.tdiv (wrap64 ((n : Int) + 3)) 4) = (lby n : Int) := by
  have h2 : Int.tdiv ((n : Int) + 3) 4 = ((lby n : Nat) : Int) := by rw [Int.tdiv_eq_ediv_of_nonneg (by omega)]; unfold lby; omega
  have h3 : lby n ≤ 281474976710656 := by unfold lby; omega
  rw [wrap_id (x := (n : Int) + 3) (by omega) (by omega), h2, wrap_id (by omega) (by omega)]
theorem fb_j1 (l : List Int) (hb : Byt l) (h : dz l = l) : ∃ r, Ev (fun k => nat_FromBytes.j1 k l) r ∧ FbA l r := by
  unfold FbA
  rw [h]
  by_cases hl : l.length > 16384
  · exact ⟨([], 2), Ev.step (fun k => by simp only [nat_FromBytes.j1]; rfl) (Ev.pos (by omega) (Ev.const rfl)), by rw [if_pos hl]⟩
  · obtain ⟨r, h1, h2, h3, h4⟩ := fb_l1 l hb (by omega) l.length 0 (List.replicate (lby l.length) 0) (by omega) (by simp) (Lim.zeros _) (by rw [V_zeros, List.drop_length]; rfl)
    refine ⟨(r, 0), Ev.step (fun k => by simp only [nat_FromBytes.j1]; rfl) (Ev.neg (by omega) ?_), by rw [if_neg hl]; exact ⟨rfl, h2, h3, h4⟩⟩
    rw [lby_wrap _ (by omega), Int.toNat_natCast]
    have : lby l.length ≤ 16384 := by unfold lby; omega
    exact Ev.pos (by omega) (Ev.pos (by omega) h1)
theorem fb_l0 : ∀ (l : List Int), Byt l → l.length ≤ 140737488355327 → ∃ r, Ev (fun k => nat_FromBytes.l0 k l) r ∧ FbA l r
  | [], hb, _ => by
    obtain ⟨r, h1, h2⟩ := fb_j1 [] hb rfl
    exact ⟨r, Ev.step (fun k => by simp only [nat_FromBytes.l0]; rfl) (Ev.neg (by simp) h1), h2⟩
  | x :: l, hb, hl => by
    by_cases hx : x = 0
    · obtain ⟨r, h1, h2⟩ := fb_l0 l hb.tail (by simp at hl; omega)
      refine ⟨r, Ev.step (fun k => by simp only [nat_FromBytes.l0]; rfl) (Ev.pos (by simp only [List.length_cons]; omega) (Ev.pos (by simp only [List.length_cons]; omega) (Ev.pos (by simpa [rd] using hx) (Ev.pos (by simp only [List.length_cons]; omega) h1)))), ?_⟩
      unfold FbA at h2 ⊢
      simpa only [dz, if_pos hx] using h2
    · obtain ⟨r, h1, h2⟩ := fb_j1 (x :: l) hb (by simp only [dz, if_neg hx])
      exact ⟨r, Ev.step (fun k => by simp only [nat_FromBytes.l0]; rfl) (Ev.pos (by simp only [List.length_cons]; omega) (Ev.pos (by simp only [List.length_cons]; omega) (Ev.neg (by simpa [rd] using hx) h1))), h2⟩
theorem fb_f (l : List Int) (hb : Byt l) (hl : l.length ≤ 140737488355327) : ∃ r, Ev (fun k => nat_FromBytes.f k l) r ∧ FbA l r := by
  obtain ⟨r, h1, h2⟩ := fb_l0 l hb hl
  exact ⟨r, Ev.congr (fun k => by unfold nat_FromBytes.f; rfl) h1, h2⟩
def dsmA (a : List Int) (d : Int) : List Int × Int × Int := if short [a] then (if d = 0 then ([], 0, 1) else (enc (V a / d), V a % d, 0)) else ([], 0, 2)
theorem div32_f (r x d : Int) (r0 : 0 ≤ r) (r1 : r < d) (x0 : 0 ≤ x) (x1 : x < 4294967296) (d1 : d < 4294967296) : bits_Div32.f r x d = some ((r * 4294967296 + x) / d, (r * 4294967296 + x) % d) := by
  have hor : Go.bits .or .u64 (IntKind.u64.wrap (r * 4294967296)) x = r * 4294967296 + x := by
    rw [u64_id (by omega) (by omega)]
    exact bits_join .u64 64 (by decide) (fun n h0 h1 => u64_id h0 h1) 32 _ _ (by omega) (by omega) (by omega) x0 x1 (by omega)
  have h0 : 0 ≤ (r * 4294967296 + x) / d := Int.ediv_nonneg (by omega) (by omega)
  have h1 : (r * 4294967296 + x) / d < 4294967296 := by
    rw [Int.ediv_lt_iff_lt_mul (by omega)]
    have : (r + 1) * 4294967296 ≤ d * 4294967296 := Int.mul_le_mul_of_nonneg_right (by omega) (by decide)
    omega
  have h2 := Int.emod_nonneg (r * 4294967296 + x) (show d ≠ 0 by omega)
  have h3 := Int.emod_lt_of_pos (r * 4294967296 + x) (show 0 < d by omega)
  unfold bits_Div32.f
  rw [if_neg (by omega), if_neg (by omega), u64_id (n := r) (by omega) (by omega), u64_id (n := x) (by omega) (by omega), u64_id (n := d) (by omega) (by omega), hor, if_neg (by omega), Int.tdiv_eq_ediv_of_nonneg (by omega), Int.tmod_eq_emod_of_nonneg (by omega), u64_id (n := (r * 4294967296 + x) / d) h0 (by omega), show (r * 4294967296 + x) / d % 4294967296 = (r * 4294967296 + x) / d by omega, show (r * 4294967296 + x) % d % 4294967296 = (r * 4294967296 + x) % d by omega]
theorem horner (a Q R x d : Int) (hR : a = d * Q + R) (_hd : 0 < d) : x + 4294967296 * a = d * ((R * 4294967296 + x) / d + 4294967296 * Q) + (R * 4294967296 + x) % d := by
  have h := Int.mul_ediv_add_emod (R * 4294967296 + x) d
  have h3 : x + 4294967296 * (d * Q + R) = (R * 4294967296 + x) + 4294967296 * d * Q := by grind
  rw [hR, h3, Int.mul_add]
  have h2 : d * (4294967296 * Q) = 4294967296 * d * Q := by grind
  omega
theorem quo_of {a d q r : Int} (h : a = d * q + r) (r0 : 0 ≤ r) (r1 : r < d) : a / d = q ∧ a % d = r := by
  have hd : 0 < d := by omega
  have e1 : a / d = q := div_of h r0 r1
  refine ⟨e1, ?_⟩
  have := Int.emod_def a d
  rw [this, e1]; omega
theorem dsm_l0 (a : List Int) (ha : Lim a) (d : Int) (d0 : 0 < d) (d1 : d < 4294967296) (hla : a.length ≤ 4096) : ∀ (i : Nat) (out : List Int) (r : Int), i ≤ a.length → out.length = a.length → Lim out → out.take i = a.take i → 0 ≤ r → r < d → V (a.drop i) = d * V (out.drop i) + r →
    Ev (fun k => nat_DivSmall.l0 k d out r ((i : Int) - 1)) (enc (V a / d), V a % d, 0) := by
  intro i
  induction i with
  | zero =>
    intro out r hi ho hlo ht r0 r1 hV
    simp only [List.drop_zero] at hV
    obtain ⟨e1, e2⟩ := quo_of hV r0 r1
    have hs : len (V out) ≤ 4096 := by
      have := trim_len out
      rw [len_trim hlo] at this
      omega
    refine Ev.step (fun k => by simp only [nat_DivSmall.l0]; rfl) (Ev.neg (by omega) (Ev.bind (told_f out hlo (by omega)) (Ev.const ?_)))
    rw [ans, if_pos hs, e1, e2]
  | succ i ih =>
    intro out r hi ho hlo ht r0 r1 hV
    have hia : i < a.length := by omega
    have hio : i < out.length := by omega
    have hx : lim out i = lim a i := by
      rw [lim_in out i hio, lim_in a i hia]
      have h1 := List.getElem_of_eq ht (i := i) (by simp; omega)
      simpa using h1
    have gx := lim_bd ha i
    have hq0 : 0 ≤ (r * 4294967296 + lim a i) / d := Int.ediv_nonneg (by omega) (by omega)
    have hq1 : (r * 4294967296 + lim a i) / d < 4294967296 := by
      rw [Int.ediv_lt_iff_lt_mul d0]
      have : (r + 1) * 4294967296 ≤ d * 4294967296 := Int.mul_le_mul_of_nonneg_right (by omega) (by decide)
      omega
    have e : (((i + 1 : Nat) : Int) - 1) = (i : Int) := by omega
    refine Ev.step (fun k => by simp only [nat_DivSmall.l0]; rfl) ?_
    rw [e, rd_lim, hx, wrap_id (x := (i : Int) - 1) (by omega) (by omega), Int.toNat_natCast]
    refine Ev.pos (by omega) (Ev.pos (by omega) (Ev.pos (by omega) (Ev.pre (div32_f r (lim a i) d r0 r1 gx.1 gx.2 d1) ?_)))
    refine ih (out.set i ((r * 4294967296 + lim a i) / d)) ((r * 4294967296 + lim a i) % d) (by omega) (by simp [ho]) (hlo.set _ _ hq0 hq1) ?_ (Int.emod_nonneg _ (by omega)) (Int.emod_lt_of_pos _ d0) ?_
    · rw [List.take_set_of_le (by omega)]
      have := congrArg (List.take i) ht
      rwa [List.take_take, List.take_take, Nat.min_eq_left (by omega)] at this
    · rw [V_lim a i, V_lim (out.set i _) i, List.drop_set_of_lt (by omega), lim_in (out.set i ((r * 4294967296 + lim a i) / d)) i (by simp; omega), List.getElem_set_self]
      exact horner _ _ _ _ _ hV d0
theorem dsm_f (a : List Int) (d : Int) (ha : okL a) (d0 : 0 ≤ d) (d1 : d < 4294967296) : Ev (fun k => nat_DivSmall.f k a d) (dsmA a d) := by
  refine Ev.congr (fun k => by unfold nat_DivSmall.f; rfl) (Ev.bind (fits_f [a] (fun x hx => by simp at hx; exact hx ▸ ha) (by simp)) ?_)
  by_cases h : short [a]
  · refine Ev.pos (by simpa using h) ?_
    by_cases hd : d = 0
    · exact Ev.pos hd (Ev.const (by rw [dsmA, if_pos h, if_pos hd]))
    · refine Ev.neg hd (Ev.bind (trim_f a (by have := ha.2; omega)) (Ev.pre (clone_f _ (by have := okL_trim' ha; omega)) ?_))
      have hl : (trimL a).length ≤ 4096 := by rw [len_trim ha.1]; exact h a (by simp)
      rw [wrap_id (x := ((trimL a).length : Int) - 1) (by omega) (by omega)]
      have := dsm_l0 (trimL a) ha.1.trim d (by omega) d1 hl (trimL a).length (trimL a) 0 (Nat.le_refl _) rfl ha.1.trim rfl (by omega) (by omega) (by simp [V])
      rw [V_trim] at this
      exact Ev.res this (by rw [dsmA, if_pos h, if_neg hd])
  · exact Ev.neg (by simpa using h) (Ev.const (by rw [dsmA, if_neg h]))
def decL (v : Int) : List Int := if h : v ≤ 0 then [] else (48 + v % 10) :: decL (v / 10)
termination_by v.toNat
decreasing_by omega
theorem decL_zero : decL 0 = [] := by unfold decL; rfl
theorem decL_pos {v : Int} (h : 0 < v) : decL v = (48 + v % 10) :: decL (v / 10) := by rw [decL, dif_neg (by omega)]
theorem decL_len : ∀ (k : Nat) (v : Int), 0 ≤ v → v < 2 ^ k → (decL v).length ≤ k
  | 0, v, h0, h1 => by
    rw [Int.pow_zero] at h1
    rw [show v = 0 by omega, decL_zero]; simp
  | k + 1, v, h0, h1 => by
    rw [Int.pow_succ] at h1
    by_cases h : v = 0
    · rw [h, decL_zero]; simp
    · rw [decL_pos (by omega), List.length_cons]
      have := decL_len k (v / 10) (by omega) (by omega)
      omega
theorem decL_bd : ∀ (m : Nat) (v : Int), v.toNat ≤ m → ∀ x ∈ decL v, 48 ≤ x ∧ x ≤ 57
  | 0, v, h, x, hx => by rw [decL, dif_pos (by omega)] at hx; cases hx
  | m + 1, v, h, x, hx => by
    by_cases h0 : v ≤ 0
    · rw [decL, dif_pos h0] at hx; cases hx
    · rw [decL_pos (by omega)] at hx
      rcases List.mem_cons.1 hx with rfl | hx
      · omega
      · exact decL_bd m (v / 10) (by omega) x hx
theorem dec_split (A r d10 q : Int) (hA : A = q * d10) : q * (d10 * 10) + r = A * 10 + r := by rw [hA]; grind
theorem dec_step (q r : Int) (d : Nat) (_q0 : 0 ≤ q) (_r0 : 0 ≤ r) (hN : 0 < q * 10 ^ (d + 1) + r) : decL (q * 10 ^ (d + 1) + r) = (48 + r % 10) :: decL (q * 10 ^ d + r / 10) := by
  obtain ⟨A, hA⟩ : ∃ A, q * 10 ^ d = A := ⟨_, rfl⟩
  have e : q * 10 ^ (d + 1) + r = A * 10 + r := by rw [Int.pow_succ]; exact dec_split A r _ q hA.symm
  rw [e] at hN ⊢
  rw [decL_pos hN, hA, show (A * 10 + r) % 10 = r % 10 by omega, show (A * 10 + r) / 10 = A + r / 10 by omega]
theorem pow10_9 (d : Nat) (h : d ≤ 9) : (10 : Int) ^ d ≤ 1000000000 := by
  have h := Nat.pow_le_pow_right (n := 10) (by decide) h
  have h2 : ((10 ^ d : Nat) : Int) ≤ ((10 ^ 9 : Nat) : Int) := Int.ofNat_le.2 h
  rw [Int.natCast_pow] at h2
  exact h2
theorem enc_len_pos {q : Int} (h : 0 < q) : 0 < (enc q).length := by rw [enc_pos h]; simp
theorem dg_nums (d : Nat) (h : d + 1 ≤ 9) (r : Int) (r0 : 0 ≤ r) (r1 : r < 10 ^ (d + 1)) :
    (48 + Int.tmod r 10) % 256 = 48 + r % 10 ∧ Int.tdiv r 10 % 4294967296 = r / 10 ∧ wrap64 (((9 - (d + 1) : Nat) : Int) + 1) = ((9 - d : Nat) : Int) ∧ ((9 - (d + 1) : Nat) : Int) < 9 ∧ 0 ≤ r / 10 ∧ r / 10 < 10 ^ d := by
  have h9 := pow10_9 (d + 1) h
  rw [Int.pow_succ] at r1 h9
  rw [Int.tmod_eq_emod_of_nonneg r0, Int.tdiv_eq_ediv_of_nonneg r0]
  exact ⟨by omega, by omega, by rw [wrap_id (by omega) (by omega)]; omega, by omega, by omega, by omega⟩
theorem dg_l1 (total : List Int) (hT : total.length ≤ 200000) (res : ByteArray × Int) (q : Int) (q0 : 0 ≤ q) (cont : ∀ out, out ++ decL q = total → Ev (fun k => nat_Digits.l0 k (enc q) out) res) :
    ∀ (d : Nat) (r : Int) (out : List Int), d ≤ 9 → 0 ≤ r → r < 10 ^ d → out ++ decL (q * 10 ^ d + r) = total → Ev (fun k => nat_Digits.l1 k (enc q) out r ((9 - d : Nat) : Int)) res := by
  intro d
  induction d with
  | zero =>
    intro r out _ r0 r1 ho
    rw [Int.pow_zero] at r1
    rw [show r = 0 by omega, Int.pow_zero, Int.mul_one, Int.add_zero] at ho
    exact Ev.step (fun k => by simp only [nat_Digits.l1]; rfl) (Ev.neg (by omega) (cont out ho))
  | succ d ih =>
    intro r out hd r0 r1 ho
    obtain ⟨e1, e2, e3, e4, g0, g1⟩ := dg_nums d hd r r0 r1
    have app : 0 < q * 10 ^ (d + 1) + r → out.length < 140737488355328 ∧ Ev (fun k => nat_Digits.l1 k (enc q) (out ++ [48 + r % 10]) (r / 10) ((9 - d : Nat) : Int)) res := by
      intro hN
      rw [dec_step q r d q0 r0 hN] at ho
      have hl : out.length ≤ total.length := by rw [← ho]; simp
      exact ⟨by omega, ih (r / 10) (out ++ [48 + r % 10]) (by omega) g0 g1 (by rw [List.append_assoc]; exact ho)⟩
    have hq : 0 ≤ q * 10 ^ (d + 1) := Int.mul_nonneg q0 (Int.le_of_lt (Int.pow_pos (by decide)))
    refine Ev.step (fun k => by simp only [nat_Digits.l1]; rfl) ?_
    rw [e1, e2, e3]
    refine Ev.pos e4 ?_
    by_cases hr : r > 0
    · obtain ⟨h1, h2⟩ := app (by omega)
      exact Ev.pos hr (Ev.pos h1 h2)
    · refine Ev.neg hr ?_
      by_cases hq0 : 0 < q
      · have hp := enc_len_pos hq0
        have : 0 < q * 10 ^ (d + 1) := Int.mul_pos hq0 (Int.pow_pos (by decide))
        obtain ⟨h1, h2⟩ := app (by omega)
        exact Ev.pos (by omega) (Ev.pos h1 h2)
      · have hz : q = 0 := by omega
        have hz2 : q * 10 ^ (d + 1) + r = 0 := by rw [hz]; simp; omega
        rw [hz2, decL_zero] at ho
        refine Ev.neg (by rw [hz, enc_zero]; simp) (cont out ?_)
        rw [hz, decL_zero]; exact ho
theorem rev_end (l x : List Int) (i : Nat) (hx : x.length = l.length) (h : ∀ p, p < l.length → x.getD p 0 = if p < i ∨ l.length ≤ p + i then l.getD (l.length - 1 - p) 0 else l.getD p 0) (hi : l.length ≤ 2 * i + 1) : x = l.reverse := by
  apply List.ext_getElem (by rw [List.length_reverse]; exact hx)
  intro p h1 h2
  have hp : p < l.length := by omega
  have := h p hp
  rw [List.getElem_reverse]
  rw [List.getD_eq_getElem?_getD, List.getElem?_eq_getElem h1] at this
  have hg : ∀ j (hj : j < l.length), l.getD j 0 = l[j] := fun j hj => by rw [List.getD_eq_getElem?_getD, List.getElem?_eq_getElem hj]; rfl
  split at this
  · rw [hg _ (by omega)] at this; exact this
  · rename_i hc
    rw [hg _ hp] at this
    have e : l.length - 1 - p = p := by omega
    simp only [e]
    exact this
theorem rev_nums (n i : Nat) (hn : n ≤ 200000) (h : 2 * i + 1 < n) : ((n : Int) - 1 - (i : Int)) = ((n - 1 - i : Nat) : Int) ∧ wrap64 ((i : Int) + 1) = ((i + 1 : Nat) : Int) ∧ wrap64 ((n : Int) - 1 - (i : Int) - 1) = (n : Int) - 1 - ((i + 1 : Nat) : Int) ∧ (i : Int) < (n : Int) - 1 - (i : Int) ∧ n - 1 - i < n ∧ i < n ∧ i < n - 1 - i := by
  refine ⟨by omega, ?_, ?_, by omega, by omega, by omega, by omega⟩
  · rw [wrap_id (by omega) (by omega)]; omega
  · rw [wrap_id (by omega) (by omega)]; omega
theorem rev_l0 (l : List Int) (hl : l.length ≤ 200000) : ∀ (d i : Nat) (x : List Int), l.length ≤ 2 * i + d → x.length = l.length → (∀ p, p < l.length → x.getD p 0 = if p < i ∨ l.length ≤ p + i then l.getD (l.length - 1 - p) 0 else l.getD p 0) →
    Ev (fun k => slices_Reverse_byte_byte.l0 k x (i : Int) ((l.length : Int) - 1 - (i : Int))) l.reverse := by
  intro d
  induction d with
  | zero =>
    intro i x hd hx h
    exact Ev.step (fun k => by simp only [slices_Reverse_byte_byte.l0]; rfl) (Ev.neg (by omega) (Ev.const (by rw [rev_end l x i hx h (by omega)])))
  | succ d ih =>
    intro i x hd hx h
    by_cases hc : 2 * i + 1 < l.length
    · obtain ⟨e1, e2, e3, g1, g2, g3, g4⟩ := rev_nums l.length i hl hc
      refine Ev.step (fun k => by simp only [slices_Reverse_byte_byte.l0]; rfl) ?_
      rw [e2, e3]
      refine Ev.pos g1 ?_
      rw [e1, rd_lim, rd_lim, Int.toNat_natCast, Int.toNat_natCast, hx]
      refine Ev.pos (Int.natCast_nonneg _) (Ev.pos (Int.ofNat_lt.2 g2) (Ev.pos (Int.natCast_nonneg _) (Ev.pos (Int.ofNat_lt.2 g3) ?_)))
      refine ih (i + 1) _ (by omega) (by rw [List.length_set, List.length_set]; exact hx) (fun p hp => ?_)
      have hi := h i g3
      have hj := h (l.length - 1 - i) g2
      rw [if_neg (by omega)] at hi hj
      have hpp := h p hp
      unfold lim
      rw [hi, hj]
      simp only [List.getD_eq_getElem?_getD] at hpp ⊢
      by_cases hpj : l.length - 1 - i = p
      · rw [if_pos (by omega), hpj, List.getElem?_set_self (by rw [List.length_set, hx]; exact hp), Option.getD_some, show l.length - 1 - p = i by omega]
      · rw [List.getElem?_set_ne hpj]
        by_cases hpi : i = p
        · rw [if_pos (by omega), hpi, List.getElem?_set_self (by rw [hx]; exact hp), Option.getD_some]
        · rw [List.getElem?_set_ne hpi, hpp]
          by_cases hq : p < i ∨ l.length ≤ p + i
          · rw [if_pos hq, if_pos (by omega)]
          · rw [if_neg hq, if_neg (by omega)]
    · exact Ev.step (fun k => by simp only [slices_Reverse_byte_byte.l0]; rfl) (Ev.neg (by omega) (Ev.const (by rw [rev_end l x i hx h (by omega)])))
theorem rev_f (l : List Int) (hl : l.length ≤ 200000) : Ev (fun k => slices_Reverse_byte_byte.f k l) l.reverse := by
  refine Ev.congr (fun k => by unfold slices_Reverse_byte_byte.f; rfl) ?_
  have := rev_l0 l hl l.length 0 l (by omega) rfl (fun p hp => by rw [if_neg (by omega)])
  rw [wrap_id (by omega) (by omega)]
  simpa using this
def resD (total : List Int) : ByteArray × Int := (if total = [] then ⟨#[48]⟩ else strOfNums total.reverse, 0)
theorem dg_l0 (total : List Int) (hT : total.length ≤ 200000) : ∀ (m : Nat) (v : Int), v.toNat = m → 0 ≤ v → len v ≤ 4096 → ∀ out, out ++ decL v = total → Ev (fun k => nat_Digits.l0 k (enc v) out) (resD total) := by
  intro m
  induction m using Nat.strongRecOn with
  | _ m ih =>
    intro v hm v0 lv out ho
    by_cases hv : v = 0
    · subst hv
      rw [decL_zero, List.append_nil] at ho
      subst ho
      refine Ev.step (fun k => by simp only [nat_Digits.l0]; rfl) (Ev.neg (by rw [enc_zero]; simp) ?_)
      by_cases hn : out = []
      · exact Ev.pos (by rw [hn]; rfl) (Ev.const (by rw [resD, if_pos hn]))
      · have : 0 < out.length := List.length_pos_iff.2 hn
        exact Ev.neg (by omega) (Ev.bind (rev_f out hT) (Ev.const (by rw [resD, if_neg hn])))
    · have hp := enc_len_pos (q := v) (by omega)
      have sh : short [enc v] := fun x hx => by simp at hx; subst hx; rw [V_enc v0]; exact lv
      have hd := dsm_f (enc v) 1000000000 (okL.enc (by omega)) (by decide) (by decide)
      unfold dsmA at hd
      rw [if_pos sh, if_neg (by decide), V_enc v0] at hd
      have lq : len (v / 1000000000) ≤ 4096 := Nat.le_trans (len_mono (by omega) (by omega)) lv
      refine Ev.step (fun k => by simp only [nat_Digits.l0]; rfl) (Ev.pos (by omega) (Ev.bind hd ?_))
      refine dg_l1 total hT (resD total) (v / 1000000000) (by omega) (fun out' ho' => ih (v / 1000000000).toNat (by omega) _ rfl (by omega) lq out' ho') 9 (v % 1000000000) out (Nat.le_refl _) (by omega) (by show _ < (1000000000 : Int); omega) ?_
      rw [show v / 1000000000 * 10 ^ 9 + v % 1000000000 = v by show v / 1000000000 * 1000000000 + v % 1000000000 = v; omega]
      exact ho
def dgA (a : List Int) : ByteArray × Int := if short [a] then resD (decL (V a)) else (⟨#[]⟩, 2)
theorem decL_short (a : List Int) (ha : Lim a) (h : short [a]) : (decL (V a)).length ≤ 200000 := by
  have v0 := V_nonneg ha
  have h1 := (len_bl v0).1 (h a (by simp))
  have := decL_len (bl (V a)) (V a) v0 (lt_bl v0)
  omega
theorem dg_f (a : List Int) (ha : okL a) : Ev (fun k => nat_Digits.f k a) (dgA a) := by
  refine Ev.congr (fun k => by unfold nat_Digits.f; rfl) (Ev.bind (fits_f [a] (fun x hx => by simp at hx; exact hx ▸ ha) (by simp)) ?_)
  unfold dgA
  by_cases h : short [a]
  · rw [if_pos h]
    refine Ev.pos (by simpa using h) (Ev.bind (trim_f a (by have := ha.2; omega)) (Ev.pre (clone_f (trimL a) (by have := okL_trim' ha; omega)) ?_))
    rw [trim_enc ha.1]
    exact dg_l0 _ (decL_short a ha.1 h) _ (V a) rfl (V_nonneg ha.1) (h a (by simp)) [] rfl
  · rw [if_neg h]
    exact Ev.neg (by simpa using h) (Ev.const rfl)
theorem bytesOf_strs (l : List Int) (h : ∀ x ∈ l, 0 ≤ x ∧ x < 256) : bytesOf (strOfNums l) = l := by
  unfold bytesOf strOfNums
  simp only [List.map_map]
  rw [List.map_congr_left (g := id)]
  · simp
  · intro x hx
    have := h x hx
    simp only [Function.comp, id]
    rw [UInt8.toNat_ofNat']
    omega
theorem bytesOf_extract (s : ByteArray) (a b : Nat) : bytesOf (s.extract a b) = ((bytesOf s).take b).drop a := by
  unfold bytesOf
  rw [ByteArray.data_extract, Array.toList_extract, ← List.map_take, ← List.map_drop]
  congr 1
  rw [List.extract_eq_take_drop, List.drop_take]
theorem toList_nil (s : ByteArray) : s.toList = [] ↔ s.size = 0 := by
  rw [show s.toList = s.data.toList from ByteArray.toList_eq s, ← List.length_eq_zero_iff, data_length]
def decV : Int → List Int → Int
  | a, [] => a
  | a, c :: l => decV (a * 10 + (c - 48)) l
def Dg (l : List Int) : Prop := ∀ x ∈ l, 48 ≤ x ∧ x ≤ 57
theorem Dg.tail {x : Int} {l : List Int} (h : Dg (x :: l)) : Dg l := fun y hy => h y (by simp [hy])
theorem Dg.take {l : List Int} (h : Dg l) (n : Nat) : Dg (l.take n) := fun x hx => h x (List.mem_of_mem_take hx)
theorem Dg.drop {l : List Int} (h : Dg l) (n : Nat) : Dg (l.drop n) := fun x hx => h x (List.mem_of_mem_drop hx)
theorem decV_app : ∀ (l m : List Int) (a : Int), decV a (l ++ m) = decV (decV a l) m
  | [], m, a => rfl
  | c :: l, m, a => by simp only [List.cons_append, decV]; exact decV_app l m _
theorem decV_lin : ∀ (l : List Int) (a : Int), decV a l = a * 10 ^ l.length + decV 0 l
  | [], a => by simp [decV]
  | c :: l, a => by
    simp only [decV, List.length_cons]
    rw [decV_lin l (a * 10 + (c - 48)), decV_lin l (0 * 10 + (c - 48)), Int.pow_succ]
    grind
theorem decV_bd : ∀ (l : List Int), Dg l → 0 ≤ decV 0 l ∧ decV 0 l < 10 ^ l.length
  | [], _ => by simp [decV]
  | c :: l, h => by
    have ih := decV_bd l h.tail
    have hc := h c (by simp)
    simp only [decV, List.length_cons]
    rw [decV_lin, Int.pow_succ]
    have h1 : (c - 48) * 10 ^ l.length ≤ 9 * 10 ^ l.length := Int.mul_le_mul_of_nonneg_right (by omega) (Int.le_of_lt (Int.pow_pos (by decide)))
    have h2 : 0 ≤ (c - 48) * 10 ^ l.length := Int.mul_nonneg (by omega) (Int.le_of_lt (Int.pow_pos (by decide)))
    rw [show (0 : Int) * 10 + (c - 48) = c - 48 by omega]
    omega
theorem decV_back : ∀ (m : Nat) (v : Int), v.toNat ≤ m → 0 ≤ v → decV 0 (decL v).reverse = v
  | 0, v, h, h0 => by rw [show v = 0 by omega, decL_zero]; rfl
  | m + 1, v, h, h0 => by
    by_cases hv : v = 0
    · rw [hv, decL_zero]; rfl
    · rw [decL_pos (by omega), List.reverse_cons, decV_app, decV_back m (v / 10) (by omega) (by omega)]
      simp only [decV]; omega
theorem fd_l2 (s : ByteArray) (x : List Int) (n : Int) (t : List Int) (ht : Dg t) (hl : t.length ≤ 9) (res : List Int × Int) (cont : Ev (fun k => nat_FromDigits.l2 k s x n (decV 0 t) (10 ^ t.length) t (t.length : Int) (t.length : Int)) res) :
    ∀ (d i : Nat), i + d = t.length → Ev (fun k => nat_FromDigits.l2 k s x n (decV 0 (t.take i)) (10 ^ i) t (t.length : Int) (i : Int)) res := by
  intro d
  induction d with
  | zero =>
    intro i hi
    have : i = t.length := by omega
    subst this
    rw [List.take_length]
    exact cont
  | succ d ih =>
    intro i hi
    have hit : i < t.length := by omega
    have hc := ht _ (List.getElem_mem hit)
    have hb := decV_bd _ (ht.take i)
    rw [List.length_take, Nat.min_eq_left (by omega)] at hb
    have h9 := pow10_9 (i + 1) (by omega)
    have hp : (0 : Int) < 10 ^ i := Int.pow_pos (by decide)
    rw [Int.pow_succ] at h9
    refine Ev.step (fun k => by simp only [nat_FromDigits.l2]; rfl) ?_
    have e1 : ((10 * decV 0 (t.take i)) % 4294967296 + (t[i] - 48) % 256) % 4294967296 = decV 0 (t.take (i + 1)) := by
      rw [List.take_succ_eq_append_getElem hit, decV_app]
      simp only [decV]
      omega
    have e2 : (10 * (10 : Int) ^ i) % 4294967296 = 10 ^ (i + 1) := by rw [Int.pow_succ]; omega
    rw [rd_get t i hit, e1, e2, wrap_id (x := (i : Int) + 1) (by omega) (by omega)]
    exact Ev.pos (by omega) (Ev.pos (by omega) (Ev.pos (by omega) (ih (i + 1) (by omega))))
theorem dec_short {v : Int} {k : Nat} (h0 : 0 ≤ v) (h : v < 10 ^ k) (hk : k ≤ 4096) : len v ≤ 4096 := by
  refine Nat.le_trans ((len_le h0).2 ?_) hk
  have h1 := Nat.pow_le_pow_left (show 10 ≤ 4294967296 by decide) k
  have h2 : ((10 ^ k : Nat) : Int) ≤ ((4294967296 ^ k : Nat) : Int) := Int.ofNat_le.2 h1
  rw [Int.natCast_pow, Int.natCast_pow] at h2
  exact Int.lt_of_lt_of_le h h2
theorem fd_nums (m : Nat) (hm : 0 < m) (hl : m ≤ 4096) : ∃ n : Nat, wrap64 (Int.tmod (wrap64 ((m : Int) - 1)) 9 + 1) = (n : Int) ∧ 0 < n ∧ n ≤ 9 ∧ n ≤ m := by
  refine ⟨(m - 1) % 9 + 1, ?_, by omega, by omega, by omega⟩
  rw [wrap_id (x := (m : Int) - 1) (by omega) (by omega), Int.tmod_eq_emod_of_nonneg (by omega), wrap_id (by omega) (by omega)]
  omega
theorem fd_l1 : ∀ (m : Nat) (s : ByteArray) (v : Int) (e : Nat), s.size = m → Dg (bytesOf s) → 0 ≤ v → v < 10 ^ e → e + m ≤ 4096 → Ev (fun k => nat_FromDigits.l1 k s (enc v)) (enc (decV v (bytesOf s)), 0) := by
  intro m
  induction m using Nat.strongRecOn with
  | _ m ih =>
    intro s v e hs hd v0 v1 he
    by_cases hm : m = 0
    · have hb : bytesOf s = [] := List.eq_nil_of_length_eq_zero (by rw [bytesOf_length]; omega)
      refine Ev.step (fun k => by simp only [nat_FromDigits.l1]; rfl) (Ev.pos ((toList_nil s).2 (by omega)) (Ev.const ?_))
      rw [hb]; rfl
    · obtain ⟨n, en, n0, n9, nm⟩ := fd_nums m (by omega) (by omega)
      have ht : bytesOf (s.extract 0 n) = (bytesOf s).take n := by rw [bytesOf_extract]; simp
      have hr : bytesOf (s.extract n s.size) = (bytesOf s).drop n := by
        rw [bytesOf_extract, List.take_of_length_le (by rw [bytesOf_length]; exact Nat.le_refl _)]
      have hsz : (s.extract 0 n).size = n := by rw [← bytesOf_length, ht, List.length_take, bytesOf_length]; omega
      have hrz : (s.extract n s.size).size = m - n := by rw [← bytesOf_length, hr, List.length_drop, bytesOf_length, hs]
      have htd : Dg ((bytesOf s).take n) := hd.take n
      have htl : ((bytesOf s).take n).length = n := by rw [List.length_take, bytesOf_length]; omega
      have hpb := decV_bd _ htd
      rw [htl] at hpb
      have h9 := pow10_9 n n9
      have hp : (0 : Int) < 10 ^ n := Int.pow_pos (by decide)
      obtain ⟨p, hpp⟩ : ∃ p, decV 0 ((bytesOf s).take n) = p := ⟨_, rfl⟩
      rw [hpp] at hpb
      have hvn : v * 10 ^ n + p < 10 ^ (e + n) := by
        rw [Int.pow_add]
        have : (v + 1) * 10 ^ n ≤ 10 ^ e * 10 ^ n := Int.mul_le_mul_of_nonneg_right (by omega) (by omega)
        rw [Int.add_mul, Int.one_mul] at this
        omega
      have hv0 : 0 ≤ v * 10 ^ n := Int.mul_nonneg v0 (by omega)
      have l1 : len v ≤ 4096 := dec_short v0 v1 (by omega)
      have l2 : len (v * 10 ^ n + p) ≤ 4096 := dec_short (by omega) hvn (by omega)
      have l3 : len (v * 10 ^ n) ≤ 4096 := Nat.le_trans (len_mono hv0 (by omega)) l2
      have okby : okL [(10 : Int) ^ n] := okL_one (by omega) (by omega)
      have okp : okL [p] := okL_one hpb.1 (by omega)
      have sm1 : short [enc v, [(10 : Int) ^ n]] := fun x hx => by
        simp at hx
        rcases hx with rfl | rfl
        · rw [V_enc v0]; exact l1
        · rw [V_one]; have := small_len (n := (10 : Int) ^ n) (by omega) (by omega); omega
      have em : mulA (enc v) [(10 : Int) ^ n] = (enc (v * 10 ^ n), 0) := by rw [mulA, if_pos sm1, V_enc v0, V_one, ans, if_pos l3]
      have sa1 : short [enc (v * 10 ^ n)] := fun x hx => by simp at hx; subst hx; rw [V_enc hv0]; exact l3
      have sa2 : short [[p]] := fun x hx => by simp at hx; subst hx; rw [V_one]; have := small_len (n := p) hpb.1 (by omega); omega
      have ea : addA (enc (v * 10 ^ n)) [[p]] = (enc (v * 10 ^ n + p), 0) := by
        rw [addA, if_pos ⟨sa1, sa2⟩, ans]
        simp only [sumV, Int.add_zero]
        rw [V_enc hv0, V_one, if_pos l2]
      have fin := ih (m - n) (by omega) (s.extract n s.size) (v * 10 ^ n + p) (e + n) hrz (by rw [hr]; exact hd.drop n) (by omega) hvn (by omega)
      rw [hr] at fin
      have etot : decV (v * 10 ^ n + p) ((bytesOf s).drop n) = decV v (bytesOf s) := by
        conv => rhs; rw [← List.take_append_drop n (bytesOf s), decV_app, decV_lin ((bytesOf s).take n) v, htl, hpp]
      rw [etot] at fin
      have hbo : Cv.bytes_of.f (s.extract 0 n) = some ((bytesOf s).take n) := by unfold Cv.bytes_of.f; rw [if_pos (by omega), ht]
      have loop := fd_l2 s (enc v) (n : Int) ((bytesOf s).take n) htd (by omega) (enc (decV v (bytesOf s)), 0) ?_ ((bytesOf s).take n).length 0 (by omega)
      · refine Ev.step (fun k => by simp only [nat_FromDigits.l1]; rfl) (Ev.neg (fun h => by have := (toList_nil s).1 h; omega) ?_)
        rw [hs, en, Int.toNat_natCast]
        exact Ev.pos (by omega) (Ev.pos (by omega) (Ev.pre hbo loop))
      · rw [hpp, htl]
        refine Ev.step (fun k => by simp only [nat_FromDigits.l2]; rfl) (Ev.neg (by omega) ?_)
        rw [Int.toNat_natCast, hs]
        refine Ev.bind (Ev.res (mul_f _ _ (okL.enc (by omega)) okby) em) (Ev.bind (Ev.res (add_f _ [[p]] (okL.enc (by omega)) (fun x hx => by simp at hx; exact hx ▸ okp) (by simp)) ea) (Ev.pos (by omega) (Ev.pos (by omega) ?_)))
        rw [hs] at fin
        exact fin
theorem fd_l0 (s : ByteArray) (B : List Int) (hB : B.length ≤ 4096) (hd : Dg B) (r : List Int × Int) (h : Ev (fun k => nat_FromDigits.l1 k s []) r) : ∀ (d i : Nat), i + d = B.length → Ev (fun k => nat_FromDigits.l0 k s B (B.length : Int) (i : Int)) r := by
  intro d
  induction d with
  | zero => intro i hi; exact Ev.step (fun k => by simp only [nat_FromDigits.l0]; rfl) (Ev.neg (by omega) h)
  | succ d ih =>
    intro i hi
    have hit : i < B.length := by omega
    have hc := hd _ (List.getElem_mem hit)
    refine Ev.step (fun k => by simp only [nat_FromDigits.l0]; rfl) ?_
    rw [rd_get B i hit, wrap_id (by omega) (by omega)]
    exact Ev.pos (by omega) (Ev.pos (by omega) (Ev.pos (by omega) (Ev.neg (by omega) (Ev.neg (by omega) (ih (i + 1) (by omega))))))
theorem fd_l0n (s : ByteArray) (B : List Int) (hB : B.length ≤ 4096) : ∀ (d i : Nat), i + d = B.length → ¬ Dg (B.drop i) → Ev (fun k => nat_FromDigits.l0 k s B (B.length : Int) (i : Int)) ([], 4) := by
  intro d
  induction d with
  | zero => intro i hi hn; exact absurd (by rw [List.drop_eq_nil_of_le (by omega)]; intro x hx; cases hx) hn
  | succ d ih =>
    intro i hi hn
    have hit : i < B.length := by omega
    refine Ev.step (fun k => by simp only [nat_FromDigits.l0]; rfl) ?_
    rw [rd_get B i hit, wrap_id (by omega) (by omega)]
    refine Ev.pos (by omega) (Ev.pos (by omega) (Ev.pos (by omega) ?_))
    by_cases h1 : B[i] < 48
    · exact Ev.pos h1 (Ev.const rfl)
    · refine Ev.neg h1 ?_
      by_cases h2 : B[i] > 57
      · exact Ev.pos h2 (Ev.const rfl)
      · refine Ev.neg h2 (ih (i + 1) (by omega) (fun hd => hn ?_))
        rw [List.drop_eq_getElem_cons hit]
        intro x hx
        rcases List.mem_cons.1 hx with rfl | hx
        · omega
        · exact hd x hx
instance (l : List Int) : Decidable (Dg l) := by unfold Dg; infer_instance
def fdA (s : ByteArray) : List Int × Int := if s.size > 4096 then ([], 2) else if s.size = 0 then ([], 4) else if Dg (bytesOf s) then (enc (decV 0 (bytesOf s)), 0) else ([], 4)
theorem fd_f (s : ByteArray) : Ev (fun k => nat_FromDigits.f k s) (fdA s) := by
  refine Ev.congr (fun k => by unfold nat_FromDigits.f; rfl) ?_
  unfold fdA
  by_cases h1 : s.size > 4096
  · rw [if_pos h1]; exact Ev.pos (by omega) (Ev.const rfl)
  · rw [if_neg h1]
    refine Ev.neg (by omega) ?_
    by_cases h2 : s.size = 0
    · rw [if_pos h2]; exact Ev.pos ((toList_nil s).2 h2) (Ev.const rfl)
    · rw [if_neg h2]
      have hbo : Cv.bytes_of.f s = some (bytesOf s) := by unfold Cv.bytes_of.f; rw [if_pos (by omega)]
      have hl : (bytesOf s).length ≤ 4096 := by rw [bytesOf_length]; omega
      refine Ev.neg (fun h => h2 ((toList_nil s).1 h)) (Ev.pre hbo ?_)
      by_cases hd : Dg (bytesOf s)
      · rw [if_pos hd]
        have h0 := fd_l1 s.size s 0 0 rfl hd (by omega) (by simp) (by omega)
        rw [enc_zero] at h0
        exact fd_l0 s (bytesOf s) hl hd _ h0 (bytesOf s).length 0 (by omega)
      · rw [if_neg hd]
        exact fd_l0n s (bytesOf s) hl (bytesOf s).length 0 (by omega) hd
theorem len_add {m n : Int} {k : Nat} (hm : 0 ≤ m) (hn : 0 ≤ n) (h1 : len m ≤ k) (h2 : len n ≤ k) : len (m + n) ≤ k + 1 := by
  rw [len_le (by omega)]
  have := (len_le hm).1 h1
  have := (len_le hn).1 h2
  rw [Int.pow_succ]
  have : (0 : Int) < 4294967296 ^ k := Int.pow_pos (by decide)
  omega
theorem strs_size (xs : List Int) : (strOfNums xs).size = xs.length := by simp [strOfNums, ByteArray.size]
theorem resD_back (v : Int) (v0 : 0 ≤ v) : (resD (decL v)).1.size ≠ 0 ∧ Dg (bytesOf (resD (decL v)).1) ∧ decV 0 (bytesOf (resD (decL v)).1) = v := by
  unfold resD
  by_cases hz : v = 0
  · rw [hz, decL_zero, if_pos rfl]
    refine ⟨by decide, ?_, by decide⟩
    intro x hx
    have : bytesOf (⟨#[48]⟩ : ByteArray) = [48] := by decide
    simp only [this, List.mem_singleton] at hx
    omega
  · have hne : decL v ≠ [] := by rw [decL_pos (by omega)]; simp
    have hb := decL_bd v.toNat v (Nat.le_refl _)
    have hr : ∀ x ∈ (decL v).reverse, 48 ≤ x ∧ x ≤ 57 := fun x hx => hb x (List.mem_reverse.1 hx)
    have e : bytesOf (strOfNums (decL v).reverse) = (decL v).reverse := bytesOf_strs _ (fun x hx => by have := hr x hx; omega)
    rw [if_neg hne]
    refine ⟨?_, ?_, ?_⟩
    · show (strOfNums _).size ≠ 0
      rw [strs_size, List.length_reverse]
      have := List.length_pos_iff.2 hne
      omega
    · show Dg (bytesOf (strOfNums _))
      rw [e]; exact hr
    · show decV 0 (bytesOf (strOfNums _)) = v
      rw [e]; exact decV_back v.toNat v (Nat.le_refl _) v0
theorem undo_j1 (a : List Int) (ha : okL a) (sa : short [a]) : Ev (fun k => glossatorlaw01_NatUndoes.j1 k a false) true := by
  have va := V_nonneg ha.1
  have hd : dgA a = resD (decL (V a)) := by rw [dgA, if_pos sa]
  obtain ⟨b1, b2, b3⟩ := resD_back (V a) va
  obtain ⟨t, ht⟩ : ∃ t, (resD (decL (V a))).1 = t := ⟨_, rfl⟩
  have ht2 : resD (decL (V a)) = (t, 0) := Prod.ext ht rfl
  rw [ht] at b1 b2 b3
  refine Ev.step (fun k => by simp only [glossatorlaw01_NatUndoes.j1]; rfl) (Ev.neg (by simp) (Ev.bind (Ev.res (dg_f a ha) (hd.trans ht2)) ?_))
  by_cases hs : (t.size : Int) > 4096
  · exact Ev.pos hs (Ev.pos (by rfl) (Ev.bind awake_f (Ev.const rfl)))
  · have hf : fdA t = (enc (V a), 0) := by rw [fdA, if_neg (by omega), if_neg b1, if_pos b2, b3]
    have hc := cmp_f (enc (V a)) a (okL.enc (by have := sa a (by simp); omega)) ha
    rw [V_enc va] at hc
    refine Ev.neg hs (Ev.bind (Ev.res (fd_f t) hf) (Ev.pos (by rfl) (Ev.pos (by rfl) (Ev.bind hc (Ev.pos ?_ (Ev.bind awake_f (Ev.const rfl)))))))
    unfold cmpI
    rw [if_neg (by omega), if_neg (by omega)]
theorem NatUndoes : glossatorlaw01_NatUndoes.Pure := by
  intro a b n _ hza hwa _ hzb hwb hn
  have ha := okL.of hwa hza
  have hb := okL.of hwb hzb
  have hn2 : 0 ≤ n ∧ n ≤ 65535 := by
    simp [Lit.wf, IntKind.min, IntKind.max, IntKind.signed, IntKind.bits] at hn; omega
  have va := V_nonneg ha.1
  have vb := V_nonneg hb.1
  refine Ev.rounds (Ev.congr (fun k => by unfold glossatorlaw01_NatUndoes.f; rfl) ?_)
  have fin : Ev (fun k => glossatorlaw01_NatUndoes.j0 k a b n true) true := by
    refine Ev.step (fun k => by simp only [glossatorlaw01_NatUndoes.j0]; rfl) ?_
    exact Ev.pos (by trivial) (Ev.bind awake_f (Ev.const rfl))
  by_cases h1 : (a.length : Int) > 1000
  · exact Ev.pos h1 fin
  · refine Ev.neg h1 ?_
    by_cases h2 : (b.length : Int) > 1000
    · rw [decide_eq_true h2]; exact fin
    · rw [decide_eq_false h2]
      obtain ⟨m, hm, hm2⟩ : ∃ m : Nat, Int.tmod n 5000 = (m : Int) ∧ m < 5000 := ⟨(n % 5000).toNat, by rw [Int.tmod_eq_emod_of_nonneg hn2.1]; omega, by omega⟩
      have la : len (V a) ≤ 1000 := by rw [← len_trim ha.1]; exact Nat.le_trans (trim_len a) (by omega)
      have lb : len (V b) ≤ 1000 := by rw [← len_trim hb.1]; exact Nat.le_trans (trim_len b) (by omega)
      have hbl := (len_bl va).1 la
      have sa : short [a] := fun x hx => by simp at hx; rw [hx]; omega
      have sb : short [b] := fun x hx => by simp at hx; rw [hx]; omega
      have ls := len_add va vb la lb
      have e1 : addA a [b] = (enc (V a + V b), 0) := by
        rw [addA, if_pos ⟨sa, sb⟩, ans]
        simp only [sumV, Int.add_zero]
        rw [if_pos (by omega)]
      have oks : okL (enc (V a + V b)) := okL.enc (by omega)
      have ssb : short [enc (V a + V b), b] := fun x hx => by
        simp at hx
        rcases hx with rfl | rfl
        · rw [V_enc (by omega)]; omega
        · omega
      have e2 : subA (enc (V a + V b)) b = (enc (V a), 0) := by
        rw [subA, if_pos ssb, V_enc (by omega), if_neg (by omega), ans, show V a + V b - V b = V a by omega, if_pos (by omega)]
      have hD : (0 : Int) < 2 ^ m := Int.pow_pos (by decide)
      have hp0 : 0 ≤ V a * 2 ^ m := Int.mul_nonneg va (Int.le_of_lt hD)
      have e3 : shlA a (m : Int) = (enc (V a * 2 ^ m), 0) ∧ len (V a * 2 ^ m) ≤ 2000 := by
        unfold shlA
        rw [if_pos sa, if_neg (by omega)]
        by_cases hz : V a = 0
        · rw [if_pos hz, hz, Int.zero_mul, enc_zero]
          exact ⟨rfl, by rw [len_zero]; omega⟩
        · have hp : 0 < V a := by omega
          rw [if_neg hz, if_neg (by omega), Int.toNat_natCast]
          exact ⟨rfl, by rw [len_bl hp0, bl_mul hp]; omega⟩
      have sx : short [enc (V a * 2 ^ m)] := fun x hx => by simp at hx; subst hx; rw [V_enc hp0]; have := e3.2; omega
      have e4 : shrA (enc (V a * 2 ^ m)) (m : Int) = (enc (V a), 0) := by
        rw [shrA, if_pos sx, if_neg (by omega), Int.toNat_natCast, V_enc hp0, Int.mul_ediv_cancel _ (by omega)]
      have okx : okL (enc (V a * 2 ^ m)) := okL.enc (by have := e3.2; omega)
      have hnb : nby (V a) ≤ 16384 := by unfold nby; omega
      obtain ⟨z, hz1, hz2⟩ := fb_f (lowD (nby (V a)) (V a)) (fun x hx => by have := lowD_bd _ _ x hx; omega) (by rw [lowD_len]; omega)
      unfold FbA at hz2
      have hdl := dz_len (lowD (nby (V a)) (V a))
      rw [lowD_len] at hdl
      rw [if_neg (by omega), dz_beV, lowD_beV _ _ va ((nby_le va _).1 (Nat.le_refl _))] at hz2
      obtain ⟨zl, ze⟩ := z
      simp only at hz2
      obtain ⟨rfl, g2, g3, g4⟩ := hz2
      have okz : okL zl := ⟨g2, by rw [g3]; unfold lby; omega⟩
      have oka : okL (enc (V a)) := okL.enc (by omega)
      have c1 := cmp_f (enc (V a)) a oka ha
      rw [V_enc va] at c1
      have c2 := cmp_f zl a okz ha
      rw [g4] at c2
      have hc0 : cmpI (V a) (V a) = 0 := by unfold cmpI; rw [if_neg (by omega), if_neg (by omega)]
      rw [hc0] at c1 c2
      refine Ev.step (fun k => by simp only [glossatorlaw01_NatUndoes.j0]; rfl) (Ev.neg (by simp) ?_)
      rw [hm, wrap_id (x := (m : Int)) (by omega) (by omega)]
      refine Ev.bind (Ev.res (add_f a [b] ha (fun x hx => by simp at hx; exact hx ▸ hb) (by simp)) e1) (Ev.bind (Ev.res (sub_f _ b oks hb) e2) (Ev.bind (Ev.res (shl_f a m ha (by omega)) e3.1) (Ev.bind (Ev.res (shr_f _ m okx (by omega)) e4) (Ev.bind (bytes_f a ha) (Ev.bind hz1 ?_)))))
      refine Ev.pos (by rfl) (Ev.pos (by rfl) (Ev.pos (by rfl) (Ev.pos (by rfl) (Ev.pos (by rfl) (Ev.bind c1 (Ev.pos rfl (Ev.bind c1 (Ev.pos rfl (Ev.bind c2 ?_)))))))))
      exact undo_j1 a ha sa
end Go.Proofs.Ytflccadclkddoaa.Pure
