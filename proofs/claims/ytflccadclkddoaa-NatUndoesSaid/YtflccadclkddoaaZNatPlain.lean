-- Out of texts of this seat by a program of this session: what the claim does not reach is struck
namespace Go.Proofs.Ytflccadclkddoaa.NatPlain
def V : List Int → Int
  | [] => 0
  | x :: l => x + 4294967296 * V l
def Lim (l : List Int) : Prop := ∀ x ∈ l, 0 ≤ x ∧ x < 4294967296
def trimL : List Int → List Int
  | [] => []
  | x :: l => if trimL l = [] ∧ x = 0 then [] else x :: trimL l
theorem Lim.nil : Lim [] := fun _ h => by cases h
theorem Lim.cons {x : Int} {l : List Int} (h0 : 0 ≤ x) (h1 : x < 4294967296) (h : Lim l) : Lim (x :: l) := by
  intro y hy
  rcases List.mem_cons.1 hy with rfl | hy
  · exact ⟨h0, h1⟩
  · exact h y hy
theorem Lim.head {x : Int} {l : List Int} (h : Lim (x :: l)) : 0 ≤ x ∧ x < 4294967296 := h x (by simp)
theorem Lim.tail {x : Int} {l : List Int} (h : Lim (x :: l)) : Lim l := fun y hy => h y (by simp [hy])
theorem Lim.app {a b : List Int} (h : Lim a) (k : Lim b) : Lim (a ++ b) := fun x hx => (List.mem_append.1 hx).elim (h x) (k x)
theorem Lim.take {l : List Int} (h : Lim l) (n : Nat) : Lim (l.take n) := fun x hx => h x (List.mem_of_mem_take hx)
theorem Lim.drop {l : List Int} (h : Lim l) (n : Nat) : Lim (l.drop n) := fun x hx => h x (List.mem_of_mem_drop hx)
theorem Lim.set {l : List Int} (h : Lim l) (n : Nat) (x : Int) (h0 : 0 ≤ x) (h1 : x < 4294967296) : Lim (l.set n x) := fun y hy => (List.mem_or_eq_of_mem_set hy).elim (h y) (fun e => e ▸ ⟨h0, h1⟩)
theorem Lim.zeros (n : Nat) : Lim (List.replicate n 0) := fun x hx => by rw [List.eq_of_mem_replicate hx]; omega
theorem Lim.get {l : List Int} (h : Lim l) (i : Nat) (hi : i < l.length) : 0 ≤ l[i] ∧ l[i] < 4294967296 := h _ (List.getElem_mem hi)
theorem V_nonneg {l : List Int} (h : Lim l) : 0 ≤ V l := by
  induction l with
  | nil => exact Int.le_refl 0
  | cons x l ih =>
    have := ih h.tail
    have := h.head
    simp only [V]; omega
theorem V_app (a b : List Int) : V (a ++ b) = V a + 4294967296 ^ a.length * V b := by
  induction a with
  | nil => simp [V]
  | cons x a ih =>
    simp only [List.cons_append, V, ih, List.length_cons]
    rw [Int.pow_succ, Int.mul_comm ((4294967296 : Int) ^ a.length) 4294967296, Int.mul_assoc, Int.mul_add]
    omega
theorem V_zeros (n : Nat) : V (List.replicate n 0) = 0 := by
  induction n with
  | zero => rfl
  | succ n ih => simp [List.replicate_succ, V, ih]
theorem V_lt {l : List Int} (h : Lim l) : V l < 4294967296 ^ l.length := by
  induction l with
  | nil => simp [V]
  | cons x l ih =>
    have := ih h.tail
    have := h.head
    simp only [V, List.length_cons]
    rw [Int.pow_succ]
    omega
theorem V_trim (l : List Int) : V (trimL l) = V l := by
  induction l with
  | nil => rfl
  | cons x l ih =>
    simp only [trimL]
    split
    · rename_i h
      rw [h.1] at ih
      simp only [V, ← ih, h.2]
      rfl
    · simp only [V, ih]
theorem Lim.trim {l : List Int} (h : Lim l) : Lim (trimL l) := by
  induction l with
  | nil => exact Lim.nil
  | cons x l ih =>
    simp only [trimL]
    split
    · exact Lim.nil
    · exact Lim.cons h.head.1 h.head.2 (ih h.tail)
theorem trim_len (l : List Int) : (trimL l).length ≤ l.length := by
  induction l with
  | nil => exact Nat.le_refl _
  | cons x l ih =>
    simp only [trimL]
    split
    · simp
    · simp [ih]
theorem trim_take (l : List Int) : l.take (trimL l).length = trimL l := by
  induction l with
  | nil => rfl
  | cons x l ih =>
    simp only [trimL]
    split
    · rfl
    · simp [ih]
theorem trim_above (l : List Int) (i : Nat) (h : (trimL l).length ≤ i) : l.getD i 0 = 0 := by
  induction l generalizing i with
  | nil => simp
  | cons x l ih =>
    simp only [trimL] at h
    split at h
    · rename_i hq
      cases i with
      | zero => simpa using hq.2
      | succ i =>
        have := ih i (by rw [hq.1]; simp)
        simpa using this
    · cases i with
      | zero => simp at h
      | succ i =>
        have := ih i (by simp at h; omega)
        simpa using this
theorem trim_last (l : List Int) (h : 0 < (trimL l).length) : l.getD ((trimL l).length - 1) 0 ≠ 0 := by
  induction l with
  | nil => simp [trimL] at h
  | cons x l ih =>
    simp only [trimL] at h ⊢
    split
    · rename_i hq
      rw [if_pos hq] at h
      simp at h
    · rename_i hq
      by_cases h0 : (trimL l).length = 0
      · have hn : trimL l = [] := List.eq_nil_of_length_eq_zero h0
        have : ¬ x = 0 := fun hx => hq ⟨hn, hx⟩
        simpa [hn] using this
      · have := ih (by omega)
        obtain ⟨m, hm⟩ : ∃ m, (trimL l).length = m + 1 := ⟨(trimL l).length - 1, by omega⟩
        rw [hm] at this
        simpa [hm] using this
def enc (n : Int) : List Int := if h : n ≤ 0 then [] else (n % 4294967296) :: enc (n / 4294967296)
termination_by n.toNat
decreasing_by omega
theorem enc_zero : enc 0 = [] := by unfold enc; rfl
theorem enc_pos {n : Int} (h : 0 < n) : enc n = (n % 4294967296) :: enc (n / 4294967296) := by
  rw [enc, dif_neg (by omega)]
theorem trim_enc {l : List Int} (h : Lim l) : trimL l = enc (V l) := by
  induction l with
  | nil => exact enc_zero.symm
  | cons x l ih =>
    have ih := ih h.tail
    have hv := V_nonneg h.tail
    have hx := h.head
    simp only [V]
    by_cases h0 : x + 4294967296 * V l = 0
    · have hx0 : x = 0 := by omega
      have hv0 : V l = 0 := by omega
      rw [hv0, enc_zero] at ih
      rw [h0, enc_zero, trimL, if_pos ⟨ih, hx0⟩]
    · rw [enc_pos (by omega), show (x + 4294967296 * V l) % 4294967296 = x by omega, show (x + 4294967296 * V l) / 4294967296 = V l by omega, ← ih, trimL]
      split
      · rename_i hq
        rw [hq.1, enc] at ih
        split at ih
        · omega
        · cases ih
      · rfl
theorem Lim.enc (n : Int) : Lim (enc n) := by
  obtain ⟨m, hm⟩ : ∃ m : Nat, n.toNat = m := ⟨_, rfl⟩
  induction m using Nat.strongRecOn generalizing n with
  | _ m ih =>
    by_cases h : n ≤ 0
    · rw [NatPlain.enc, dif_pos h]; exact Lim.nil
    · rw [enc_pos (by omega)]
      exact Lim.cons (by omega) (by omega) (ih (n / 4294967296).toNat (by omega) _ rfl)
theorem V_enc {n : Int} (h0 : 0 ≤ n) : V (enc n) = n := by
  obtain ⟨m, hm⟩ : ∃ m : Nat, n.toNat = m := ⟨_, rfl⟩
  induction m using Nat.strongRecOn generalizing n with
  | _ m ih =>
    by_cases h : n = 0
    · rw [h, enc_zero]; rfl
    · rw [enc_pos (by omega)]
      simp only [V]
      rw [ih (n / 4294967296).toNat (by omega) (by omega) rfl]
      omega
def len (n : Int) : Nat := (enc n).length
theorem len_zero : len 0 = 0 := by unfold len; rw [enc_zero]; rfl
theorem len_pos {n : Int} (h : 0 < n) : len n = len (n / 4294967296) + 1 := by unfold len; rw [enc_pos h]; rfl
theorem len_trim {l : List Int} (h : Lim l) : (trimL l).length = len (V l) := by rw [trim_enc h]; rfl
theorem lt_len {n : Int} (h0 : 0 ≤ n) : n < 4294967296 ^ len n := by
  have := V_lt (Lim.enc n)
  rwa [V_enc h0] at this
theorem len_le {n : Int} {k : Nat} (h0 : 0 ≤ n) : len n ≤ k ↔ n < 4294967296 ^ k := by
  induction k generalizing n with
  | zero =>
    by_cases h : n = 0
    · rw [h, len_zero]; simp
    · rw [len_pos (by omega)]; simp; omega
  | succ k ih =>
    by_cases h : n = 0
    · rw [h, len_zero]; simp; exact Int.pow_pos (by decide)
    · rw [len_pos (by omega)]
      have := ih (n := n / 4294967296) (by omega)
      rw [Int.pow_succ]
      omega
theorem len_mono {m n : Int} (h0 : 0 ≤ m) (h : m ≤ n) : len m ≤ len n := (len_le h0).2 (by have := lt_len (n := n) (by omega); omega)
theorem V_take_succ (l : List Int) (i : Nat) (h : i < l.length) : V (l.take (i + 1)) = V (l.take i) + 4294967296 ^ i * l[i] := by
  rw [List.take_succ_eq_append_getElem h, V_app, List.length_take, Nat.min_eq_left (by omega)]
  simp [V]
theorem V_drop (l : List Int) (i : Nat) (h : i < l.length) : V (l.drop i) = l[i] + 4294967296 * V (l.drop (i + 1)) := by
  rw [List.drop_eq_getElem_cons h]
  rfl
theorem V_split (l : List Int) (i : Nat) (h : i ≤ l.length) : V l = V (l.take i) + 4294967296 ^ i * V (l.drop i) := by
  have := V_app (l.take i) (l.drop i)
  rwa [List.take_append_drop, List.length_take, Nat.min_eq_left h] at this
theorem V_set (l : List Int) (i : Nat) (x : Int) (h : i < l.length) : V (l.set i x) = V l + 4294967296 ^ i * (x - l[i]) := by
  have e := V_split l i (by omega)
  have e2 := V_split (l.set i x) i (by simp; omega)
  rw [V_drop l i h] at e
  rw [V_drop (l.set i x) i (by simpa using h), List.take_set_of_le (by omega), List.drop_set_of_lt (by omega)] at e2
  simp only [List.getElem_set_self] at e2
  rw [e, e2, Int.mul_add, Int.mul_add, Int.mul_sub]
  omega
end Go.Proofs.Ytflccadclkddoaa.NatPlain
