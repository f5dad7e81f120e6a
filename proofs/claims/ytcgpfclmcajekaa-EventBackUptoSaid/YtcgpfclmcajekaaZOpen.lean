-- Out of texts of this seat by a program of this session: what the claim does not reach is struck
import Derived.Test.YtcgpfclmcajekaaRows
import Derived.Test.YtcgpfclmcajekaaZWWords
import Derived.ChangeArms
import Derived.Deep.Slices
namespace Go.Proofs.Ytcgpfclmcajekaa.Open
open Go.Proofs.YtcgpfclmcajekaaW.PrintWords
section
variable {H : Type} {enc : TypeId × Value → H} {P : Program} {w : World} {base : Nat} {spare : Nat → Bool} {held : Bool} {α : Type}
def Opens (enc : TypeId × Value → H) (P : Program) (w : World) (base : Nat) (spare : Nat → Bool) (held : Bool) (d : Kd α) (t : TypeId) (wf : α → Prop) (sz : α → Nat) (fuel : Nat) : Prop :=
  ∀ cs D ps, DataW.trod enc P w base spare held fuel t cs = some (D, ps) → ∃ x : α, d.K w x cs ∧ ((∀ n ∈ D.weights P t, n ≤ reachBytes) → wf x) ∧ sz x ≤ Rows.uptoBulk D
theorem opens_int {t : TypeId} {k : IntKind} {fuel : Nat} (ht : P.underlying t = some (.int k)) : Opens enc P w base spare held (Kd.int k) t (fun n => (Lit.int k n).wf = true) (fun _ => 1) fuel := by
  intro cs D ps h
  obtain ⟨n, rfl, hx, hw⟩ := DataW.trod_int ht h
  obtain ⟨rfl, rfl⟩ := Prod.mk.inj hx
  exact ⟨n, rfl, fun _ => hw, by simp [Rows.uptoBulk]⟩
theorem opens_bool {t : TypeId} {fuel : Nat} (ht : P.underlying t = some .bool) : Opens enc P w base spare held Kd.bool t (fun _ => True) (fun _ => 1) fuel := by
  intro cs D ps h
  obtain ⟨b, rfl, hx⟩ := DataW.trod_bool ht h
  obtain ⟨rfl, rfl⟩ := Prod.mk.inj hx
  exact ⟨b, rfl, fun _ => trivial, by simp [Rows.uptoBulk]⟩
theorem opens_string {t : TypeId} {fuel : Nat} (ht : P.underlying t = some .string) : Opens enc P w base spare held Kd.string t (fun s => s.size ≤ 140737488351232) (fun s => s.size + 1) fuel := by
  intro cs D ps h
  obtain ⟨s, rfl, hx, _⟩ := DataW.trod_string ht h
  obtain ⟨rfl, rfl⟩ := Prod.mk.inj hx
  refine ⟨s, rfl, fun hw => ?_, ?_⟩
  · have := hw s.data.toList.length (by simp [DataW.weights])
    rw [data_length] at this
    exact this
  · have := data_length s
    simp only [Rows.uptoBulk]
    omega
def sumSz (sz : α → Nat) : List α → Nat
  | [] => 0
  | x :: l => sz x + sumSz sz l
theorem sum_le (sz : α → Nat) : ∀ (xs : List α) (ys : List (DataW H)), xs.length = ys.length → (∀ (i : Nat) (x : α) (y : DataW H), xs[i]? = some x → ys[i]? = some y → sz x ≤ Rows.uptoBulk y) → sumSz sz xs ≤ Rows.uptoBulkAll ys
  | [], [], _, _ => by simp [sumSz]
  | x :: xs, y :: ys, hl, h => by
    have h0 := h 0 x y rfl rfl
    have := sum_le sz xs ys (by simpa using hl) (fun i a b ha hb => h (i + 1) a b (by simpa using ha) (by simpa using hb))
    simp only [sumSz, Rows.uptoBulkAll]
    omega
  | [], _ :: _, hl, _ => by simp at hl
  | _ :: _, [], hl, _ => by simp at hl
theorem weightsAll_mem {e : TypeId} : ∀ (ys : List (DataW H)) (y : DataW H), y ∈ ys → ∀ n ∈ y.weights P e, n ∈ DataW.weightsAll P e ys
  | z :: ys, y, hy, n, hn => by
    simp only [DataW.weightsAll]
    rcases List.mem_cons.1 hy with rfl | hy
    · exact List.mem_append_left _ hn
    · exact List.mem_append_right _ (weightsAll_mem ys y hy n hn)
theorem opens_slice [Inhabited α] {t e : TypeId} {fuel B : Nat} {d : Kd α} {wf : α → Prop} {sz : α → Nat} (hin : ∀ n, n < fuel → Opens enc P w base spare held d e wf sz n)
    (ht : P.underlying t = some (.slice e)) (hc : P.cellsOf e = d.sz) (hB : P.bytesOf e = B) :
    Opens enc P w base spare held (Kd.slice e d) t (fun l => l.length * B ≤ 140737488351232 ∧ ∀ x ∈ l, wf x) (fun l => sumSz sz l + 1) fuel := by
  intro cs D ps h
  rcases DataW.trod_slice ht h with ⟨rfl, hx⟩ | ⟨a, len, cap, elems, rest, n, rfl, rfl, hx, _, hl, hm, hlen, hel, _, _⟩
  · obtain ⟨rfl, rfl⟩ := Prod.mk.inj hx
    refine ⟨[], ⟨none, 0, rfl, Nat.le_refl _, rfl, by simp, fun h => absurd h (by simp)⟩, fun _ => ⟨by simp, fun x hx => by cases hx⟩, by simp [Rows.uptoBulk, sumSz]⟩
  · obtain ⟨rfl, rfl⟩ := Prod.mk.inj hx
    have hex : ∀ i, i < len → ∃ (x : α) (cs' : List Value) (y : DataW H × List MemPlace), elems[i]? = some y ∧ w.cells? base (a.add (i * P.cellsOf e)) (P.cellsOf e) = some cs' ∧ d.K w x cs' ∧ ((∀ n ∈ y.1.weights P e, n ≤ reachBytes) → wf x) ∧ sz x ≤ Rows.uptoBulk y.1 := by
      intro i hi
      have h1 := hel i hi
      rw [List.getElem?_eq_getElem (by omega)] at h1
      obtain ⟨cs', hcs, htr⟩ := Option.bind_eq_some_iff.1 h1
      obtain ⟨x, hk, hw, hs⟩ := hin n (by omega) cs' elems[i].1 elems[i].2 htr
      exact ⟨x, cs', elems[i], List.getElem?_eq_getElem (by omega), hcs, hk, hw, hs⟩
    obtain ⟨f, hf⟩ := Deep.choose_lt (α := α) hex
    have hget : ∀ (i : Nat) (x : α), ((List.range len).map f)[i]? = some x → i < len ∧ x = f i := by
      intro i x hx
      rw [List.getElem?_map] at hx
      obtain ⟨j, hj, rfl⟩ := Option.map_eq_some_iff.1 hx
      obtain ⟨hlt, hj⟩ := List.getElem?_eq_some_iff.1 hj
      rw [List.length_range] at hlt
      rw [List.getElem_range] at hj
      exact ⟨hlt, by rw [hj]⟩
    have hmax : cap ≤ 9223372036854775807 := hm
    refine ⟨(List.range len).map f, ⟨some a, cap, by simp, by simpa using hl, by simp, by simp; omega, fun _ => ⟨a, rfl, fun j p hp => ?_⟩⟩, fun hw => ⟨?_, fun x hx => ?_⟩, ?_⟩
    · obtain ⟨hj, rfl⟩ := hget j p hp
      obtain ⟨cs', y, _, hcs, hk, _, _⟩ := hf j hj
      obtain ⟨_, hl', hcell⟩ := World.cells?_some hcs
      refine ⟨cs', by rw [hl', hc], hk, fun i u hu => ?_⟩
      have hi : i < P.cellsOf e := by rw [← hl']; exact (List.getElem?_eq_some_iff.1 hu).1
      have := hcell i hi
      rw [Addr.add_add, hc] at this
      rw [this]; exact hu
    · have := hw _ (by simp only [DataW.weights, ht]; exact List.mem_cons_self)
      simp only [List.length_map, hB, List.length_range] at this ⊢
      have h2 : len * B ≤ (elems.length + rest.length) * B := Nat.mul_le_mul_right _ (by omega)
      exact Nat.le_trans h2 this
    · obtain ⟨i, hi, rfl⟩ := List.mem_map.1 hx
      rw [List.mem_range] at hi
      obtain ⟨cs', y, hy, _, _, hwf, _⟩ := hf i hi
      refine hwf (fun n hn => hw n ?_)
      simp only [DataW.weights, ht]
      exact List.mem_cons_of_mem _ (List.mem_append_left _ (weightsAll_mem _ y.1 (List.mem_map.2 ⟨y, List.mem_of_getElem? hy, rfl⟩) n hn))
    · have hs := sum_le sz ((List.range len).map f) (elems.map (·.1)) (by simp [hlen]) (fun i x y hx hy => by
        obtain ⟨hi, rfl⟩ := hget i x hx
        obtain ⟨cs', z, hz, _, _, _, hsz⟩ := hf i hi
        rw [List.getElem?_map, hz] at hy
        obtain rfl := Option.some.inj hy
        exact hsz)
      simp only [Rows.uptoBulk]
      omega
end
end Go.Proofs.Ytcgpfclmcajekaa.Open
