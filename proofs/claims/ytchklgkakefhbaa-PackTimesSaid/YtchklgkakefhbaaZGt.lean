-- Out of texts of this seat by a program of this session: what the claim does not reach is struck
import Derived.Test.YtchklgkakefhbaaZEnc
import Derived.Lib.ConvBytes
namespace Go.Proofs.Ytchklgkakefhbaa.Wr
open Go Go.RowKit Go.Shelf Go.Proofs.Ytchklgkakefhbaa.Each Go.Proofs.YtchklgkakefhbaaW.PrintWords Go.Proofs.YtchklgkakefhbaaW.PrintLast
set_option linter.unusedVariables false
set_option linter.unusedSimpArgs false
def gatF : List Int → Int → Int
  | [], n => n
  | c :: l, n => gatF l (Go.bits .or .u64 (IntKind.u64.wrap (n * 256)) (IntKind.u64.wrap c))
set_option maxRecDepth 100000 in
set_option maxHeartbeats 4000000 in
theorem gather_calls (s : ByteArray) (hs : s.size ≤ 140737488351232) (w : World) : Calls Try.prog 20 #[.string s] w fun e w' => e = .returned (.int .u64 (gatF (bytesOf s) 0)) ∧ Below w.heap.size w w' := by
  have kc := Lib.run_convert_string_bytes (P := Try.prog) w 9 26 5 s Try.underlying9 Try.underlying26 Try.underlying5
  obtain ⟨W2, hW2⟩ : ∃ W2, Lib.bytesWorld w 5 s = W2 := ⟨_, rfl⟩
  obtain ⟨c, hc⟩ : ∃ c, grownCap w s.size 0 5 = c := ⟨_, rfl⟩
  rw [hW2, hc] at kc
  have hcell : ∀ j, j < s.size → W2.cell? ⟨w.heap.size, j, none⟩ = some (.int .u8 ((bytesOf s).getD j 0)) := fun j hj => by
    rw [← hW2, Lib.bytesWorld_cell w 5 s j hj]
    congr 2
    simp [bytesOf, List.getD_eq_getElem?_getD, List.getElem?_map]
    have hj2 : j < s.data.toList.length := by rw [data_length]; exact hj
    rw [Array.getElem?_eq_getElem (by simpa using hj2)]
    simp
  have hb : Below w.heap.size w W2 := by
    rw [← hW2]
    exact bytes_below (Below.refl _ _) (Nat.le_refl _) 5 s
  have HC := Aside0.mk hcell
  have HB := Aside0.mk hb
  have hcs : s.size ≤ c := by rw [← hc]; exact grownCap_ge w s.size 0 5
  clear hcell hb hW2 hc
  go_enter Try.func20, Try.ntmps20
  go_wp2
  go_loop [3, 9] (fun n i => ∃ (j : Nat) (m : Int), i = .int .i64 (j : Int) ∧ n = .int .u64 m ∧ j ≤ s.size ∧ Aside0 (gatF ((bytesOf s).drop j) m = gatF (bytesOf s) 0)) (fun _ i => s.size - (intOf i).toNat)
  case atStart => exact ⟨0, 0, rfl, rfl, Nat.zero_le _, ⟨rfl⟩⟩
  case round =>
    obtain ⟨j, m, rfl, rfl, hj, HG⟩ := hrel
    by_cases hlt : j < s.size
    · have hx := HC.out j hlt
      have hl : j < (bytesOf s).length := by rw [bytesOf_length]; exact hlt
      have HG2 : Aside0 (gatF ((bytesOf s).drop (j + 1)) (Go.bits .or .u64 (IntKind.u64.wrap (m * 256)) (IntKind.u64.wrap ((bytesOf s).getD j 0))) = gatF (bytesOf s) 0) := ⟨by
        rw [← HG.out, List.drop_eq_getElem_cons hl, gatF, List.getD_eq_getElem?_getD, List.getElem?_eq_getElem hl]
        rfl⟩
      clear HG hl
      go_wp2
      exact ⟨⟨j + 1, _, by go_num, rfl, by omega, by simpa using HG2⟩, by simp [intOf]; omega⟩
    · obtain rfl : j = s.size := by omega
      go_wp2
      go_ret
      exact ⟨by have h := HG.out; rw [List.drop_of_length_le (by rw [bytesOf_length]; exact Nat.le_refl _)] at h; rw [← h]; rfl, HB.out⟩
end Go.Proofs.Ytchklgkakefhbaa.Wr
