/- math/bits.TrailingZeros64 in this seat's program, and its table: what the row's list gives, that a call keeps it; no law. -/
import Derived.Test.YtjefhpbliihonaaDoorRows
import Derived.Test.YtjefhpbliihonaaDoorWMore
import Derived.WalkKit
import Derived.RowKit
import Derived.KernelRfl
import Derived.Below
import Derived.ProofKit
import Derived.LaidMore
import Derived.OpenShut
import Derived.Stop.Joined
import Derived.Shelf.Spec.TrailingZeros
namespace Go.Proofs.YtjefhpbliihonaaDoor.Tz
open Go.ChangeShapes Go.WideShapes Go.ChangeAt Go.WideElems Go.RowKit Go.Proofs Go.Proofs.YtjefhpbliihonaaDoor Go.Proofs.YtjefhpbliihonaaDoorW.PrintWords
def laid1 : List (String × DataW Unit) := [("math/bits.deBruijn64tab", Rows.laid_math_bits_deBruijn64tab)]
theorem gTab : Tryd.prog.globalNamed "math/bits.deBruijn64tab" = some 0 := by kernel_rfl
theorem tTab : (Tryd.prog.globals[0]?).map (·.type) = some 61 := by kernel_rfl
set_option maxRecDepth 100000 in
/-- The door's own heap meets the condition. -/
theorem door_met (os : Os) (args : Array Value) : laidMetH Tryd.prog laid1 ((World.doorLaid Tryd.prog 400 os).forCall (fun _ _ => 0) ⟨#[], args, []⟩).memory :=
  laidMetH_of_parts3 (fuel := 8) (laidMet_of_run' 8 (by kernel_rfl) (by kernel_rfl)) (by kernel_rfl) (by kernel_rfl)
set_option maxRecDepth 100000 in
theorem laid_list : (Rows.laid_math_bits_deBruijn64tab : DataW Unit) = .agg (Lib.deBruijn64tab.map fun (k : Nat) => .lit (.int .u8 (k : Int))) := by kernel_rfl
/-- What the condition gives the walks: the table's cells. -/
theorem of_laid {W : World} (h : laidMetH Tryd.prog laid1 W) : TabAt 0 Lib.deBruijn64tab W := by
  rw [MakeChecks.laidMetH_plain _ _ _ (by kernel_rfl)] at h
  obtain ⟨ps, ⟨g0, t0, cs0, f0, p0, q0, hg0, ht0, hv0, hd0, _, _⟩, _⟩ := h
  obtain rfl := Option.some.inj (gTab.symm.trans hg0)
  obtain rfl := Option.some.inj (tTab.symm.trans ht0)
  obtain ⟨xs, m1, rfl, hx1, hlen, hn3, hel⟩ := DataW.trod_array Tryd.underlying61 hd0
  have ce : Tryd.prog.cellsOf 5 = 1 := by kernel_rfl
  have hlt : Lib.deBruijn64tab.length = 64 := by decide
  intro j hj
  rw [hlt] at hj
  have h0 := hel j hj
  have hjx : j < xs.length := by omega
  rw [List.getElem?_eq_getElem hjx] at h0
  obtain ⟨n, e1, e2, _⟩ := DataW.trod_int Tryd.underlying5 h0
  have hx := congrArg Prod.fst hx1
  simp only [] at hx
  have hkn : (n : Int) = (Lib.deBruijn64tab.getD j 0 : Nat) := by
    have h3 := hx.symm.trans laid_list
    injection h3 with h4
    have h5 := congrArg (fun l => l[j]?) h4
    simp only [List.getElem?_map, List.getElem?_eq_getElem hjx, Option.map_some, e2] at h5
    rw [List.getElem?_eq_getElem (by rw [hlt]; exact hj)] at h5
    simp only [Option.map_some, Option.some.injEq, DataW.lit.injEq, Lit.int.injEq, true_and] at h5
    rw [h5, List.getD_eq_getElem?_getD, List.getElem?_eq_getElem (by rw [hlt]; exact hj)]
    rfl
  have hc := World.var?_cell hg0 hv0 j
  rw [hc]
  rw [ce] at e1
  have e3 : cs0[j]? = some (.int .u8 n) := by
    have : (cs0.toList.drop (j * 1)).take 1 = [Value.int .u8 n] := e1
    rw [Nat.mul_one] at this
    have h2 := congrArg (fun l => l[0]?) this
    simp only [List.getElem?_take, List.getElem?_drop] at h2
    simpa using h2
  rw [e3, hkn]
theorem tab_below {g : Nat} {tab : List Nat} {w w' : World} (h : TabAt g tab w) (hb : Below w.heap.size w w') : TabAt g tab w' :=
  fun j hj => (hb.cell (World.block_lt_of_cell? w _ (h j hj))).trans (h j hj)
theorem core (x k idx : Nat) (w : World) (hx0 : ((x : Int) == 0) = false)
    (key : IntKind.u64.wrap (bits BinOp.and IntKind.u64 (x : Int) (IntKind.u64.wrap (-(x : Int))) * 285870213051353865) / 288230376151711744 = (idx : Int))
    (hi : idx < 64) (hk : k < 64) (hcell : w.cell? ⟨0, idx, none⟩ = some (.int .u8 k)) :
    Calls Tryd.prog 18 #[.int .u64 x] w fun e w' => e = .returned (.int .i64 k) ∧ w' = w := by
  go_enter Tryd.func18, Tryd.ntmps18
  go_wp2_with (simp only [key])
  go_ret
  exact ⟨rfl, rfl⟩
theorem zero (w : World) :
    Calls Tryd.prog 18 #[.int .u64 0] w fun e w' => e = .returned (.int .i64 64) ∧ w' = w := by
  go_enter Tryd.func18, Tryd.ntmps18
  go_wp2
  go_ret
  exact ⟨rfl, rfl⟩
def f (a0 : Int) : Option (Int) := if 0 ≤ a0 then (if a0 < 18446744073709551616 then (some (Lib.ctz 64 a0.toNat : Int)) else (none)) else (none)
theorem calls (a0 : Int) (r : Int) (w : World) (hT : TabAt 0 Lib.deBruijn64tab w) (h : f a0 = some r) :
    Calls Tryd.prog 18 #[.int .u64 a0] w fun e w' => e = .returned (.int .i64 r) ∧ Drawn0 w w' := by
  unfold f at h
  split at h
  · rename_i h0
    split at h
    · rename_i h1
      obtain rfl := Option.some.inj h
      obtain ⟨x, rfl⟩ := Int.eq_ofNat_of_zero_le h0
      have hx : x < 18446744073709551616 := by omega
      rw [Int.toNat_natCast]
      by_cases hx0 : x = 0
      · subst hx0
        exact (zero w).mono fun e w' ⟨a, b⟩ => ⟨a, b ▸ Drawn0.refl _⟩
      · obtain ⟨hlow, hk⟩ := Lib.lowest_bit 64 x hx0 hx
        obtain ⟨hi, htab⟩ := Lib.deBruijn64_at _ hk
        have hcell := hT _ hi
        rw [htab] at hcell
        exact (core x _ _ w (by simp; omega) (tz64_key x _ hx hx0 hlow) hi hk hcell).mono fun e w' ⟨a, b⟩ => ⟨a, b ▸ Drawn0.refl _⟩
    · cases h
  · cases h
end Go.Proofs.YtjefhpbliihonaaDoor.Tz
