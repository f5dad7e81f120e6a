-- Out of texts of this seat by a program of this session: what the claim does not reach is struck
import Derived.Test.YtflccadclkddoaaProg
import Derived.Test.YtflccadclkddoaaZWMore
import Derived.Test.YtflccadclkddoaaZWShare
import Derived.Lib.ConvBytes
namespace Go.Proofs.Ytflccadclkddoaa.Cv
open Go Go.RowKit Go.Proofs.YtflccadclkddoaaW.PrintWords Go.Proofs.YtflccadclkddoaaW.PrintLast Go.Proofs.YtflccadclkddoaaW.PrintMore
set_option linter.unusedVariables false
def bytes_of.f (a : ByteArray) : Option (List Int) := if a.size ≤ 140737488351232 then some (bytesOf a) else none
def Conv (W : World) (s : ByteArray) (R : Ending → World → Prop) : Prop := R (.returned (.slice (some ⟨W.heap.size, 0, none⟩) s.size (grownCap W s.size 0 5))) (Lib.bytesWorld W 5 s)
theorem Conv.mono {W : World} {s : ByteArray} {R R' : Ending → World → Prop} (h : Conv W s R) (hi : ∀ e w, R e w → R' e w) : Conv W s R' := hi _ _ h
theorem bytes_of.calls (a : ByteArray) (r : List Int) (w : World) (h : bytes_of.f a = some r) :
    Conv w a fun e w' => ∃ v0_ : Value, e = .returned v0_ ∧ Kd.V (Kd.int .u8) 5 w' w.heap.size (fun k_ => (w.heap.size ≤ k_)) v0_ r ∧ Below w.heap.size w w' := by
  unfold bytes_of.f at h
  by_cases hs : a.size ≤ 140737488351232
  · rw [if_pos hs] at h
    obtain rfl := Option.some.inj h
    have hl : (bytesOf a).length = a.size := bytesOf_length a
    refine ⟨_, rfl, ⟨some ⟨w.heap.size, 0, none⟩, grownCap w a.size 0 5, by rw [hl], by rw [hl]; exact grownCap_ge w a.size 0 5, fun W' hW => ?_⟩, bytes_below (Below.refl _ _) (Nat.le_refl _) 5 a⟩
    refine Kd.C_of_reads (enc := Value.int .u8) (h1 := fun _ => rfl) (d := (0 : Int)) ⟨rfl, by omega, fun hp => ⟨_, rfl, fun j hj => ?_⟩⟩
    have hb := hW w.heap.size (Nat.le_refl _) (by rw [Lib.bytesWorld_size]; omega)
    rw [add_plain]
    have hc := Lib.bytesWorld_cell w 5 a j (by omega)
    refine (World.cell?_of_block (a := ⟨w.heap.size, j, none⟩) hb).trans (hc.trans ?_)
    congr 2
    simp [bytesOf, List.getD_eq_getElem?_getD, List.getElem?_map]
    have hj2 : j < a.data.toList.length := by rw [data_length]; omega
    rw [Array.getElem?_eq_getElem (by simpa using hj2)]
    simp
  · rw [if_neg hs] at h
    cases h
theorem u32_w (n : Int) : IntKind.u32.wrap n = n % 4294967296 := by simp [IntKind.wrap, IntKind.bits, IntKind.signed]
theorem u32_u8 (n : Int) : IntKind.u32.wrap (IntKind.u8.wrap n) = n % 256 := by simp [IntKind.wrap, IntKind.bits, IntKind.signed]; omega
section
variable {P : Program} {ops : Array Oper} {rest : List Oper} {o : Oper} {a : Act} {Q : Exit → Act → World → Prop} {w : World}
theorem gate_conv {s t : TypeId} {x : Operand} (_ho : o.op = .convert s t x) (h : wpList P ops Q (o :: rest) a w) : wpList P ops Q (o :: rest) a w := h
theorem convL_ {src dst : TypeId} (N : Option Tmp) (hd : o.dst = N) (hg : o.guard = none) (x : Operand) (hop : o.op = .convert src dst x) (s : ByteArray) (hx : a.eval x = .string s)
    {u : TypeDesc} (hs : P.underlying src = some u) (ht : P.underlying dst = some (.slice 5)) (he : P.underlying 5 = some (.int .u8))
    (h : Conv w s fun e w' => ∃ v, e = .returned v ∧ wpList P ops Q rest (a.put N v) w') : wpList P ops Q (o :: rest) a w := by
  have kc := Lib.run_convert_string_bytes (P := P) w src dst 5 s hs ht he
  obtain ⟨v, hv, hk⟩ := h
  injection hv with hv
  subst hv
  subst hd
  refine Kd.event_run hg ?_ hk
  unfold execOp
  rw [hop]
  simp [hx, kc, Result.andThen]
end
end Go.Proofs.Ytflccadclkddoaa.Cv
