-- Out of texts of this seat by a program of this session: what the claim does not reach is struck
import Derived.Test.YtchklgkakefhbaaZEnc
namespace Go.Proofs.Ytchklgkakefhbaa.Wr
open Go Go.RowKit Go.Shelf Go.Proofs.Ytchklgkakefhbaa.Each Go.Proofs.YtchklgkakefhbaaW.PrintWords Go.Proofs.YtchklgkakefhbaaW.PrintLast
set_option linter.unusedVariables false
set_option linter.unusedSimpArgs false
theorem BR.lit {W : World} {b : Nat} (hb : b ≤ W.heap.size) (x : Int) : BR (W.alloc (.cells #[.int .u8 x] 5 (0, 0))) b (.slice (some ⟨W.heap.size, 0, none⟩) 1 1) [x] :=
  Kd.R_of_own (by have h2 := World.ownsRow_lit (base := b) (e := 5) (size := 1) W #[.int .u8 x] 1 hb (by decide) rfl; exact h2) (fun _ _ => trivial)
end Go.Proofs.Ytchklgkakefhbaa.Wr
