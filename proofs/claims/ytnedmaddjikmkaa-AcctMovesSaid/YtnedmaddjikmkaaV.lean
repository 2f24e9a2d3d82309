import Derived.Test.YtnedmaddjikmkaaProg
import Derived.WalkKit
import Derived.KernelRfl
import Derived.Laws.Bits64
import Derived.Laws.BitsLemmas
import Derived.Below
import Derived.Test.YtnedmaddjikmkaaWWords
/- Words of 64 bits as the values of the code: what the operations of the code are of them. -/
namespace Go.Proofs.Ytnedmaddjikmkaa.P
set_option linter.unusedVariables false
set_option linter.unusedSimpArgs false
open Go.RowKit
abbrev W64 := BitVec 64
/-- The code's number of a word. -/
def vw (b : W64) : Int := (b.toNat : Int)
theorem vw_lo (b : W64) : 0 ≤ vw b := by unfold vw; omega
theorem vw_hi (b : W64) : vw b < 18446744073709551616 := by unfold vw; have := b.isLt; omega
theorem of_vw (b : W64) : BitVec.ofInt 64 (vw b) = b := by
  unfold vw
  rw [BitVec.ofInt_natCast]
  simp
end Go.Proofs.Ytnedmaddjikmkaa.P


