import Derived.Test.YtkpflejagagcbaaGSum
import Derived.Test.YtkpflejagagcbaaGRSum
namespace Go.Proofs.Ytkpflejagagcbaa.P
set_option linter.unusedVariables false
set_option linter.unusedSimpArgs false
open Go.RowKit Go.Proofs.YtkpflejagagcbaaW.PrintWords
/-! The hash, of texts that are not too long. -/
theorem hsum_size (s : ByteArray) : (hsum s).size = 32 := by
  show (outL _ 32).toArray.size = 32
  simp [outL]
def hash_Sum.f (s : ByteArray) : Option ByteArray := if s.size ≤ 100000 then some (hsum s) else none
def truceref05_Sum.f (s : ByteArray) : Option ByteArray := if s.size ≤ 100000 then some (hsum s) else none
theorem hash_Sum.calls (s r : ByteArray) (w : World) (h : hash_Sum.f s = some r) : Calls Try.prog 18 #[.string s] w fun e w' => e = .returned (.string r) ∧ Below w.heap.size w w' := by
  unfold hash_Sum.f at h
  split at h
  · rename_i hs
    injection h with h
    subst h
    exact sum_any s hs w
  · cases h
theorem truceref05_Sum.calls (s r : ByteArray) (w : World) (h : truceref05_Sum.f s = some r) : Calls Try.prog 16 #[.string s] w fun e w' => e = .returned (.string r) ∧ Below w.heap.size w w' := by
  unfold truceref05_Sum.f at h
  split at h
  · rename_i hs
    injection h with h
    subst h
    exact rsum_any s hs w
  · cases h
end Go.Proofs.Ytkpflejagagcbaa.P
