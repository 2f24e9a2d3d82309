import Derived.Test.YtkpflejagagcbaaPureSizes
namespace Go.Proofs.Ytkpflejagagcbaa.P
set_option linter.unusedVariables false
open Go.RowKit Go.Proofs.YtkpflejagagcbaaW.PrintWords
/-! LogSizes, called. -/
theorem logSizes_law (s : ByteArray) (w : World) : Calls Try.prog 6 #[.string s] w fun e w' => e = .returned (.bool true) ∧ Below w.heap.size w w' :=
  trucelaw23_LogSizes.callsT s true w (Aside0.mk rfl) (sizes_true s)
end Go.Proofs.Ytkpflejagagcbaa.P
