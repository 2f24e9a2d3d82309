import Derived.Test.YtkpflejagagcbaaPureBegins
namespace Go.Proofs.Ytkpflejagagcbaa.P
set_option linter.unusedVariables false
open Go.RowKit Go.Proofs.YtkpflejagagcbaaW.PrintWords
/-! LogBegins, called. -/
theorem logBegins_law (s : ByteArray) (c : Int) (w : World) : Calls Try.prog 5 #[.string s, .int .i64 c] w fun e w' => e = .returned (.bool true) ∧ Below w.heap.size w w' := by
  obtain ⟨k, hk⟩ := begins_true s c
  exact trucelaw23_LogBegins.callsT k s c true w (Aside0.mk rfl) hk
end Go.Proofs.Ytkpflejagagcbaa.P
