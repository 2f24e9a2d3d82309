import Derived.Test.YtmnphdgghjdkmaaPureAll
import Derived.Test.YtmnphdgghjdkmaaOpen
namespace Go.Proofs.Ytmnphdgghjdkmaa.P
set_option linter.unusedVariables false
open Go.RowKit Go.Proofs.YtmnphdgghjdkmaaW.PrintWords
/-! PayAll, called. -/
theorem payAll_law (l : List S40) (A : Option Addr) (c : Nat) (hl : l.length ≤ c) (w : World) (hC : k40.C w A l.length l) (hok : okL l) (a : S24) (h4 : ok4 a.f0 a.f1 a.f2 a.f3) :
    Calls Try.prog 6 #[.slice A l.length c, .agg #[.int .u64 a.f0, .int .u64 a.f1, .int .u64 a.f2, .int .u64 a.f3]] w fun e w' => e = .returned (.bool true) ∧ Below w.heap.size w w' := by
  obtain ⟨k, hk⟩ := all_true l hok a.f0 a.f1 a.f2 a.f3 h4
  exact trucelaw17_PayAll.callsT k A c l a.f0 a.f1 a.f2 a.f3 true w hC hl (Aside0.mk rfl) hk
end Go.Proofs.Ytmnphdgghjdkmaa.P
