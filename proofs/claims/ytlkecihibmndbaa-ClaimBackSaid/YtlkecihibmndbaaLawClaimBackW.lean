import Derived.Test.YtlkecihibmndbaaPureBack
import Derived.Test.YtlkecihibmndbaaOpen
namespace Go.Proofs.Ytlkecihibmndbaa.P
set_option linter.unusedVariables false
open Go.RowKit Go.Proofs.YtlkecihibmndbaaW.PrintWords
/-! ClaimBack, called. -/
theorem claimBack_law (l : List S39) (A : Option Addr) (c : Nat) (hl : l.length ≤ c) (w : World) (hC : k39.C w A l.length l) (hok : okL l)
    (ch : ByteArray) (i j : Int) (a : S25) (ha : ok4 a.f0 a.f1 a.f2 a.f3) (b : S25) (hb : ok4 b.f0 b.f1 b.f2 b.f3) :
    Calls Try.prog 5 #[.slice A l.length c, .string ch, .int .i64 i, .int .i64 j, .agg #[.int .u64 a.f0, .int .u64 a.f1, .int .u64 a.f2, .int .u64 a.f3], .agg #[.int .u64 b.f0, .int .u64 b.f1, .int .u64 b.f2, .int .u64 b.f3]] w fun e w' => e = .returned (.bool true) ∧ Below w.heap.size w w' := by
  obtain ⟨k, hk⟩ := back_true l hok ch i j a.f0 a.f1 a.f2 a.f3 b.f0 b.f1 b.f2 b.f3 ha hb
  exact trucelaw18_ClaimBack.callsT k A c l ch i j a.f0 a.f1 a.f2 a.f3 b.f0 b.f1 b.f2 b.f3 true w hC hl (Aside0.mk rfl) hk
end Go.Proofs.Ytlkecihibmndbaa.P
