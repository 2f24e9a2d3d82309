import Derived.Test.YtlkecihibmndbaaPureKeeps
import Derived.Test.YtlkecihibmndbaaOpen
namespace Go.Proofs.Ytlkecihibmndbaa.P
set_option linter.unusedVariables false
open Go.RowKit Go.Proofs.YtlkecihibmndbaaW.PrintWords
/-! ClaimKeeps, called. -/
theorem claimKeeps_law (l : List S39) (A : Option Addr) (c : Nat) (hl : l.length ≤ c) (w : World) (hC : k39.C w A l.length l) (hok : okL l) (n : Int) (m : List S39) (A2 : Option Addr) (c2 : Nat) (hm : m.length ≤ c2) (hC2 : k39.C w A2 m.length m) (hmok : okL m)
    (ch : ByteArray) (i j : Int) (a : S25) (ha : ok4 a.f0 a.f1 a.f2 a.f3) (b : S25) (hb : ok4 b.f0 b.f1 b.f2 b.f3) :
    Calls Try.prog 4 #[.slice A l.length c, .int .i64 n, .slice A2 m.length c2, .string ch, .int .i64 i, .int .i64 j, .agg #[.int .u64 a.f0, .int .u64 a.f1, .int .u64 a.f2, .int .u64 a.f3], .agg #[.int .u64 b.f0, .int .u64 b.f1, .int .u64 b.f2, .int .u64 b.f3]] w fun e w' => e = .returned (.bool true) ∧ Below w.heap.size w w' := by
  obtain ⟨k, hk⟩ := keeps_true l m hok hmok n ch i j a.f0 a.f1 a.f2 a.f3 b.f0 b.f1 b.f2 b.f3 ha hb
  exact trucelaw18_ClaimKeeps.callsT k A c l n A2 c2 m ch i j a.f0 a.f1 a.f2 a.f3 b.f0 b.f1 b.f2 b.f3 true w hC hl hC2 hm (Aside0.mk rfl) hk
end Go.Proofs.Ytlkecihibmndbaa.P
