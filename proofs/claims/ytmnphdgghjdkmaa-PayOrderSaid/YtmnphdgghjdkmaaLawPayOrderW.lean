import Derived.Test.YtmnphdgghjdkmaaPureOrd2
import Derived.Test.YtmnphdgghjdkmaaOpen
namespace Go.Proofs.Ytmnphdgghjdkmaa.P
set_option linter.unusedVariables false
open Go.RowKit Go.Proofs.YtmnphdgghjdkmaaW.PrintWords
/-! PayOrder, called. -/
theorem V_of_C {w : World} {A : Option Addr} {c : Nat} {l : List S40} (hl : l.length ≤ c) (hC : k40.C w A l.length l) : Kd.V k40 40 w w.heap.size (fun k => k < w.heap.size) (.slice A l.length c) l :=
  Kd.V_mk hl (Kd.C_F k40_heap hC)
theorem payOrder_law (a : S24) (h4 : ok4 a.f0 a.f1 a.f2 a.f3) (l : List S40) (A : Option Addr) (c : Nat) (hl : l.length ≤ c) (w : World) (hC : k40.C w A l.length l) (hok : okL l) :
    Calls Try.prog 4 #[.agg #[.int .u64 a.f0, .int .u64 a.f1, .int .u64 a.f2, .int .u64 a.f3], .slice A l.length c] w fun e w' => e = .returned (.bool true) ∧ Below w.heap.size w w' := by
  obtain ⟨k, hk⟩ := order_true a.f0 a.f1 a.f2 a.f3 h4 l hok
  exact trucelaw17_PayOrder.callsT k a.f0 a.f1 a.f2 a.f3 _ A c l true w (V_of_C hl hC) (Aside0.mk rfl) hk
end Go.Proofs.Ytmnphdgghjdkmaa.P
