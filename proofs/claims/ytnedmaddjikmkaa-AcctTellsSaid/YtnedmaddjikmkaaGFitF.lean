/- acct.Fit in the print's form: it is the document's Fit. -/
import Derived.Test.YtnedmaddjikmkaaGFit
namespace Go.Proofs.Ytnedmaddjikmkaa.P
set_option linter.unusedVariables false
open Go.RowKit Go.Proofs.YtnedmaddjikmkaaW.PrintWords
def acct_Fit.f (l : List S39) : Option Bool := if okL l ∧ l.length ≤ 100000 then truceref16_Fit.f (3 * l.length + 6) l else none
theorem acct_Fit.calls (A0 : Option Addr) (c0 : Nat) (l0 : List S39) (r : Bool) (w : World) (hr0 : Kd.C k39 w A0 l0.length l0) (hc0 : l0.length ≤ c0) (h : acct_Fit.f l0 = some r) :
    Calls Try.prog 20 #[.slice A0 l0.length c0] w fun e w' => e = .returned (.bool r) ∧ Below w.heap.size w w' := by
  unfold acct_Fit.f at h
  split at h
  · rename_i hk
    obtain ⟨b, h1, h2⟩ := rfit_val hk.1 (3 * l0.length + 6) (by omega)
    rw [h1] at h
    obtain rfl := Option.some.inj h
    refine (afit_any l0 hk.1 A0 c0 w hr0 hc0 hk.2).mono ?_
    rintro e w' ⟨b', rfl, h3, hb⟩
    have : b' = b := Bool.eq_iff_iff.2 (h3.trans h2.symm)
    subst this
    exact ⟨rfl, hb⟩
  · cases h
end Go.Proofs.Ytnedmaddjikmkaa.P
