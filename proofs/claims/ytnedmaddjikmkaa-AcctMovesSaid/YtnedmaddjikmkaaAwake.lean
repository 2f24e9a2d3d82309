import Derived.Test.YtnedmaddjikmkaaPureFit
import Derived.Test.YtnedmaddjikmkaaOpen
import Derived.Test.YtnedmaddjikmkaaPtrucelaw16awake
/- Chapter 16's example comes to true, at any greater bound too. -/
namespace Go.Proofs.Ytnedmaddjikmkaa.P
theorem awake_true : ∀ k, trucelaw16_awake.f (k + 5) = some true
  | 0 => by decide +kernel
  | k + 1 => trucelaw16_awake.mono _ _ (awake_true k)
theorem awake_val (k : Nat) (hk : 5 ≤ k) : trucelaw16_awake.f k = some true := by
  obtain ⟨j, rfl⟩ : ∃ j, k = j + 5 := ⟨k - 5, by omega⟩
  exact awake_true j
end Go.Proofs.Ytnedmaddjikmkaa.P

