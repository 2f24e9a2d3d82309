/- AcctTells: its plain law, and the law called. -/
import Derived.Test.YtnedmaddjikmkaaAwake
import Derived.Test.YtnedmaddjikmkaaGFitF
import Derived.Test.YtnedmaddjikmkaaPtrucelaw16AcctTells
namespace Go.Proofs.Ytnedmaddjikmkaa.P
set_option linter.unusedVariables false
set_option linter.unusedSimpArgs false
open Go.RowKit Go.Proofs.YtnedmaddjikmkaaW.PrintWords
theorem tells_true (l : List S39) (hl : okL l) (who asset : ByteArray) : trucelaw16_AcctTells.f 5000 l who asset = some true := by
  rw [trucelaw16_AcctTells.f, few_val, Option.bind_some]
  by_cases c1 : l.length ≤ 100
  · rw [decide_eq_true c1, if_pos rfl]
    obtain ⟨b, h1, h2⟩ := rfit_val hl 5000 (by omega)
    obtain ⟨b1, g1, g2⟩ := rfit_val hl 4999 (by omega)
    obtain ⟨b2, e1, e2⟩ := rfit_val hl (3 * l.length + 6) (by omega)
    obtain rfl : b1 = b := Bool.eq_iff_iff.2 (g2.trans h2.symm)
    obtain rfl : b2 = b1 := Bool.eq_iff_iff.2 (e2.trans g2.symm)
    have hf : acct_Fit.f l = some b2 := by rw [acct_Fit.f, if_pos ⟨hl, by omega⟩, e1]
    have hj : trucelaw16_AcctTells.j0 5000 l who asset false = some true := by
      rw [trucelaw16_AcctTells.j0, if_neg (by simp), g1, Option.bind_some]
      cases b2 with
      | false => rw [if_neg (by simp), awake_val _ (by omega), Option.bind_some]
      | true =>
        have F := g2.1 rfl
        rw [if_pos rfl, rget_val F.up (by omega) who asset 4999 (by omega), acct_Get.f, if_pos ⟨F.up, by omega⟩, Option.bind_some, Option.bind_some, if_pos (by simp), awake_val _ (by omega), Option.bind_some]
    rw [asum_val hl (by omega) asset 5000 (by omega), rsum_val hl (by omega) asset 5000 (by omega), Option.bind_some, Option.bind_some, hf, Option.bind_some, h1, Option.bind_some, if_neg (by simp), if_neg (by simp)]
    rw [show ((tell (sumT asset l zero4)).2.2.2.2 != (tell (sumT asset l zero4)).2.2.2.2) = false by simp]
    exact hj
  · rw [decide_eq_false c1, if_neg (by simp), awake_val _ (by omega), Option.bind_some]
theorem acctTells_law (l : List S39) (A : Option Addr) (c : Nat) (hl : l.length ≤ c) (w : World) (hC : k39.C w A l.length l) (hok : okL l) (who asset : ByteArray) :
    Calls Try.prog 6 #[.slice A l.length c, .string who, .string asset] w fun e w' => e = .returned (.bool true) ∧ Below w.heap.size w w' :=
  trucelaw16_AcctTells.callsT 5000 A c l who asset true w hC hl (Aside0.mk rfl) (tells_true l hok who asset)
end Go.Proofs.Ytnedmaddjikmkaa.P
