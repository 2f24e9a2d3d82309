import Derived.Test.YtnedmaddjikmkaaP0
/- A function of the program as a Lean function, and the proof that the code comes to its answers; written by a program of this session, a changed copy of the print of the kit. -/
namespace Go.Proofs.Ytnedmaddjikmkaa.P
open Go.RowKit Go.Proofs.YtnedmaddjikmkaaW.PrintWords Go.Proofs.YtnedmaddjikmkaaW.PrintLast Go.Proofs.YtnedmaddjikmkaaW.PrintMore
attribute [local go_sem] max2_int min2_int max_two min_two max_three min_three max_four min_four   -- for this text's walks alone
set_option linter.unusedVariables false
set_option linter.unusedSimpArgs false

/-! ### acct_wrong: function 23 -/
def acct_wrong.f (a0 : ByteArray) (a1 : ByteArray) : Option (Bool) := if (a0.size : Int) = 20 then (some ((a1.size : Int) != 20)) else (some true)
set_option maxHeartbeats 8000000 in
set_option maxRecDepth 100000 in
theorem acct_wrong.calls (a0 : ByteArray) (a1 : ByteArray) (r : Bool) (w : World) (h : acct_wrong.f a0 a1 = some r) :
    Calls Try.prog 23 #[.string a0, .string a1] w fun e w' => e = .returned (.bool r) ∧ Drawn0 w w' := by
  have H : (if (a0.size : Int) = 20 then (some ((a1.size : Int) != 20)) else (some true)) = some r := h
  clear h
  by_cases c3 : (a0.size : Int) = 20
  · rw [if_pos c3] at H
    have c3b0 : ((a0.size : Int) == 20) = true := beq_iff_eq.mpr c3
    have c3b1 : ((a0.size : Int) != 20) = false := bne_eq_false_iff_eq.mpr c3
    clear c3
    obtain rfl := Option.some.inj H
    go_enter Try.func23, Try.ntmps23
    go_wp2
    go_ret
    exact ⟨by first | rfl | (simp; done) | (simp [*]; done), by repeat (first | exact Drawn0.refl _ | apply Drawn0.step)⟩
  · rw [if_neg c3] at H
    have c3b0 : ((a0.size : Int) == 20) = false := beq_eq_false_iff_ne.mpr c3
    have c3b1 : ((a0.size : Int) != 20) = true := bne_iff_ne.mpr c3
    obtain rfl := Option.some.inj H
    go_enter Try.func23, Try.ntmps23
    go_wp2
    go_ret
    exact ⟨by first | rfl | (simp; done) | (simp [*]; done), by repeat (first | exact Drawn0.refl _ | apply Drawn0.step)⟩

end Go.Proofs.Ytnedmaddjikmkaa.P


