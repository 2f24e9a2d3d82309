/- What turns a word: hash.turn and the document's turn are BitVec's rotateLeft. -/
import Derived.Test.YtkpflejagagcbaaV
import Derived.Lib.Hide
namespace Go.Proofs.Ytkpflejagagcbaa.P
set_option linter.unusedVariables false
open Go.RowKit
theorem rot_eq (a : W64) (n : Nat) (h : n < 64) : a <<< n ||| (a >>> 1) >>> (63 - n) = a.rotateLeft n := by
  rw [BitVec.rotateLeft_def, Nat.mod_eq_of_lt h, ← BitVec.shiftRight_add]
  rw [show 1 + (63 - n) = 64 - n by omega]
theorem rot_eq2 (a : W64) (n : Nat) (h : n < 64) : a <<< n ||| a >>> (64 - n) = a.rotateLeft n := by
  rw [BitVec.rotateLeft_def, Nat.mod_eq_of_lt h]
theorem turn_any (a : W64) (n : Int) (h0 : 0 ≤ n) (h1 : n < 64) (w : World) :
    Calls Try.prog 32 #[.int .u64 (vw a), .int .u64 n] w fun e w' => e = .returned (.int .u64 (vw (a.rotateLeft n.toNat))) ∧ w = w' := by
  have hv := vw_lo a
  go_enter Try.func32, Try.ntmps32
  go_wp2
  go_ret
  refine ⟨?_, rfl⟩
  show Ending.returned (.int .u64 (bits BinOp.or IntKind.u64 (IntKind.u64.wrap (vw a * 2 ^ n.toNat)) (vw a / 2 / 2 ^ (63 - n).toNat))) = _
  rw [vw_half, vw_shl, vw_shr, vw_or, show (63 - n).toNat = 63 - n.toNat by omega, rot_eq a n.toNat (by omega)]
theorem rturn_any (a : W64) (n : Int) (h0 : 0 ≤ n) (h1 : n < 64) (w : World) :
    Calls Try.prog 26 #[.int .u64 (vw a), .int .i64 n] w fun e w' => e = .returned (.int .u64 (vw (a.rotateLeft n.toNat))) ∧ w = w' := by
  have hv := vw_lo a
  by_cases hn : n = 0
  · have hq : (n == 0) = true := beq_iff_eq.2 hn
    have Hn : Hid (n = 0) := Lib.hid hn
    clear hn
    go_enter Try.func26, Try.ntmps26
    go_wp2
    go_ret
    refine ⟨?_, rfl⟩
    show Ending.returned (.int .u64 (vw a)) = _
    have hz : a >>> 64 = 0#64 := BitVec.ushiftRight_eq_zero (Nat.le_refl _)
    have hr : vw a = vw (a.rotateLeft (0 : Int).toNat) := by
      rw [← rot_eq2 a (0 : Int).toNat (by decide)]
      simp [hz]
    rw [Hn.out]
    rw [← hr]
  · have hq : (n == 0) = false := beq_eq_false_iff_ne.2 hn
    go_enter Try.func26, Try.ntmps26
    go_wp2
    go_ret
    refine ⟨?_, rfl⟩
    show Ending.returned (.int .u64 (bits BinOp.or IntKind.u64 (IntKind.u64.wrap (vw a * 2 ^ n.toNat)) (vw a / 2 ^ (64 - n).toNat))) = _
    rw [vw_shl, vw_shr, vw_or, show (64 - n).toNat = 64 - n.toNat by omega, rot_eq2 a n.toNat (by omega)]
end Go.Proofs.Ytkpflejagagcbaa.P
