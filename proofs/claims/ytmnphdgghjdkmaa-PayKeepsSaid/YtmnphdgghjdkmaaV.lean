/- Words of 64 bits as the values of the code: what the operations of the code are of them. -/
import Derived.Test.YtmnphdgghjdkmaaProg
import Derived.WalkKit
import Derived.KernelRfl
import Derived.Laws.Bits64
import Derived.Laws.BitsLemmas
import Derived.Below
import Derived.Test.YtmnphdgghjdkmaaWWords
namespace Go.Proofs.Ytmnphdgghjdkmaa.P
set_option linter.unusedVariables false
set_option linter.unusedSimpArgs false
open Go.RowKit
abbrev W64 := BitVec 64
/-- The code's number of a word. -/
def vw (b : W64) : Int := (b.toNat : Int)
theorem vw_lo (b : W64) : 0 ≤ vw b := by unfold vw; omega
theorem vw_hi (b : W64) : vw b < 18446744073709551616 := by unfold vw; have := b.isLt; omega
theorem of_vw (b : W64) : BitVec.ofInt 64 (vw b) = b := by
  unfold vw
  rw [BitVec.ofInt_natCast]
  simp
theorem wrap_nat (n : Nat) (h : n < 18446744073709551616) : IntKind.u64.wrap (n : Int) = (n : Int) := by
  rw [IntKind.wrap_u64]; omega
theorem vw_xor (a b : W64) : bits .xor .u64 (vw a) (vw b) = vw (a ^^^ b) := by
  show IntKind.u64.wrap ((BitVec.ofInt 64 (vw a) ^^^ BitVec.ofInt 64 (vw b)).toNat : Int) = _
  rw [of_vw, of_vw, wrap_nat _ (BitVec.isLt _)]; rfl
theorem vw_or (a b : W64) : bits .or .u64 (vw a) (vw b) = vw (a ||| b) := by
  show IntKind.u64.wrap ((BitVec.ofInt 64 (vw a) ||| BitVec.ofInt 64 (vw b)).toNat : Int) = _
  rw [of_vw, of_vw, wrap_nat _ (BitVec.isLt _)]; rfl
theorem vw_and (a b : W64) : bits .and .u64 (vw a) (vw b) = vw (a &&& b) := by
  show IntKind.u64.wrap ((BitVec.ofInt 64 (vw a) &&& BitVec.ofInt 64 (vw b)).toNat : Int) = _
  rw [of_vw, of_vw, wrap_nat _ (BitVec.isLt _)]; rfl
theorem pow_cast (n : Nat) : (2 : Int) ^ n = ((2 ^ n : Nat) : Int) := by simp
theorem vw_shl (a : W64) (n : Nat) : IntKind.u64.wrap (vw a * 2 ^ n) = vw (a <<< n) := by
  rw [IntKind.wrap_u64]
  unfold vw
  rw [BitVec.toNat_shiftLeft, Nat.shiftLeft_eq, pow_cast, ← Int.natCast_mul]
  generalize a.toNat * 2 ^ n = p
  omega
theorem vw_shr (a : W64) (n : Nat) : vw a / 2 ^ n = vw (a >>> n) := by
  unfold vw
  rw [BitVec.toNat_ushiftRight, Nat.shiftRight_eq_div_pow, pow_cast]
  exact (Int.natCast_ediv _ _).symm
theorem vw_half (a : W64) : vw a / (2 : Int) = vw (a >>> 1) := by have h := vw_shr a 1; rwa [Int.pow_one] at h
theorem vw_not (a : W64) : bits .xor .u64 (if IntKind.u64.signed = true then -1 else IntKind.u64.max) (vw a) = vw (~~~ a) := by
  have h : (if IntKind.u64.signed = true then -1 else IntKind.u64.max) = vw (BitVec.allOnes 64) := by decide
  rw [h, vw_xor, BitVec.allOnes_xor]
theorem vw_zero : vw 0#64 = 0 := rfl
end Go.Proofs.Ytmnphdgghjdkmaa.P
