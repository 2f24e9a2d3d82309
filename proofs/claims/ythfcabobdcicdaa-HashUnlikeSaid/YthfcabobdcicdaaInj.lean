import Derived.KernelRfl
namespace Go.Proofs.Ythfcabobdcicdaa.P
theorem rotl_bit (x : BitVec 64) (n i : Nat) (h : n < 64) (hi : i < 64) : (x.rotateLeft n).getLsbD ((i + n) % 64) = x.getLsbD i := by
  rw [BitVec.getLsbD_rotateLeft, Nat.mod_eq_of_lt h]
  by_cases hc : i + n < 64
  · rw [Nat.mod_eq_of_lt hc]
    have h1 : decide (i + n < n) = false := by simp
    have h2 : decide (i + n < 64) = true := by simp [hc]
    rw [h1, h2]
    simp
  · have h3 : (i + n) % 64 = i + n - 64 := by omega
    rw [h3]
    have h1 : decide (i + n - 64 < n) = true := by simp; omega
    rw [h1]
    simp only [cond_true]
    congr 1
    omega
theorem rotl_inj {x y : BitVec 64} (n : Nat) (h : n < 64) (e : x.rotateLeft n = y.rotateLeft n) : x = y := by
  apply BitVec.eq_of_getLsbD_eq
  intro i hi
  rw [← rotl_bit x n i h hi, e, rotl_bit y n i h hi]
theorem rotl_xor (x y : BitVec 64) (n : Nat) : (x ^^^ y).rotateLeft n = x.rotateLeft n ^^^ y.rotateLeft n := by
  apply BitVec.eq_of_getLsbD_eq
  intro i hi
  simp only [BitVec.getLsbD_xor, BitVec.getLsbD_rotateLeft]
  cases decide (i < n % 64) <;> cases decide (i < 64) <;> simp
theorem rotl_rotl (x : BitVec 64) (m n : Nat) (hm : m < 64) (hn : n < 64) : (x.rotateLeft m).rotateLeft n = x.rotateLeft ((m + n) % 64) := by
  apply BitVec.eq_of_getLsbD_eq
  intro i hi
  obtain ⟨j, hj, rfl⟩ : ∃ j, j < 64 ∧ i = (j + n) % 64 := ⟨(i + (64 - n)) % 64, by omega, by omega⟩
  rw [rotl_bit _ n j hn hj]
  obtain ⟨k, hk, rfl⟩ : ∃ k, k < 64 ∧ j = (k + m) % 64 := ⟨(j + (64 - m)) % 64, by omega, by omega⟩
  rw [rotl_bit _ m k hm hk]
  have : ((k + m) % 64 + n) % 64 = (k + (m + n) % 64) % 64 := by omega
  rw [this, rotl_bit _ _ k (by omega) hk]
theorem rotl_zero (x : BitVec 64) : x.rotateLeft 0 = x := by
  apply BitVec.eq_of_getLsbD_eq
  intro i hi
  have := rotl_bit x 0 i (by omega) hi
  simpa [Nat.mod_eq_of_lt hi] using this
theorem rotl_nil (n : Nat) : (0#64).rotateLeft n = 0#64 := by
  apply BitVec.eq_of_getLsbD_eq
  intro i hi
  simp only [BitVec.getLsbD_rotateLeft]
  cases decide (i < n % 64) <;> simp
/-- Five parities that are what theta would make of them are nothing. -/
theorem xor_swap (a b c d : BitVec 64) (h : a = b ^^^ c) (h2 : c = d) : a = b ^^^ d := by rw [h, h2]
theorem theta_step (C : Int → BitVec 64) (s : Int) (m : Nat) (hm : m < 64) (h : ∀ x, C x = C (x - s) ^^^ (C (x + s)).rotateLeft m) :
    ∀ x, C x = C (x - 2 * s) ^^^ (C (x + 2 * s)).rotateLeft ((m + m) % 64) := by
  intro x
  have h1 := h x
  have h2 := h (x - s)
  have h3 := h (x + s)
  rw [show x - s - s = x - 2 * s by omega, show x - s + s = x by omega] at h2
  rw [show x + s - s = x by omega, show x + s + s = x + 2 * s by omega] at h3
  rw [h3, rotl_xor, rotl_rotl _ _ _ hm hm, h2] at h1
  rw [← BitVec.xor_assoc, BitVec.xor_assoc (C (x - 2 * s)), BitVec.xor_self, BitVec.xor_zero] at h1
  exact h1
theorem per_mul (C : Int → BitVec 64) (hp : ∀ x, C (x + 5) = C x) (k : Nat) : ∀ x, C (x + 5 * k) = C x := by
  induction k with
  | zero => intro x; simp
  | succ k ih => intro x; rw [show x + 5 * ((k + 1 : Nat) : Int) = (x + 5 * (k : Int)) + 5 by omega, hp, ih]
theorem theta_nil (C : Int → BitVec 64) (hp : ∀ x, C (x + 5) = C x) (h : ∀ x, C x = C (x - 1) ^^^ (C (x + 1)).rotateLeft 1) : ∀ x, C x = 0#64 := by
  have h2 := theta_step C 1 1 (by decide) h
  have h4 := theta_step C (2 * 1) 2 (by decide) h2
  have h8 := theta_step C (2 * (2 * 1)) 4 (by decide) h4
  have h16 := theta_step C (2 * (2 * (2 * 1))) 8 (by decide) h8
  have h32 := theta_step C (2 * (2 * (2 * (2 * 1)))) 16 (by decide) h16
  have h64 := theta_step C (2 * (2 * (2 * (2 * (2 * 1))))) 32 (by decide) h32
  have e : ∀ x, C x = C (x + 1) ^^^ C (x - 1) := by
    intro x
    have := h64 x
    rw [show (32 + 32) % 64 = 0 from rfl, rotl_zero] at this
    have a1 := per_mul C hp 13 (x - 2 * (2 * (2 * (2 * (2 * (2 * 1))))))
    have a2 := per_mul C hp 13 (x - 1)
    rw [show (x - 2 * (2 * (2 * (2 * (2 * (2 * 1)))))) + 5 * ((13 : Nat) : Int) = x + 1 by omega] at a1
    rw [show (x - 1) + 5 * ((13 : Nat) : Int) = x + 2 * (2 * (2 * (2 * (2 * (2 * 1))))) by omega] at a2
    rw [← a1, a2] at this
    exact this
  have e1 : ∀ x, C (x + 1) = C x ^^^ C (x - 1) := by
    intro x
    have := e x
    rw [this, BitVec.xor_assoc, BitVec.xor_self, BitVec.xor_zero]
  have e3 : ∀ x, C (x + 3) = C x := by
    intro x
    have a := e1 (x + 2)
    have b := e1 (x + 1)
    rw [show x + 2 + 1 = x + 3 by omega, show x + 2 - 1 = x + 1 by omega] at a
    rw [show x + 1 + 1 = x + 2 by omega, show x + 1 - 1 = x by omega] at b
    rw [a, b, BitVec.xor_comm (C (x + 1)), BitVec.xor_assoc, BitVec.xor_self, BitVec.xor_zero]
  have e6 : ∀ x, C (x + 1) = C x := by
    intro x
    have a := e3 (x + 3)
    rw [show x + 3 + 3 = (x + 1) + 5 by omega, hp, e3] at a
    exact a
  intro x
  have a := e1 x
  have b := e6 (x - 1)
  rw [show x - 1 + 1 = x by omega] at b
  rw [e6, ← b, BitVec.xor_self] at a
  rw [b, ← b] 
  exact a
end Go.Proofs.Ythfcabobdcicdaa.P
