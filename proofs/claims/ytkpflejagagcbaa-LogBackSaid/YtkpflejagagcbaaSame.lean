import Derived.Test.YtkpflejagagcbaaRound
namespace Go.Proofs.Ytkpflejagagcbaa.P
set_option linter.unusedVariables false
open Go.RowKit
/-- What the seven steps of a round put into the first part; and the register behind them. -/
def kx (l : W64) : Nat → W64 × W64
  | 0 => (0#64, l)
  | j + 1 => ((kx l j).1 ^^^ ((kx l j).2 &&& 1#64) <<< (2 ^ j - 1), lnext (kx l j).2)
theorem gw_set0 (F : List W64) (v : W64) (h : 0 < F.length) : gw (F.set 0 v) 0 = v := by
  cases F with
  | nil => simp at h
  | cons x xs => rfl
theorem set0_self (F : List W64) (h : 0 < F.length) : F.set 0 (gw F 0) = F := by
  cases F with
  | nil => simp at h
  | cons x xs => rfl
theorem inn_eq (F : List W64) (l : W64) (h : 0 < F.length) (j : Nat) : inn F l j = (F.set 0 (gw F 0 ^^^ (kx l j).1), (kx l j).2) := by
  induction j with
  | zero => rw [inn, kx, BitVec.xor_zero, set0_self F h]
  | succ j ih => rw [inn, ih, kx]; simp only [gw_set0 F _ h, List.set_set, BitVec.xor_assoc]
def lk : Nat → W64
  | 0 => 1#64
  | k + 1 => (kx (lk k) 7).2
theorem hp_lk (L : List W64) (h : L.length = 25) (k : Nat) : (hp L k).2 = lk k := by
  induction k with
  | zero => rfl
  | succ k ih =>
    rw [hp, inn_eq _ _ (by rw [folded_len, moved_len, mixed_len, hp_len]; omega), ih, lk]
set_option maxRecDepth 100000 in
theorem marks_same : ∀ k < 24, (kx (lk k) 7).1 = gw (mkO 24).1 k := by decide +kernel
theorem hp_rP (L : List W64) (h : L.length = 25) : ∀ k, k ≤ 24 → (hp L k).1 = rP L k
  | 0, _ => rfl
  | k + 1, hk => by
    have hl : (rP L k).length = 25 := by rw [rP_len]; exact h
    have ih := hp_rP L h k (by omega)
    rw [hp, inn_eq _ _ (by rw [folded_len, moved_len, mixed_len, hp_len]; omega), hp_lk L h k, marks_same k (by omega), ih, round_eq _ hl, rP, rRound]
theorem permuted_eq (L : List W64) (h : L.length = 25) : permuted L = rP L 24 := by rw [permuted, hp_rP L h 24 (Nat.le_refl _)]
end Go.Proofs.Ytkpflejagagcbaa.P
