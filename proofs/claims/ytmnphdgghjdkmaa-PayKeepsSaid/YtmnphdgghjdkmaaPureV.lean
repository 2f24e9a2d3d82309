import Derived.Test.YtmnphdgghjdkmaaGTransB
namespace Go.Proofs.Ytmnphdgghjdkmaa.P
set_option linter.unusedVariables false
set_option linter.unusedSimpArgs false
open Go.RowKit Go.Proofs.YtmnphdgghjdkmaaW.PrintWords
/-! The plain laws of payments, by the numbers' values. -/
theorem sub_val_le {A B : List W64} (hA : A.length = 4) (hB : B.length = 4) (h : val B ≤ val A) : val (subk A B 4).1 = val A - val B := by
  have := sub_val A B hA hB
  rw [sub_under A B hA hB, if_neg (by omega)] at this
  omega
theorem val_zero4 : val zero4 = 0 := rfl
theorem zero4_len : zero4.length = 4 := rfl
theorem sub_zero (A : List W64) (hA : A.length = 4) : (subk A zero4 4).1 = A :=
  val_inj _ _ (by rw [subk_len]; exact hA) hA (by rw [sub_val_le hA zero4_len (by rw [val_zero4]; omega), val_zero4]; omega)
theorem covN_len {H n : List W64} (hH : H.length = 4) (hn : n.length = 4) : (covN H n).length = 4 := by rw [covN]; split <;> assumption
theorem val_covN {H n : List W64} (hH : H.length = 4) (hn : n.length = 4) : val (covN H n) = min (val H) (val n) := by
  rw [covN, ncmp_val H n hH hn, cmpN]
  by_cases h : val H < val n
  · rw [if_pos h, if_pos (by decide)]; omega
  · rw [if_neg h]
    by_cases h2 : val n < val H
    · rw [if_pos h2, if_neg (by decide)]; omega
    · rw [if_neg h2, if_neg (by decide)]; omega
theorem val_covH {H n : List W64} (hH : H.length = 4) (hn : n.length = 4) : val (covH H n) = val H - val n := by
  have h := val_covN hH hn
  rw [covH, sub_val_le hH (covN_len hH hn) (by omega), h]
  omega
theorem covH_len {H n : List W64} (hH : H.length = 4) : (covH H n).length = 4 := by rw [covH, subk_len, hH]
theorem am_len (a : S40) : (am a).length = 4 := rfl
theorem sw_am (a : S40) (h : okA a) : sw (am a) = a.f1 := by
  obtain ⟨h0, h1, h2, h3⟩ := h
  show (⟨vw (BitVec.ofInt 64 a.f1.f0), vw (BitVec.ofInt 64 a.f1.f1), vw (BitVec.ofInt 64 a.f1.f2), vw (BitVec.ofInt 64 a.f1.f3)⟩ : S24) = a.f1
  rw [vw_ofInt _ h0, vw_ofInt _ h1, vw_ofInt _ h2, vw_ofInt _ h3]
theorem putA_self (a : S40) (h : okA a) : putA a (am a) = a := by
  show (⟨a.f0, sw (am a), a.f2, a.f3, a.f4⟩ : S40) = a
  rw [sw_am a h]
theorem am_putA (a : S40) (L : List W64) (hL : L.length = 4) : am (putA a L) = L := by
  obtain ⟨x0, x1, x2, x3, rfl⟩ := four L hL
  show [BitVec.ofInt 64 (vw x0), BitVec.ofInt 64 (vw x1), BitVec.ofInt 64 (vw x2), BitVec.ofInt 64 (vw x3)] = _
  rw [of_vw, of_vw, of_vw, of_vw]
theorem okA_putA (a : S40) (L : List W64) : okA (putA a L) := ⟨ok1_vw _, ok1_vw _, ok1_vw _, ok1_vw _⟩
theorem wl4_sw (L : List W64) (hL : L.length = 4) : wl4 (sw L).f0 (sw L).f1 (sw L).f2 (sw L).f3 = L := am_putA z40 L hL
theorem ok4_sw (L : List W64) : ok4 (sw L).f0 (sw L).f1 (sw L).f2 (sw L).f3 := ⟨ok1_vw _, ok1_vw _, ok1_vw _, ok1_vw _⟩
/-- What is held ahead of a place. -/
theorem val_hAt (H : List W64) (l : List S40) (hH : H.length = 4) (k : Nat) : val (hAt H l (k + 1)) = val (hAt H l k) - val (am (at40 l k)) := val_covH (hAt_len H l hH k) (am_len _)
theorem val_cAt (H : List W64) (l : List S40) (hH : H.length = 4) (k : Nat) : val (cAt H l k) = min (val (hAt H l k)) (val (am (at40 l k))) := val_covN (hAt_len H l hH k) (am_len _)
theorem oAt_put (H : List W64) (l : List S40) (W : List Int) (k : Nat) : oAt H l W k = putA (at40 l k) (subk (am (at40 l k)) (nAt H l W k) 4).1 := rfl
theorem nAt_le (H : List W64) (l : List S40) (W : List Int) (hH : H.length = 4) (k : Nat) : val (nAt H l W k) ≤ val (am (at40 l k)) ∧ val (nAt H l W k) ≤ val (hAt H l k) := by
  rw [nAt]
  split
  · rw [val_zero4]; omega
  · rw [val_cAt H l hH]; omega
/-- Money that is left is at least what is held ahead of a place. -/
theorem lAt_ge (H : List W64) (l : List S40) (W : List Int) (hH : H.length = 4) (k : Nat) : val (hAt H l k) ≤ val (lAt H l W k) := by
  induction k with
  | zero => exact Nat.le_refl _
  | succ k ih =>
    have h1 := nAt_le H l W hH k
    have h2 : nAt H l W k = zero4 ∨ nAt H l W k = cAt H l k := by rw [nAt]; split <;> simp
    rw [val_hAt H l hH, lAt, sub_val_le (lAt_len H l W hH k) (nAt_len H l W hH k) (by omega)]
    rcases h2 with h2 | h2
    · rw [h2, val_zero4]; omega
    · rw [h2, val_cAt H l hH]; omega
theorem val_lAt (H : List W64) (l : List S40) (W : List Int) (hH : H.length = 4) (k : Nat) : val (lAt H l W (k + 1)) = val (lAt H l W k) - val (nAt H l W k) ∧ val (nAt H l W k) ≤ val (lAt H l W k) := by
  have h1 := nAt_le H l W hH k
  have h2 := lAt_ge H l W hH k
  exact ⟨by rw [lAt, sub_val_le (lAt_len H l W hH k) (nAt_len H l W hH k) (by omega)], by omega⟩
theorem val_out (H : List W64) (l : List S40) (W : List Int) (hH : H.length = 4) (k : Nat) : val (am (oAt H l W k)) = val (am (at40 l k)) - val (nAt H l W k) := by
  have h1 := nAt_le H l W hH k
  rw [oAt_put, am_putA _ _ (by rw [subk_len]; rfl), sub_val_le (am_len _) (nAt_len H l W hH k) (by omega)]
end Go.Proofs.Ytmnphdgghjdkmaa.P
