import Derived.Test.YtnedmaddjikmkaaGNum
namespace Go.Proofs.Ytnedmaddjikmkaa.P
set_option linter.unusedVariables false
set_option linter.unusedSimpArgs false
open Go.RowKit Go.Proofs.YtnedmaddjikmkaaW.PrintWords
/-! Numbers of four words, by their value. -/
def val (L : List W64) : Nat := (gw L 0).toNat + (gw L 1).toNat * 18446744073709551616 + (gw L 2).toNat * 340282366920938463463374607431768211456 + (gw L 3).toNat * 6277101735386680763835789423207666416102355444464034512896
theorem four (L : List W64) (h : L.length = 4) : ∃ a b c d, L = [a, b, c, d] := by
  match L, h with
  | [a, b, c, d], _ => exact ⟨a, b, c, d, rfl⟩
theorem val_four (a b c d : W64) : val [a, b, c, d] = a.toNat + b.toNat * 18446744073709551616 + c.toNat * 340282366920938463463374607431768211456 + d.toNat * 6277101735386680763835789423207666416102355444464034512896 := rfl
theorem val_lt (L : List W64) : val L < 115792089237316195423570985008687907853269984665640564039457584007913129639936 := by
  have h0 := (gw L 0).isLt
  have h1 := (gw L 1).isLt
  have h2 := (gw L 2).isLt
  have h3 := (gw L 3).isLt
  unfold val
  omega
theorem add_one (a b c : Nat) (ha : a < 18446744073709551616) (hb : b < 18446744073709551616) (hc : c ≤ 1) : (BitVec.ofNat 64 (a + b + c)).toNat + (a + b + c) / 18446744073709551616 * 18446744073709551616 = a + b + c := by
  rw [BitVec.toNat_ofNat]; omega
theorem add_val (A B : List W64) (hA : A.length = 4) (hB : B.length = 4) : val (addk A B 4).1 + (addk A B 4).2 * 115792089237316195423570985008687907853269984665640564039457584007913129639936 = val A + val B := by
  obtain ⟨a0, a1, a2, a3, rfl⟩ := four A hA
  obtain ⟨b0, b1, b2, b3, rfl⟩ := four B hB
  have g1 := addk_c [a0, a1, a2, a3] [b0, b1, b2, b3] 1
  have g2 := addk_c [a0, a1, a2, a3] [b0, b1, b2, b3] 2
  have g3 := addk_c [a0, a1, a2, a3] [b0, b1, b2, b3] 3
  simp only [addk, gw, List.getD_cons_zero, List.getD_cons_succ, List.set_cons_zero, List.set_cons_succ] at g1 g2 g3 ⊢
  rw [val_four, val_four, val_four]
  have k0 := add_one a0.toNat b0.toNat 0 a0.isLt b0.isLt (by omega)
  generalize (a0.toNat + b0.toNat + 0) / 18446744073709551616 = c1 at *
  have k1 := add_one a1.toNat b1.toNat c1 a1.isLt b1.isLt g1
  generalize (a1.toNat + b1.toNat + c1) / 18446744073709551616 = c2 at *
  have k2 := add_one a2.toNat b2.toNat c2 a2.isLt b2.isLt g2
  generalize (a2.toNat + b2.toNat + c2) / 18446744073709551616 = c3 at *
  have k3 := add_one a3.toNat b3.toNat c3 a3.isLt b3.isLt g3
  generalize (a3.toNat + b3.toNat + c3) / 18446744073709551616 = c4 at *
  generalize (BitVec.ofNat 64 (a0.toNat + b0.toNat + 0)).toNat = s0 at *
  generalize (BitVec.ofNat 64 (a1.toNat + b1.toNat + c1)).toNat = s1 at *
  generalize (BitVec.ofNat 64 (a2.toNat + b2.toNat + c2)).toNat = s2 at *
  generalize (BitVec.ofNat 64 (a3.toNat + b3.toNat + c3)).toNat = s3 at *
  omega
theorem sub_one (a b c : Nat) (ha : a < 18446744073709551616) (hb : b < 18446744073709551616) (hc : c ≤ 1) : (BitVec.ofNat 64 (a + 18446744073709551616 - b - c)).toNat + b + c = a + (if a < b + c then 1 else 0) * 18446744073709551616 := by
  rw [BitVec.toNat_ofNat]; split <;> omega
theorem sub_val (A B : List W64) (hA : A.length = 4) (hB : B.length = 4) : val (subk A B 4).1 + val B = val A + (subk A B 4).2 * 115792089237316195423570985008687907853269984665640564039457584007913129639936 := by
  obtain ⟨a0, a1, a2, a3, rfl⟩ := four A hA
  obtain ⟨b0, b1, b2, b3, rfl⟩ := four B hB
  have g1 := subk_c [a0, a1, a2, a3] [b0, b1, b2, b3] 1
  have g2 := subk_c [a0, a1, a2, a3] [b0, b1, b2, b3] 2
  have g3 := subk_c [a0, a1, a2, a3] [b0, b1, b2, b3] 3
  simp only [subk, gw, List.getD_cons_zero, List.getD_cons_succ, List.set_cons_zero, List.set_cons_succ] at g1 g2 g3 ⊢
  rw [val_four, val_four, val_four]
  have k0 := sub_one a0.toNat b0.toNat 0 a0.isLt b0.isLt (by omega)
  generalize (if a0.toNat < b0.toNat + 0 then 1 else 0) = c1 at *
  have k1 := sub_one a1.toNat b1.toNat c1 a1.isLt b1.isLt g1
  generalize (if a1.toNat < b1.toNat + c1 then 1 else 0) = c2 at *
  have k2 := sub_one a2.toNat b2.toNat c2 a2.isLt b2.isLt g2
  generalize (if a2.toNat < b2.toNat + c2 then 1 else 0) = c3 at *
  have k3 := sub_one a3.toNat b3.toNat c3 a3.isLt b3.isLt g3
  generalize (if a3.toNat < b3.toNat + c3 then 1 else 0) = c4 at *
  generalize (BitVec.ofNat 64 (a0.toNat + 18446744073709551616 - b0.toNat - 0)).toNat = s0 at *
  generalize (BitVec.ofNat 64 (a1.toNat + 18446744073709551616 - b1.toNat - c1)).toNat = s1 at *
  generalize (BitVec.ofNat 64 (a2.toNat + 18446744073709551616 - b2.toNat - c2)).toNat = s2 at *
  generalize (BitVec.ofNat 64 (a3.toNat + 18446744073709551616 - b3.toNat - c3)).toNat = s3 at *
  omega
theorem add_over (A B : List W64) (hA : A.length = 4) (hB : B.length = 4) : (addk A B 4).2 = if val A + val B < 115792089237316195423570985008687907853269984665640564039457584007913129639936 then 0 else 1 := by
  have h := add_val A B hA hB
  have h1 := val_lt (addk A B 4).1
  have h4 := addk_c A B 4
  split <;> omega
/-! The form of the print: numbers of the code. -/
def wl4 (a b c d : Int) : List W64 := [BitVec.ofInt 64 a, BitVec.ofInt 64 b, BitVec.ofInt 64 c, BitVec.ofInt 64 d]
def ok1 (a : Int) : Prop := 0 ≤ a ∧ a < 18446744073709551616
instance (a : Int) : Decidable (ok1 a) := inferInstanceAs (Decidable (_ ∧ _))
def ok4 (a b c d : Int) : Prop := ok1 a ∧ ok1 b ∧ ok1 c ∧ ok1 d
instance (a b c d : Int) : Decidable (ok4 a b c d) := inferInstanceAs (Decidable (_ ∧ _))
theorem vw_ofInt (a : Int) (h : ok1 a) : vw (BitVec.ofInt 64 a) = a := by
  obtain ⟨h0, h1⟩ := h
  unfold vw
  rw [BitVec.toNat_ofInt]
  omega
theorem ok1_vw (x : W64) : ok1 (vw x) := ⟨vw_lo x, vw_hi x⟩
theorem ws_wl4 (a b c d : Int) (h : ok4 a b c d) : ws (wl4 a b c d) = #[.int .u64 a, .int .u64 b, .int .u64 c, .int .u64 d] := by
  obtain ⟨h0, h1, h2, h3⟩ := h
  simp [ws, wl4, vw_ofInt _ h0, vw_ofInt _ h1, vw_ofInt _ h2, vw_ofInt _ h3]
theorem wl4_len (a b c d : Int) : (wl4 a b c d).length = 4 := rfl
theorem ws_four (L : List W64) (h : L.length = 4) : ws L = #[.int .u64 (vw (gw L 0)), .int .u64 (vw (gw L 1)), .int .u64 (vw (gw L 2)), .int .u64 (vw (gw L 3))] := by
  obtain ⟨a0, a1, a2, a3, rfl⟩ := four L h
  rfl
def addF (a0 a1 a2 a3 b0 b1 b2 b3 : Int) : Option (Int × Int × Int × Int × Bool) :=
  if ok4 a0 a1 a2 a3 ∧ ok4 b0 b1 b2 b3 then
    some (vw (gw (addk (wl4 a0 a1 a2 a3) (wl4 b0 b1 b2 b3) 4).1 0), vw (gw (addk (wl4 a0 a1 a2 a3) (wl4 b0 b1 b2 b3) 4).1 1), vw (gw (addk (wl4 a0 a1 a2 a3) (wl4 b0 b1 b2 b3) 4).1 2), vw (gw (addk (wl4 a0 a1 a2 a3) (wl4 b0 b1 b2 b3) 4).1 3), decide ((addk (wl4 a0 a1 a2 a3) (wl4 b0 b1 b2 b3) 4).2 > 0))
  else none
def subF (a0 a1 a2 a3 b0 b1 b2 b3 : Int) : Option (Int × Int × Int × Int × Bool) :=
  if ok4 a0 a1 a2 a3 ∧ ok4 b0 b1 b2 b3 then
    some (vw (gw (subk (wl4 a0 a1 a2 a3) (wl4 b0 b1 b2 b3) 4).1 0), vw (gw (subk (wl4 a0 a1 a2 a3) (wl4 b0 b1 b2 b3) 4).1 1), vw (gw (subk (wl4 a0 a1 a2 a3) (wl4 b0 b1 b2 b3) 4).1 2), vw (gw (subk (wl4 a0 a1 a2 a3) (wl4 b0 b1 b2 b3) 4).1 3), decide ((subk (wl4 a0 a1 a2 a3) (wl4 b0 b1 b2 b3) 4).2 > 0))
  else none
def truceref01_Add.f := addF
def truceref01_Sub.f := subF
theorem truceref01_Add.calls (a0 a1 a2 a3 b0 b1 b2 b3 r0 r1 r2 r3 : Int) (o : Bool) (w : World) (h : truceref01_Add.f a0 a1 a2 a3 b0 b1 b2 b3 = some (r0, r1, r2, r3, o)) :
    Calls Try.prog 16 #[.agg #[.int .u64 a0, .int .u64 a1, .int .u64 a2, .int .u64 a3], .agg #[.int .u64 b0, .int .u64 b1, .int .u64 b2, .int .u64 b3]] w fun e w' => e = .returned (.tuple #[.agg #[.int .u64 r0, .int .u64 r1, .int .u64 r2, .int .u64 r3], .bool o]) ∧ Below w.heap.size w w' := by
  unfold truceref01_Add.f addF at h
  split at h
  · rename_i hk
    injection h with h
    injection h with e0 h
    injection h with e1 h
    injection h with e2 h
    injection h with e3 h
    have c := radd_any _ _ (wl4_len a0 a1 a2 a3) (wl4_len b0 b1 b2 b3) w
    rw [ws_wl4 _ _ _ _ hk.1, ws_wl4 _ _ _ _ hk.2, ws_four _ (by rw [addk_len]; rfl), e0, e1, e2, e3, h] at c
    exact c
  · cases h
theorem truceref01_Sub.calls (a0 a1 a2 a3 b0 b1 b2 b3 r0 r1 r2 r3 : Int) (o : Bool) (w : World) (h : truceref01_Sub.f a0 a1 a2 a3 b0 b1 b2 b3 = some (r0, r1, r2, r3, o)) :
    Calls Try.prog 18 #[.agg #[.int .u64 a0, .int .u64 a1, .int .u64 a2, .int .u64 a3], .agg #[.int .u64 b0, .int .u64 b1, .int .u64 b2, .int .u64 b3]] w fun e w' => e = .returned (.tuple #[.agg #[.int .u64 r0, .int .u64 r1, .int .u64 r2, .int .u64 r3], .bool o]) ∧ Below w.heap.size w w' := by
  unfold truceref01_Sub.f subF at h
  split at h
  · rename_i hk
    injection h with h
    injection h with e0 h
    injection h with e1 h
    injection h with e2 h
    injection h with e3 h
    have c := rsub_any _ _ (wl4_len a0 a1 a2 a3) (wl4_len b0 b1 b2 b3) w
    rw [ws_wl4 _ _ _ _ hk.1, ws_wl4 _ _ _ _ hk.2, ws_four _ (by rw [subk_len]; rfl), e0, e1, e2, e3, h] at c
    exact c
  · cases h

def num_Add.f := addF
def num_Sub.f := subF
theorem one_gt (c : Nat) (h : c ≤ 1) : decide (c = 1) = decide (c > 0) := by
  rw [Bool.eq_iff_iff, decide_eq_true_iff, decide_eq_true_iff]; omega
theorem num_Add.calls (a0 a1 a2 a3 b0 b1 b2 b3 r0 r1 r2 r3 : Int) (o : Bool) (w : World) (h : num_Add.f a0 a1 a2 a3 b0 b1 b2 b3 = some (r0, r1, r2, r3, o)) :
    Calls Try.prog 24 #[.agg #[.int .u64 a0, .int .u64 a1, .int .u64 a2, .int .u64 a3], .agg #[.int .u64 b0, .int .u64 b1, .int .u64 b2, .int .u64 b3]] w fun e w' => e = .returned (.tuple #[.agg #[.int .u64 r0, .int .u64 r1, .int .u64 r2, .int .u64 r3], .bool o]) ∧ Below w.heap.size w w' := by
  unfold num_Add.f addF at h
  split at h
  · rename_i hk
    injection h with h
    injection h with e0 h
    injection h with e1 h
    injection h with e2 h
    injection h with e3 h
    have c := add_any _ _ (wl4_len a0 a1 a2 a3) (wl4_len b0 b1 b2 b3) w
    rw [one_gt _ (addk_c _ _ _), ws_wl4 _ _ _ _ hk.1, ws_wl4 _ _ _ _ hk.2, ws_four _ (by rw [addk_len]; rfl), e0, e1, e2, e3, h] at c
    exact c
  · cases h
theorem num_Sub.calls (a0 a1 a2 a3 b0 b1 b2 b3 r0 r1 r2 r3 : Int) (o : Bool) (w : World) (h : num_Sub.f a0 a1 a2 a3 b0 b1 b2 b3 = some (r0, r1, r2, r3, o)) :
    Calls Try.prog 27 #[.agg #[.int .u64 a0, .int .u64 a1, .int .u64 a2, .int .u64 a3], .agg #[.int .u64 b0, .int .u64 b1, .int .u64 b2, .int .u64 b3]] w fun e w' => e = .returned (.tuple #[.agg #[.int .u64 r0, .int .u64 r1, .int .u64 r2, .int .u64 r3], .bool o]) ∧ Below w.heap.size w w' := by
  unfold num_Sub.f subF at h
  split at h
  · rename_i hk
    injection h with h
    injection h with e0 h
    injection h with e1 h
    injection h with e2 h
    injection h with e3 h
    have c := sub_any _ _ (wl4_len a0 a1 a2 a3) (wl4_len b0 b1 b2 b3) w
    rw [one_gt _ (subk_c _ _ _), ws_wl4 _ _ _ _ hk.1, ws_wl4 _ _ _ _ hk.2, ws_four _ (by rw [subk_len]; rfl), e0, e1, e2, e3, h] at c
    exact c
  · cases h
end Go.Proofs.Ytnedmaddjikmkaa.P


