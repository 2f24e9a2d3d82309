import Derived.Test.YtnedmaddjikmkaaPureFit
/- Plain facts about accounts: what was given can be taken again; other accounts stay; the sums behind giving and taking. -/
namespace Go.Proofs.Ytnedmaddjikmkaa.P
set_option linter.unusedVariables false
set_option linter.unusedSimpArgs false
open Go.RowKit Go.Proofs.YtnedmaddjikmkaaW.PrintWords
theorem val_inj (A B : List W64) (hA : A.length = 4) (hB : B.length = 4) (h : val A = val B) : A = B := by
  obtain ⟨a0, a1, a2, a3, rfl⟩ := four A hA
  obtain ⟨b0, b1, b2, b3, rfl⟩ := four B hB
  rw [val_four, val_four] at h
  have := a0.isLt; have := a1.isLt; have := a2.isLt; have := a3.isLt
  have := b0.isLt; have := b1.isLt; have := b2.isLt; have := b3.isLt
  have e0 : a0 = b0 := BitVec.eq_of_toNat_eq (by omega)
  have e1 : a1 = b1 := BitVec.eq_of_toNat_eq (by omega)
  have e2 : a2 = b2 := BitVec.eq_of_toNat_eq (by omega)
  have e3 : a3 = b3 := BitVec.eq_of_toNat_eq (by omega)
  rw [e0, e1, e2, e3]
theorem sub_under (A B : List W64) (hA : A.length = 4) (hB : B.length = 4) : (subk A B 4).2 = if val A < val B then 1 else 0 := by
  have h := sub_val A B hA hB
  have h1 := val_lt (subk A B 4).1
  have h2 := val_lt A
  have h3 := val_lt B
  have h4 := subk_c A B 4
  split <;> omega
theorem subF_sw (A : List W64) (hA : A.length = 4) (x : S25) (h : ok4 x.f0 x.f1 x.f2 x.f3) : subF (sw A).f0 (sw A).f1 (sw A).f2 (sw A).f3 x.f0 x.f1 x.f2 x.f3 =
    some ((sw (subk A (w4 x) 4).1).f0, (sw (subk A (w4 x) 4).1).f1, (sw (subk A (w4 x) 4).1).f2, (sw (subk A (w4 x) 4).1).f3, decide ((subk A (w4 x) 4).2 > 0)) := by
  unfold subF
  rw [if_pos ⟨ok4_sw A, h⟩, wl4_sw A hA]
  rfl
theorem sub_fine2 {A B : List W64} (hA : A.length = 4) (hB : B.length = 4) (h : val B ≤ val A) : val (subk A B 4).1 + val B = val A ∧ (subk A B 4).2 = 0 :=
  sub_fine hA hB (by rw [sub_under A B hA hB, if_neg (Nat.not_lt.2 h)]; decide)
/-- How much is taken behind giving: it can be taken, and what was is back. -/
theorem give_take {l : List S39} (F : FitL l) (hl : okL l) {who asset : ByteArray} {n : List W64} (hn : n.length = 4) (he : giveE l who asset n = 0) :
    takeE (giveL l who asset n) who asset n = 0 ∧ takeL (giveL l who asset n) who asset n = l := by
  obtain ⟨Fg, hgo, hs, hlt, hv, hlen⟩ := give_fit F hl hn he
  have hw : ¬ isWrong who asset = true := fun h => by unfold giveE at he; rw [if_pos h] at he; cases he
  have hget : getA (giveL l who asset n) who asset (placeK (giveL l who asset n) who asset) = sw (giveS l who asset n).1 := get_set F.up who asset _
  have hle : val n ≤ val (giveS l who asset n).1 := by rw [hv]; exact Nat.le_add_left _ _
  obtain ⟨h1, h2⟩ := sub_fine2 hlen hn hle
  have hS : takeS (giveL l who asset n) who asset n = subk (giveS l who asset n).1 n 4 := by rw [takeS, hget, w4_sw _ hlen]
  constructor
  · rw [takeE, if_neg hw, hS, h2]; rfl
  · rw [takeL, hS]
    have e : (subk (giveS l who asset n).1 n 4).1 = w4 (getA l who asset (placeK l who asset)) :=
      val_inj _ _ (by rw [subk_len]; exact hlen) (w4_len _) (Nat.add_right_cancel (h1.trans hv))
    rw [e, sw_w4 _ (getA_ok4 hl _ _ _), giveL, set_set F.up, set_get F.up (fun x hx => F.nz hx)]
theorem give_other {l : List S39} (F : FitL l) {who asset : ByteArray} {n : List W64} {c0 c1 : ByteArray} (hc : ¬ (c0 = who ∧ c1 = asset)) :
    getA (giveL l who asset n) c0 c1 (placeK (giveL l who asset n) c0 c1) = getA l c0 c1 (placeK l c0 c1) := get_other F.up who asset _ hc
theorem take_other {l : List S39} (F : FitL l) {who asset : ByteArray} {n : List W64} {c0 c1 : ByteArray} (hc : ¬ (c0 = who ∧ c1 = asset)) :
    getA (takeL l who asset n) c0 c1 (placeK (takeL l who asset n) c0 c1) = getA l c0 c1 (placeK l c0 c1) := get_other F.up who asset _ hc
theorem give_val {l : List S39} (F : FitL l) (hl : okL l) (who asset : ByteArray) {n0 n1 n2 n3 : Int} (hn : ok4 n0 n1 n2 n3) :
    acct_Give.f l who asset n0 n1 n2 n3 = some (if giveE l who asset (wl4 n0 n1 n2 n3) = 0 then giveL l who asset (wl4 n0 n1 n2 n3) else l, giveE l who asset (wl4 n0 n1 n2 n3)) := by
  show giveF l who asset n0 n1 n2 n3 = _
  rw [giveF, if_pos ⟨hn, F.up, hl, F.len⟩]
theorem take_val {l : List S39} (F : FitL l) (hl : okL l) (who asset : ByteArray) {n0 n1 n2 n3 : Int} (hn : ok4 n0 n1 n2 n3) :
    acct_Take.f l who asset n0 n1 n2 n3 = some (if takeE l who asset (wl4 n0 n1 n2 n3) = 0 then takeL l who asset (wl4 n0 n1 n2 n3) else l, takeE l who asset (wl4 n0 n1 n2 n3)) := by
  show takeF l who asset n0 n1 n2 n3 = _
  rw [takeF, if_pos ⟨hn, F.up, hl, F.len⟩]
theorem sum_fit {l : List S39} (F : FitL l) (hl : okL l) (q : ByteArray) (k : Nat) (hk : l.length < k) : ∃ r : List W64, r.length = 4 ∧ val r = sumN q l ∧ truceref16_Sum.f k l q = some ((sw r).f0, (sw r).f1, (sw r).f2, (sw r).f3, true) := by
  obtain ⟨r, h1, h2, h3⟩ := F.sumT q
  exact ⟨r, h2, h3, by rw [rsum_val hl (Nat.le_trans F.len (by omega)) q k hk, h1]; rfl⟩
theorem rget_fit {l : List S39} (F : FitL l) (b0 b1 : ByteArray) (k : Nat) (hk : l.length < k) :
    truceref16_Get.f k l b0 b1 = some ((getA l b0 b1 (placeK l b0 b1)).f0, (getA l b0 b1 (placeK l b0 b1)).f1, (getA l b0 b1 (placeK l b0 b1)).f2, (getA l b0 b1 (placeK l b0 b1)).f3) := by
  rw [rget_val F.up (Nat.le_trans F.len (by omega)) b0 b1 k hk, acct_Get.f, if_pos ⟨F.up, Nat.le_trans F.len (by omega)⟩]
theorem give_len {l : List S39} (F : FitL l) (who asset : ByteArray) (n : List W64) : (giveL l who asset n).length ≤ l.length + 1 := by
  obtain ⟨A, M, B, C⟩ := cut_ex F.up who asset
  unfold giveL
  rw [C.set]
  conv => rhs; rw [C.eq]
  simp only [List.length_append]
  split <;> simp <;> omega
theorem take_len {l : List S39} (F : FitL l) (who asset : ByteArray) (n : List W64) : (takeL l who asset n).length ≤ l.length + 1 := by
  obtain ⟨A, M, B, C⟩ := cut_ex F.up who asset
  unfold takeL
  rw [C.set]
  conv => rhs; rw [C.eq]
  simp only [List.length_append]
  split <;> simp <;> omega
end Go.Proofs.Ytnedmaddjikmkaa.P

