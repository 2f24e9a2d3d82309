import Derived.Test.YtmnphdgghjdkmaaPureO
import Derived.Test.YtmnphdgghjdkmaaPtrucelaw17PayOrder
namespace Go.Proofs.Ytmnphdgghjdkmaa.P
set_option linter.unusedSectionVars false
set_option linter.unusedVariables false
set_option linter.unusedSimpArgs false
open Go.RowKit Go.Proofs.YtmnphdgghjdkmaaW.PrintWords
/-! Paying one after another pays each as much as paying all at once. -/
section
variable {H : List W64} {l : List S40} (hH : H.length = 4) (hp : ∀ k, k < l.length → (at40 l k).f2 = 0) (hl : okL l)
theorem at40_mem {l : List S40} {k : Nat} (hk : k < l.length) : at40 l k ∈ l := by simp only [at40, List.getD_eq_getElem?_getD, List.getElem?_eq_getElem hk, Option.getD_some]; exact List.getElem_mem hk
theorem at40_get {l : List S40} {k : Nat} (hk : k < l.length) : at40 l k = l[k] := by simp [at40, List.getD_eq_getElem?_getD, List.getElem?_eq_getElem hk]
include hp in
theorem noskip (k : Nat) (hk : k < l.length) : ¬ skip l [] k := by
  rintro (h | ⟨h, _⟩)
  · exact h (hp k hk)
  · simp at h
include hp in
theorem nAt_all (k : Nat) (hk : k < l.length) : nAt H l [] k = cAt H l k := by rw [nAt, if_neg (noskip hp k hk)]
include hp in
theorem lAt_all (k : Nat) (hk : k ≤ l.length) : lAt H l [] k = hAt H l k := by
  induction k with
  | zero => rfl
  | succ k ih => rw [lAt, nAt_all hp k (by omega), ih (by omega)]; rfl
theorem outK_len (H : List W64) (l : List S40) (W : List Int) (k : Nat) (hk : k ≤ l.length) : (outK H l W k).length = l.length := by simp [outK]; omega
theorem outK_lt (H : List W64) (l : List S40) (W : List Int) (i k : Nat) (hi : i ≤ l.length) (hk : k < i) : at40 (outK H l W i) k = oAt H l W k := by
  rw [at40_get (by rw [outK_len _ _ _ _ hi]; omega)]
  simp [outK, List.getElem_append, hk]
theorem outK_ge (H : List W64) (l : List S40) (W : List Int) (i k : Nat) (hi : i ≤ l.length) (hk : i ≤ k) (hkl : k < l.length) : at40 (outK H l W i) k = at40 l k := by
  rw [at40_get (by rw [outK_len _ _ _ _ hi]; omega), at40_get hkl]
  have : ¬ k < i := by omega
  simp [outK, List.getElem_append, this]
  congr 1
  omega
include hl in
theorem outK_ok (W : List Int) (i : Nat) (hi : i ≤ l.length) : okL (outK H l W i) := by
  intro a ha
  rcases List.mem_append.1 ha with h | h
  · obtain ⟨k, _, rfl⟩ := List.mem_map.1 h
    exact okA_putA _ _
  · exact hl a (List.mem_of_mem_drop h)
include hH in
theorem hAt_mono {i j : Nat} (h : i ≤ j) : val (hAt H l j) ≤ val (hAt H l i) := by
  induction j with
  | zero => have : i = 0 := by omega
            subst this; exact Nat.le_refl _
  | succ j ih =>
    by_cases hij : i = j + 1
    · subst hij; exact Nat.le_refl _
    · have := ih (by omega)
      rw [val_hAt H l hH]
      omega
include hH hp in
theorem rest_zero (i k : Nat) (hi : i ≤ l.length) (hk : k < i) : min (val (hAt H l i)) (val (am (at40 (outK H l [] i) k))) = 0 := by
  rw [outK_lt _ _ _ _ _ hi hk, val_out H l [] hH, nAt_all hp k (by omega), val_cAt H l hH]
  have h1 := val_hAt H l hH k
  have h2 := hAt_mono (l := l) hH (show k + 1 ≤ i by omega)
  generalize val (hAt H l i) = x at *
  generalize val (hAt H l (k + 1)) = y at *
  generalize val (hAt H l k) = z at *
  generalize val (am (at40 l k)) = u at *
  omega
include hH hp in
theorem hAt_again (i : Nat) (hi : i ≤ l.length) (k : Nat) (hk : k ≤ i) : hAt (hAt H l i) (outK H l [] i) k = hAt H l i := by
  have hL := hAt_len H l hH i
  induction k with
  | zero => rfl
  | succ k ih =>
    have hz := rest_zero hH hp i k hi (by omega)
    rw [hAt, ih (by omega)]
    refine val_inj _ _ (covH_len hL) hL ?_
    rw [val_covH hL (am_len _)]
    generalize val (hAt H l i) = x at *
    generalize val (am (at40 (outK H l [] i) k)) = y at *
    omega
include hH hp in
theorem cAt_again (i : Nat) (hi : i < l.length) : cAt (hAt H l i) (outK H l [] i) i = cAt H l i := by
  rw [cAt, hAt_again hH hp i (by omega) i (Nat.le_refl _), outK_ge _ _ _ _ _ (by omega) (Nat.le_refl _) hi]
  rfl
include hp in
theorem plain_out (i k : Nat) (hi : i ≤ l.length) (hk : k < l.length) : (at40 (outK H l [] i) k).f2 = 0 := by
  by_cases h : k < i
  · rw [outK_lt _ _ _ _ _ hi h]; exact hp k hk
  · rw [outK_ge _ _ _ _ _ hi (by omega) hk]; exact hp k hk
include hp in
theorem nAt_one (i k : Nat) (hi : i < l.length) (hk : k < l.length) (G : List W64) : nAt G (outK H l [] i) [(i : Int)] k = if k = i then cAt G (outK H l [] i) i else zero4 := by
  rw [nAt]
  by_cases h : k = i
  · subst h
    rw [if_pos rfl, if_neg]
    rintro (h | ⟨_, h⟩)
    · exact h (plain_out hp k k (by omega) hk)
    · simp at h
  · rw [if_neg h, if_pos]
    refine .inr ⟨by simp, ?_⟩
    simp
    omega
include hH hp hl in
theorem out_one (i : Nat) (hi : i < l.length) : (List.range (outK H l [] i).length).map (oAt (hAt H l i) (outK H l [] i) [(i : Int)]) = outK H l [] (i + 1) := by
  have hlen := outK_len H l [] i (by omega)
  apply List.ext_getElem
  · rw [List.length_map, List.length_range, hlen, outK_len _ _ _ _ (by omega)]
  · intro k h1 h2
    rw [List.length_map, List.length_range, hlen] at h1
    rw [List.getElem_map, List.getElem_range, ← at40_get h2]
    rw [oAt_put, nAt_one hp i k hi h1]
    by_cases hk : k = i
    · subst hk
      rw [if_pos rfl, cAt_again hH hp k hi, outK_ge H l [] k k (by omega) (Nat.le_refl _) hi, outK_lt H l [] (k + 1) k (by omega) (by omega), oAt_put, nAt_all hp k hi]
    · have hok := outK_ok (H := H) hl [] i (by omega) _ (at40_mem (by rw [hlen]; exact h1))
      rw [if_neg hk, sub_zero _ (am_len _), putA_self _ hok]
      by_cases h : k < i
      · rw [outK_lt H l [] i k (by omega) h, outK_lt H l [] (i + 1) k (by omega) (by omega)]
      · rw [outK_ge H l [] i k (by omega) (by omega) h1, outK_ge H l [] (i + 1) k (by omega) (by omega) h1]
include hH hp in
theorem left_one (i : Nat) (hi : i < l.length) (m : Nat) (hm : m ≤ l.length) : lAt (hAt H l i) (outK H l [] i) [(i : Int)] m = if i < m then hAt H l (i + 1) else hAt H l i := by
  induction m with
  | zero => rw [if_neg (by omega)]; rfl
  | succ m ih =>
    rw [lAt, ih (by omega), nAt_one hp i m hi (by omega)]
    by_cases h1 : m = i
    · subst h1
      rw [if_pos rfl, if_neg (by omega), if_pos (by omega), cAt_again hH hp m hi]
      rfl
    · rw [if_neg h1]
      by_cases h2 : i < m
      · rw [if_pos h2, if_pos (by omega), sub_zero _ (hAt_len H l hH _)]
      · rw [if_neg h2, if_neg (by omega), sub_zero _ (hAt_len H l hH _)]
include hp in
theorem check_all : checkV l [] = 0 := by
  rw [checkV, if_pos (show rises l.length [] from fun i hi => by simp at hi), if_neg (by rintro ⟨k, hk, _⟩; simp at hk)]
include hp in
theorem check_one (i : Nat) (hi : i < l.length) : checkV (outK H l [] i) [(i : Int)] = 0 := by
  have hlen := outK_len H l [] i (by omega)
  rw [checkV, if_pos, if_neg]
  · rintro ⟨k, hk, h⟩
    obtain rfl : k = (i : Int) := by simpa using hk
    rw [Int.toNat_natCast] at h
    exact h (plain_out hp i i (by omega) hi)
  · intro j hj
    obtain rfl : j = 0 := by simpa using hj
    rw [if_pos rfl, hlen]
    simp
    omega
theorem sw_eq (L : List W64) : sw L = ⟨(sw L).f0, (sw L).f1, (sw L).f2, (sw L).f3⟩ := rfl
include hH hp hl in
theorem transfer_all (h60 : l.length ≤ 60) : pay_Transfer.f (sw H).f0 (sw H).f1 (sw H).f2 (sw H).f3 l [] =
    some (outK H l [] l.length, (List.range l.length).map (fun k => sw (cAt H l k)), (sw (hAt H l l.length)).f0, (sw (hAt H l l.length)).f1, (sw (hAt H l l.length)).f2, (sw (hAt H l l.length)).f3, 0) := by
  rw [pay_Transfer.f, if_pos ⟨ok4_sw H, hl, by omega, by simp⟩, if_pos (check_all hp), wl4_sw H hH, outK_end, lAt_all hp _ (Nat.le_refl _)]
  congr 3
  apply List.map_congr_left
  intro k hk
  rw [nAt_all hp k (by simpa using hk)]
include hH hp hl in
theorem transfer_one (h60 : l.length ≤ 60) (i : Nat) (hi : i < l.length) : ∃ q, pay_Transfer.f (sw (hAt H l i)).f0 (sw (hAt H l i)).f1 (sw (hAt H l i)).f2 (sw (hAt H l i)).f3 (outK H l [] i) [(i : Int)] =
    some (outK H l [] (i + 1), q, (sw (hAt H l (i + 1))).f0, (sw (hAt H l (i + 1))).f1, (sw (hAt H l (i + 1))).f2, (sw (hAt H l (i + 1))).f3, 0) ∧ q.length = l.length ∧ rd_T24 q (i : Int) = sw (cAt H l i) := by
  have hlen := outK_len H l [] i (by omega)
  have hL := hAt_len H l hH i
  refine ⟨(List.range l.length).map (fun k => sw (nAt (hAt H l i) (outK H l [] i) [(i : Int)] k)), ?_, by simp, ?_⟩
  · rw [pay_Transfer.f, if_pos ⟨ok4_sw _, outK_ok hl [] i (by omega), by omega, by simp⟩, if_pos (check_one hp i hi), wl4_sw _ hL, out_one hH hp hl i hi, hlen, left_one hH hp i hi _ (Nat.le_refl _), if_pos hi]
  · simp [rd_T24, List.getD_eq_getElem?_getD, hi]
    rw [nAt_one hp i i hi hi, if_pos rfl, cAt_again hH hp i hi]
end
end Go.Proofs.Ytmnphdgghjdkmaa.P
