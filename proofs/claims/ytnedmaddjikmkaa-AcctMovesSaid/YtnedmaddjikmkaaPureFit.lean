import Derived.Test.YtnedmaddjikmkaaGGiveF
import Derived.Test.YtnedmaddjikmkaaPtrucelaw16few
import Derived.Test.YtnedmaddjikmkaaPtruceref16Fit
import Derived.Test.YtnedmaddjikmkaaPtruceref16Same
/- Plain facts about accounts: a list cut at a key, what setting an account makes of it, and the sums of an asset. -/
namespace Go.Proofs.Ytnedmaddjikmkaa.P
set_option linter.unusedVariables false
set_option linter.unusedSimpArgs false
open Go.RowKit Go.Proofs.YtnedmaddjikmkaaW.PrintWords
theorem up_pair {l : List S39} : Up l ↔ l.Pairwise (fun x y => ordA x y.f0 y.f1 < 0) := by
  rw [List.pairwise_iff_getElem]
  constructor
  · intro h i j hi hj hij
    have := h.lt hij hj
    rwa [at39_get hi, at39_get hj] at this
  · intro h i hi
    have := h i (i + 1) (by omega) hi (by omega)
    rwa [at39_get (by omega), at39_get hi]
/-- A list cut at a key. -/
structure Cut (l : List S39) (b0 b1 : ByteArray) (A M B : List S39) : Prop where
  eq : l = A ++ (M ++ B)
  lo : ∀ x ∈ A, ordA x b0 b1 < 0
  hi : ∀ x ∈ B, 0 < ordA x b0 b1
  mid : M = [] ∨ ∃ x, M = [x] ∧ x.f0 = b0 ∧ x.f1 = b1
theorem cut_ex {l : List S39} (h : Up l) (b0 b1 : ByteArray) : ∃ A M B, Cut l b0 b1 A M B := by
  have hp := placeK_ok h b0 b1
  generalize placeK l b0 b1 = K at hp
  have hA : ∀ x ∈ l.take K, ordA x b0 b1 < 0 := fun x hx => by
    obtain ⟨j, hj, rfl⟩ := List.getElem_of_mem hx
    rw [List.length_take] at hj
    have := hp.lo j (by omega)
    rw [at39_get (by omega)] at this
    simpa using this
  have hB : ∀ x ∈ l.drop (K + 1), 0 < ordA x b0 b1 := fun x hx => by
    obtain ⟨j, hj, rfl⟩ := List.getElem_of_mem hx
    rw [List.length_drop] at hj
    have h1 := behind h hp (i := K + 1 + j) (by omega) (by omega)
    have h2 := hp.hi (K + 1 + j) (by omega) (by omega)
    rw [at39_get (by omega)] at h1 h2
    simp only [List.getElem_drop]
    omega
  by_cases hlt : K < l.length
  · by_cases hz : ordA (at39 l K) b0 b1 = 0
    · refine ⟨l.take K, [at39 l K], l.drop (K + 1), ?_, hA, hB, .inr ⟨_, rfl, ordA_zero.1 hz⟩⟩
      rw [List.singleton_append, ← drop_at hlt, List.take_append_drop]
    · refine ⟨l.take K, [], l.drop K, (List.take_append_drop _ _).symm, hA, fun x hx => ?_, .inl rfl⟩
      rw [drop_at hlt, List.mem_cons] at hx
      rcases hx with rfl | hx
      · have := hp.hi K (Nat.le_refl _) hlt
        omega
      · exact hB x hx
  · refine ⟨l.take K, [], l.drop K, (List.take_append_drop _ _).symm, hA, fun x hx => ?_, .inl rfl⟩
    rw [List.drop_eq_nil_of_le (by omega)] at hx
    cases hx
section
variable {l : List S39} {b0 b1 : ByteArray} {A M B : List S39} (C : Cut l b0 b1 A M B)
include C
theorem Cut.place : placeK l b0 b1 = A.length := by
  have e : l.takeWhile (fun x => decide (ordA x b0 b1 < 0)) = A := by
    rw [C.eq, List.takeWhile_append_of_pos (fun x hx => decide_eq_true (C.lo x hx))]
    have : (M ++ B).takeWhile (fun x => decide (ordA x b0 b1 < 0)) = [] := by
      rcases C.mid with rfl | ⟨x, rfl, h0, h1⟩
      · rw [List.nil_append]
        cases hB : B with
        | nil => rfl
        | cons y B' =>
          have := C.hi y (by rw [hB]; exact List.mem_cons_self ..)
          rw [List.takeWhile_cons, if_neg (by simp; omega)]
      · have : ordA x b0 b1 = 0 := ordA_zero.2 ⟨h0, h1⟩
        rw [List.singleton_append, List.takeWhile_cons, if_neg (by simp; omega)]
    rw [this, List.append_nil]
  rw [placeK, e]
theorem Cut.at_nil (h : M = []) : isAt l b0 b1 A.length = false := by
  have hl : l = A ++ B := by rw [C.eq, h, List.nil_append]
  by_cases hlt : A.length < l.length
  · have : ordA (at39 l A.length) b0 b1 ≠ 0 := by
      have hB : at39 l A.length ∈ B := by
        subst hl
        rw [at39_get hlt, List.getElem_append_right (Nat.le_refl _)]
        exact List.getElem_mem _
      have := C.hi _ hB
      omega
    simp [isAt, this]
  · simp [isAt, hlt]
theorem Cut.at_one {x : S39} (h : M = [x]) : at39 l A.length = x ∧ A.length < l.length ∧ isAt l b0 b1 A.length = true := by
  have hl : l = A ++ (x :: B) := by rw [C.eq, h, List.singleton_append]
  have hx : x.f0 = b0 ∧ x.f1 = b1 := by
    rcases C.mid with h2 | ⟨y, h2, h3⟩
    · rw [h] at h2; cases h2
    · rw [h] at h2; obtain rfl := (List.cons.inj h2).1; exact h3
  have hlt : A.length < l.length := by rw [hl, List.length_append, List.length_cons]; omega
  have he : at39 l A.length = x := by
    subst hl
    rw [at39_get hlt, List.getElem_append_right (Nat.le_refl _)]
    simp
  refine ⟨he, hlt, ?_⟩
  simp [isAt, hlt, he, ordA_zero.2 hx]
theorem Cut.get_nil (h : M = []) : getA l b0 b1 (placeK l b0 b1) = z25 := by rw [C.place, getA, C.at_nil h, if_neg (by simp)]
theorem Cut.get_one {x : S39} (h : M = [x]) : getA l b0 b1 (placeK l b0 b1) = x.f2 := by
  obtain ⟨e1, e2, e3⟩ := C.at_one h
  rw [C.place, getA, e3, if_pos rfl, e1]
theorem Cut.set (a : S25) : setA l ⟨b0, b1, a⟩ (placeK l b0 b1) = A ++ ((if a = z25 then [] else [⟨b0, b1, a⟩]) ++ B) := by
  rw [C.place, setA]
  show (if isAt l b0 b1 A.length = true then (if a = z25 then _ else _) else (if a = z25 then _ else _)) = _
  rcases C.mid with h | ⟨x, h, _⟩
  · have hl : l = A ++ B := by rw [C.eq, h, List.nil_append]
    rw [C.at_nil h, if_neg (by simp)]
    by_cases ha : a = z25
    · rw [if_pos ha, if_pos ha, List.nil_append, hl]
    · rw [if_neg ha, if_neg ha, insL, hl, List.take_left' rfl, List.drop_left' rfl, List.singleton_append]
  · obtain ⟨e1, e2, e3⟩ := C.at_one h
    have hl : l = A ++ (x :: B) := by rw [C.eq, h, List.singleton_append]
    have ht : l.take A.length = A := by rw [hl, List.take_left' rfl]
    have hd : l.drop (A.length + 1) = B := by rw [hl, ← List.drop_drop, List.drop_left' rfl]; rfl
    rw [e3, if_pos rfl]
    by_cases ha : a = z25
    · rw [if_pos ha, if_pos ha, List.nil_append, ht, hd]
    · rw [if_neg ha, if_neg ha, List.set_eq_take_append_cons_drop, if_pos e2, ht, hd, List.singleton_append]
theorem Cut.again (a : S25) : Cut (setA l ⟨b0, b1, a⟩ (placeK l b0 b1)) b0 b1 A (if a = z25 then [] else [⟨b0, b1, a⟩]) B :=
  ⟨C.set a, C.lo, C.hi, by
    by_cases ha : a = z25
    · rw [if_pos ha]; exact .inl rfl
    · rw [if_neg ha]; exact .inr ⟨_, rfl, rfl, rfl⟩⟩
theorem Cut.up (h : Up l) (a : S25) : Up (setA l ⟨b0, b1, a⟩ (placeK l b0 b1)) := by
  rw [up_pair] at h ⊢
  rw [C.set a]
  rw [C.eq, List.pairwise_append] at h
  obtain ⟨hA, hMB, hx⟩ := h
  have hB := (List.pairwise_append.1 hMB).2.1
  rw [List.pairwise_append]
  refine ⟨hA, ?_, ?_⟩
  · rw [List.pairwise_append]
    refine ⟨?_, hB, ?_⟩
    · split
      · exact List.Pairwise.nil
      · exact List.pairwise_singleton ..
    · intro x hxm y hy
      split at hxm
      · cases hxm
      · rw [List.mem_singleton] at hxm
        subst hxm
        have h1 := C.hi y hy
        show ordK b0 b1 y.f0 y.f1 < 0
        rw [ordK_swap]
        unfold ordA at h1
        omega
  · intro x hxA y hy
    rw [List.mem_append] at hy
    rcases hy with hy | hy
    · split at hy
      · cases hy
      · rw [List.mem_singleton] at hy
        subst hy
        exact C.lo x hxA
    · exact hx x hxA y (List.mem_append_right _ hy)
/-- Other accounts stay. -/
theorem Cut.mem (a : S25) {x : S39} (hx : ¬ (x.f0 = b0 ∧ x.f1 = b1)) : x ∈ setA l ⟨b0, b1, a⟩ (placeK l b0 b1) ↔ x ∈ l := by
  rw [C.set a]
  conv => rhs; rw [C.eq]
  simp only [List.mem_append]
  have h1 : x ∉ (if a = z25 then [] else [⟨b0, b1, a⟩] : List S39) := fun hm => by
    split at hm
    · cases hm
    · rw [List.mem_singleton] at hm; subst hm; exact hx ⟨rfl, rfl⟩
  have h2 : x ∉ M := fun hm => by
    rcases C.mid with rfl | ⟨y, rfl, hy⟩
    · cases hm
    · rw [List.mem_singleton] at hm; subst hm; exact hx hy
  simp [h1, h2]
theorem Cut.mem_or (a : S25) {x : S39} (hx : x ∈ setA l ⟨b0, b1, a⟩ (placeK l b0 b1)) : x ∈ l ∨ a ≠ z25 ∧ x = ⟨b0, b1, a⟩ := by
  rw [C.set a] at hx
  rw [C.eq]
  simp only [List.mem_append] at hx ⊢
  rcases hx with hx | hx | hx
  · exact .inl (.inl hx)
  · split at hx
    · cases hx
    · rename_i ha
      rw [List.mem_singleton] at hx
      exact .inr ⟨ha, hx⟩
  · exact .inl (.inr (.inr hx))
end
/-- An account's amount is told. -/
theorem get_mem {l : List S39} (h : Up l) {x : S39} (hx : x ∈ l) : getA l x.f0 x.f1 (placeK l x.f0 x.f1) = x.f2 := by
  obtain ⟨A, M, B, C⟩ := cut_ex h x.f0 x.f1
  have h0 : ordA x x.f0 x.f1 = 0 := ordA_zero.2 ⟨rfl, rfl⟩
  have hx' := hx
  rw [C.eq, List.mem_append, List.mem_append] at hx'
  rcases hx' with hx' | hx' | hx'
  · have := C.lo x hx'; omega
  · rcases C.mid with h1 | ⟨y, h1, hy⟩
    · rw [h1] at hx'; cases hx'
    · rw [h1, List.mem_singleton] at hx'
      subst hx'
      exact C.get_one h1
  · have := C.hi x hx'; omega
theorem get_none {l : List S39} (h : Up l) {b0 b1 : ByteArray} (hx : ∀ x ∈ l, ¬ (x.f0 = b0 ∧ x.f1 = b1)) : getA l b0 b1 (placeK l b0 b1) = z25 := by
  obtain ⟨A, M, B, C⟩ := cut_ex h b0 b1
  rcases C.mid with h1 | ⟨y, h1, hy⟩
  · exact C.get_nil h1
  · exact absurd hy (hx y (by rw [C.eq, h1]; simp))
theorem get_set {l : List S39} (h : Up l) (b0 b1 : ByteArray) (a : S25) : getA (setA l ⟨b0, b1, a⟩ (placeK l b0 b1)) b0 b1 (placeK (setA l ⟨b0, b1, a⟩ (placeK l b0 b1)) b0 b1) = a := by
  obtain ⟨A, M, B, C⟩ := cut_ex h b0 b1
  have C2 := C.again a
  by_cases ha : a = z25
  · rw [C2.get_nil (by rw [if_pos ha]), ha]
  · rw [C2.get_one (x := ⟨b0, b1, a⟩) (by rw [if_neg ha])]
theorem set_set {l : List S39} (h : Up l) (b0 b1 : ByteArray) (a c : S25) : setA (setA l ⟨b0, b1, a⟩ (placeK l b0 b1)) ⟨b0, b1, c⟩ (placeK (setA l ⟨b0, b1, a⟩ (placeK l b0 b1)) b0 b1) = setA l ⟨b0, b1, c⟩ (placeK l b0 b1) := by
  obtain ⟨A, M, B, C⟩ := cut_ex h b0 b1
  rw [(C.again a).set c, C.set c]
theorem set_get {l : List S39} (h : Up l) (hz : ∀ x ∈ l, x.f2 ≠ z25) (b0 b1 : ByteArray) : setA l ⟨b0, b1, getA l b0 b1 (placeK l b0 b1)⟩ (placeK l b0 b1) = l := by
  obtain ⟨A, M, B, C⟩ := cut_ex h b0 b1
  rw [C.set]
  rcases C.mid with h1 | ⟨y, h1, hy⟩
  · rw [C.get_nil h1, if_pos rfl, C.eq, h1]
  · rw [C.get_one h1, if_neg (hz y (by rw [C.eq, h1]; simp)), C.eq, h1]
    obtain ⟨y0, y1, y2⟩ := y
    obtain ⟨rfl, rfl⟩ := hy
    rfl
theorem get_other {l : List S39} (h : Up l) (b0 b1 : ByteArray) (a : S25) {c0 c1 : ByteArray} (hc : ¬ (c0 = b0 ∧ c1 = b1)) :
    getA (setA l ⟨b0, b1, a⟩ (placeK l b0 b1)) c0 c1 (placeK (setA l ⟨b0, b1, a⟩ (placeK l b0 b1)) c0 c1) = getA l c0 c1 (placeK l c0 c1) := by
  obtain ⟨A, M, B, C⟩ := cut_ex h b0 b1
  have hu := C.up h a
  by_cases hx : ∃ x ∈ l, x.f0 = c0 ∧ x.f1 = c1
  · obtain ⟨x, hx, rfl, rfl⟩ := hx
    rw [get_mem h hx, get_mem hu ((C.mem a hc).2 hx)]
  · have hx' : ∀ x ∈ l, ¬ (x.f0 = c0 ∧ x.f1 = c1) := fun x h1 h2 => hx ⟨x, h1, h2⟩
    rw [get_none h hx', get_none hu (fun x h1 h2 => hx' x ((C.mem a (fun h3 => hc ⟨h2.1.symm.trans h3.1, h2.2.symm.trans h3.2⟩)).1 h1) h2)]
/-! Sums by their values. -/
def sumN (asset : ByteArray) : List S39 → Nat
  | [] => 0
  | x :: l => (if x.f1 = asset then val (w4 x.f2) else 0) + sumN asset l
theorem w4_len (x : S25) : (w4 x).length = 4 := rfl
theorem sumT_val {asset : ByteArray} : ∀ (l : List S39) (s : List W64), s.length = 4 →
    (∃ r, sumT asset l s = some r ∧ r.length = 4 ∧ val r = val s + sumN asset l ∧ val s + sumN asset l < 115792089237316195423570985008687907853269984665640564039457584007913129639936) ∨ (sumT asset l s = none ∧ 115792089237316195423570985008687907853269984665640564039457584007913129639936 ≤ val s + sumN asset l)
  | [], s, hs => .inl ⟨s, rfl, hs, by rw [sumN, Nat.add_zero], by rw [sumN, Nat.add_zero]; exact val_lt s⟩
  | x :: l, s, hs => by
    have hl1 : (addk s (w4 x.f2) 4).1.length = 4 := by rw [addk_len, hs]
    have ho := add_over s (w4 x.f2) hs (w4_len _)
    have hv := add_val s (w4 x.f2) hs (w4_len _)
    rw [sumT, sumN]
    by_cases c1 : x.f1 = asset
    · rw [if_pos c1, if_pos c1]
      by_cases c2 : val s + val (w4 x.f2) < 115792089237316195423570985008687907853269984665640564039457584007913129639936
      · rw [if_pos c2] at ho
        rw [ho] at hv
        rw [ho, if_neg (by omega)]
        rcases sumT_val l _ hl1 with ⟨r, h1, h2, h3, h4⟩ | ⟨h1, h2⟩
        · exact .inl ⟨r, h1, h2, by omega, by omega⟩
        · exact .inr ⟨h1, by omega⟩
      · rw [if_neg c2] at ho
        rw [ho, if_pos (by omega)]
        exact .inr ⟨rfl, by omega⟩
    · rw [if_neg c1, if_neg c1, Nat.zero_add]
      exact sumT_val l s hs
theorem sumN_append (asset : ByteArray) (l m : List S39) : sumN asset (l ++ m) = sumN asset l + sumN asset m := by
  induction l with
  | nil => simp [sumN]
  | cons x l ih => rw [List.cons_append, sumN, sumN, ih]; omega
theorem sumN_mem {asset : ByteArray} {l : List S39} {x : S39} (hx : x ∈ l) (h : x.f1 = asset) : val (w4 x.f2) ≤ sumN asset l := by
  induction l with
  | nil => cases hx
  | cons y l ih =>
    rw [List.mem_cons] at hx
    rw [sumN]
    rcases hx with rfl | hx
    · rw [if_pos h]; omega
    · have := ih hx; omega
theorem sumN_none {asset : ByteArray} {l : List S39} (h : ∀ x ∈ l, x.f1 ≠ asset) : sumN asset l = 0 := by
  induction l with
  | nil => rfl
  | cons y l ih => rw [sumN, if_neg (h y (List.mem_cons_self ..)), ih (fun x hx => h x (List.mem_cons_of_mem _ hx))]
theorem val_z25 : val (w4 z25) = 0 := by decide +kernel
theorem val_zero4 : val zero4 = 0 := by decide +kernel
theorem sumN_set {l : List S39} (h : Up l) (b0 b1 : ByteArray) (a : S25) (q : ByteArray) :
    sumN q (setA l ⟨b0, b1, a⟩ (placeK l b0 b1)) + (if b1 = q then val (w4 (getA l b0 b1 (placeK l b0 b1))) else 0) = sumN q l + (if b1 = q then val (w4 a) else 0) := by
  obtain ⟨A, M, B, C⟩ := cut_ex h b0 b1
  have e : sumN q l = sumN q A + (sumN q M + sumN q B) := by conv => lhs; rw [C.eq]
                                                             rw [sumN_append, sumN_append]
  have e2 : sumN q M = if b1 = q then val (w4 (getA l b0 b1 (placeK l b0 b1))) else 0 := by
    rcases C.mid with h1 | ⟨y, h1, hy⟩
    · rw [C.get_nil h1, h1, val_z25]; simp [sumN]
    · rw [C.get_one h1, h1, ← hy.2]; simp [sumN]
  have e3 : sumN q (if a = z25 then [] else [⟨b0, b1, a⟩] : List S39) = if b1 = q then val (w4 a) else 0 := by
    by_cases ha : a = z25
    · rw [if_pos ha, ha, val_z25]; simp [sumN]
    · rw [if_neg ha]; simp [sumN]
  rw [C.set a, sumN_append, sumN_append, e3, e, e2]
  omega
end Go.Proofs.Ytnedmaddjikmkaa.P

/- Plain facts about accounts: the document's Fit, and that giving and taking keep accounts fit. -/
namespace Go.Proofs.Ytnedmaddjikmkaa.P
set_option linter.unusedVariables false
set_option linter.unusedSimpArgs false
open Go.RowKit Go.Proofs.YtnedmaddjikmkaaW.PrintWords
/-- One account is fit, beside the one ahead. -/
structure FitRow (l : List S39) (i : Nat) : Prop where
  k0 : (at39 l i).f0.size = 20
  k1 : (at39 l i).f1.size = 20
  nz : (at39 l i).f2 ≠ z25
  up : 0 < i → ordA (at39 l (i - 1)) (at39 l i).f0 (at39 l i).f1 < 0
def FitSum (l : List S39) (i : Nat) : Prop := (sumT (at39 l i).f1 l zero4).isSome
structure FitL (l : List S39) : Prop where
  len : l.length ≤ 1000
  rows : ∀ i, i < l.length → FitRow l i
  sums : ∀ i, i < l.length → FitSum l i
theorem z_flag (a : S25) : (a.f0 == 0 && (a.f1 == 0 && (a.f2 == 0 && (a.f3 == 0)))) = decide (a = z25) := by
  by_cases h : a = z25
  · rw [decide_eq_true h, h]; rfl
  · rw [decide_eq_false h]; exact none_flag a h
theorem wrap_nat0 (i : Nat) (h : 0 < i) (h2 : i < 1000000) : wrap64 ((i : Int) - 1) = ((i - 1 : Nat) : Int) := by unfold wrap64; omega
theorem fit_l1 {l : List S39} (hl : okL l) (hl1 : l.length ≤ 1000) : ∀ (d i k : Nat), l.length - i ≤ d → i ≤ l.length → d + l.length + 1 < k →
    ∃ b, truceref16_Fit.l1 k l (i : Int) = some b ∧ (b = true ↔ ∀ j, i ≤ j → j < l.length → FitSum l j) := by
  intro d
  induction d with
  | zero =>
    intro i k hd hi hk
    obtain ⟨k, rfl⟩ : ∃ j, k = j + 1 := ⟨k - 1, by omega⟩
    refine ⟨true, by rw [truceref16_Fit.l1, if_neg (by omega)], ⟨fun _ j h1 h2 => absurd h2 (by omega), fun _ => rfl⟩⟩
  | succ d ih =>
    intro i k hd hi hk
    by_cases h : i < l.length
    · obtain ⟨k, rfl⟩ : ∃ j, k = j + 1 := ⟨k - 1, by omega⟩
      obtain ⟨b, h1, h2⟩ := ih (i + 1) k (by omega) (by omega) (by omega)
      rw [truceref16_Fit.l1, if_pos (by omega), if_pos (by omega), rd39_nat, rsum_val hl (by omega) _ k (by omega), Option.bind_some, wrap_nat1 i (by omega)]
      have hs : (tell (sumT (at39 l i).f1 l zero4)).2.2.2.2 = (sumT (at39 l i).f1 l zero4).isSome := by cases sumT (at39 l i).f1 l zero4 <;> rfl
      rw [hs]
      by_cases c : (sumT (at39 l i).f1 l zero4).isSome = true
      · rw [if_pos c]
        refine ⟨b, h1, h2.trans ⟨fun hh j h3 h4 => ?_, fun hh j h3 h4 => hh j (by omega) h4⟩⟩
        by_cases hji : j = i
        · subst hji; exact c
        · exact hh j (by omega) h4
      · rw [if_neg c]
        exact ⟨false, rfl, ⟨fun hf => (by cases hf), fun hh => absurd (hh i (Nat.le_refl _) h) c⟩⟩
    · exact ih i k (by omega) hi (by omega)
theorem fit_l0 {l : List S39} (hl : okL l) (hl1 : l.length ≤ 1000) : ∀ (d i k : Nat), l.length - i ≤ d → i ≤ l.length → d + 2 * l.length + 3 < k →
    ∃ b, truceref16_Fit.l0 k l (i : Int) = some b ∧ (b = true ↔ (∀ j, i ≤ j → j < l.length → FitRow l j) ∧ ∀ j, j < l.length → FitSum l j) := by
  intro d
  induction d with
  | zero =>
    intro i k hd hi hk
    obtain ⟨k, rfl⟩ : ∃ j, k = j + 1 := ⟨k - 1, by omega⟩
    obtain ⟨b, h1, h2⟩ := fit_l1 hl hl1 l.length 0 k (by omega) (by omega) (by omega)
    refine ⟨b, by rw [truceref16_Fit.l0, if_neg (by omega)]; exact h1, h2.trans ⟨fun hh => ⟨fun j h3 h4 => absurd h4 (by omega), fun j h4 => hh j (Nat.zero_le _) h4⟩, fun hh j _ h4 => hh.2 j h4⟩⟩
  | succ d ih =>
    intro i k hd hi hk
    by_cases h : i < l.length
    · obtain ⟨k, rfl⟩ : ∃ j, k = j + 1 := ⟨k - 1, by omega⟩
      obtain ⟨b, h1, h2⟩ := ih (i + 1) k (by omega) (by omega) (by omega)
      rw [truceref16_Fit.l0, if_pos (by omega), if_pos (by omega), rd39_nat, wrap_nat1 i (by omega)]
      have out : ¬ FitRow l i → ((∀ j, i ≤ j → j < l.length → FitRow l j) ∧ ∀ j, j < l.length → FitSum l j) → False := fun hn hh => hn (hh.1 i (Nat.le_refl _) h)
      have stay : FitRow l i → (b = true ↔ (∀ j, i ≤ j → j < l.length → FitRow l j) ∧ ∀ j, j < l.length → FitSum l j) := fun hr => h2.trans ⟨fun hh => ⟨fun j h3 h4 => by
        by_cases hji : j = i
        · subst hji; exact hr
        · exact hh.1 j (by omega) h4, hh.2⟩, fun hh => ⟨fun j h3 h4 => hh.1 j (by omega) h4, hh.2⟩⟩
      by_cases c1 : (at39 l i).f0.size = 20
      · rw [if_pos (by omega)]
        by_cases c2 : (at39 l i).f1.size = 20
        · rw [if_pos (by omega), z_flag]
          by_cases c3 : (at39 l i).f2 = z25
          · rw [if_pos (by simpa using c3)]
            exact ⟨false, rfl, ⟨fun hf => (by cases hf), fun hh => (out (fun hr => hr.nz c3) hh).elim⟩⟩
          · rw [if_neg (by simpa using c3)]
            by_cases c4 : 0 < i
            · rw [if_pos (by omega), wrap_nat0 i c4 (by omega), if_pos (by omega), if_pos (by omega), rd39_nat, before_val, Option.bind_some]
              by_cases c5 : ordA (at39 l (i - 1)) (at39 l i).f0 (at39 l i).f1 < 0
              · rw [if_pos (by simpa using c5)]
                exact ⟨b, h1, stay ⟨c1, c2, c3, fun _ => c5⟩⟩
              · rw [if_neg (by simpa using c5)]
                exact ⟨false, rfl, ⟨fun hf => (by cases hf), fun hh => (out (fun hr => c5 (hr.up c4)) hh).elim⟩⟩
            · rw [if_neg (by omega)]
              exact ⟨b, h1, stay ⟨c1, c2, c3, fun h => (absurd h c4)⟩⟩
        · rw [if_neg (by omega)]
          exact ⟨false, rfl, ⟨fun hf => (by cases hf), fun hh => (out (fun hr => c2 hr.k1) hh).elim⟩⟩
      · rw [if_neg (by omega)]
        exact ⟨false, rfl, ⟨fun hf => (by cases hf), fun hh => (out (fun hr => c1 hr.k0) hh).elim⟩⟩
    · exact ih i k (by omega) hi (by omega)
/-- The document's Fit. -/
theorem rfit_val {l : List S39} (hl : okL l) (k : Nat) (hk : 3 * l.length + 5 < k) : ∃ b, truceref16_Fit.f k l = some b ∧ (b = true ↔ FitL l) := by
  rw [truceref16_Fit.f]
  by_cases h : l.length ≤ 1000
  · rw [if_neg (by omega)]
    obtain ⟨b, h1, h2⟩ := fit_l0 hl h l.length 0 k (by omega) (by omega) (by omega)
    exact ⟨b, h1, h2.trans ⟨fun hh => ⟨h, fun i hi => hh.1 i (Nat.zero_le _) hi, hh.2⟩, fun hh => ⟨fun i _ hi => hh.rows i hi, hh.sums⟩⟩⟩
  · rw [if_pos (by omega)]
    exact ⟨false, rfl, ⟨fun hf => (by cases hf), fun hh => absurd hh.len h⟩⟩
theorem fit_true {l : List S39} (hl : okL l) (k : Nat) (hk : 3 * l.length + 5 < k) (h : FitL l) : truceref16_Fit.f k l = some true := by
  obtain ⟨b, h1, h2⟩ := rfit_val hl k hk
  rw [h1, h2.2 h]
section
variable {l : List S39} (F : FitL l)
include F
theorem FitL.up : Up l := fun i hi => (F.rows (i + 1) hi).up (Nat.succ_pos _)
theorem FitL.keys {x : S39} (hx : x ∈ l) : x.f0.size = 20 ∧ x.f1.size = 20 := by
  obtain ⟨i, hi, rfl⟩ := List.getElem_of_mem hx
  have := F.rows i hi
  rw [← at39_get hi]
  exact ⟨this.k0, this.k1⟩
theorem FitL.nz {x : S39} (hx : x ∈ l) : x.f2 ≠ z25 := by
  obtain ⟨i, hi, rfl⟩ := List.getElem_of_mem hx
  have := F.rows i hi
  rw [← at39_get hi]
  exact this.nz
theorem FitL.sum (q : ByteArray) : sumN q l < 115792089237316195423570985008687907853269984665640564039457584007913129639936 := by
  by_cases h : ∃ x ∈ l, x.f1 = q
  · obtain ⟨x, hx, rfl⟩ := h
    obtain ⟨i, hi, rfl⟩ := List.getElem_of_mem hx
    have := F.sums i hi
    unfold FitSum at this
    rw [at39_get hi] at this
    rcases sumT_val (asset := l[i].f1) l zero4 rfl with ⟨r, h1, h2, h3, h4⟩ | ⟨h1, h2⟩
    · rw [val_zero4] at h4; omega
    · rw [h1] at this; cases this
  · rw [sumN_none (fun x hx hq => h ⟨x, hx, hq⟩)]
    omega
theorem FitL.sumT (q : ByteArray) : ∃ r, sumT q l zero4 = some r ∧ r.length = 4 ∧ val r = sumN q l := by
  rcases sumT_val (asset := q) l zero4 rfl with ⟨r, h1, h2, h3, h4⟩ | ⟨h1, h2⟩
  · exact ⟨r, h1, h2, by rw [h3, val_zero4]; omega⟩
  · have := F.sum q
    rw [val_zero4] at h2
    omega
end
theorem fit_of {l : List S39} (h1 : l.length ≤ 1000) (h2 : Up l) (h3 : ∀ x ∈ l, x.f0.size = 20 ∧ x.f1.size = 20 ∧ x.f2 ≠ z25) (h4 : ∀ q, sumN q l < 115792089237316195423570985008687907853269984665640564039457584007913129639936) : FitL l := by
  refine ⟨h1, fun i hi => ?_, fun i hi => ?_⟩
  · have := h3 _ (at39_mem hi)
    refine ⟨this.1, this.2.1, this.2.2, fun h0 => ?_⟩
    have h5 := h2 (i - 1) (by omega)
    rwa [show i - 1 + 1 = i by omega] at h5
  · unfold FitSum
    rcases sumT_val (asset := (at39 l i).f1) l zero4 rfl with ⟨r, e, _, _, _⟩ | ⟨e, h6⟩
    · rw [e]; rfl
    · have := h4 (at39 l i).f1
      rw [val_zero4] at h6
      omega
/-! The same. -/
theorem same_l0 (l : List S39) (hl : l.length ≤ 1000) : ∀ (d i k : Nat), l.length - i ≤ d → i ≤ l.length → d < k → truceref16_Same.l0 k l l (i : Int) = some true := by
  intro d
  induction d with
  | zero =>
    intro i k hd hi hk
    obtain ⟨k, rfl⟩ : ∃ j, k = j + 1 := ⟨k - 1, by omega⟩
    rw [truceref16_Same.l0, if_neg (by omega)]
  | succ d ih =>
    intro i k hd hi hk
    obtain ⟨k, rfl⟩ : ∃ j, k = j + 1 := ⟨k - 1, by omega⟩
    rw [truceref16_Same.l0]
    by_cases h : i < l.length
    · rw [if_pos (by omega), if_pos (by omega), if_pos (by omega), if_neg (by simp), wrap_nat1 i (by omega)]
      exact ih (i + 1) k (by omega) (by omega) (by omega)
    · rw [if_neg (by omega)]
theorem same_refl (l : List S39) (hl : l.length ≤ 1000) (k : Nat) (hk : l.length < k) : truceref16_Same.f k l l = some true := by
  rw [truceref16_Same.f, if_pos rfl]
  exact same_l0 l hl l.length 0 k (by omega) (by omega) hk
theorem few_val (l : List S39) : trucelaw16_few.f l = some (decide (l.length ≤ 100)) := by
  rw [trucelaw16_few.f]
  by_cases h : l.length ≤ 100
  · rw [decide_eq_true h, decide_eq_true (by omega)]
  · rw [decide_eq_false h, decide_eq_false (by omega)]
/-! Giving and taking. -/
theorem okL_set {l : List S39} (h : Up l) (hl : okL l) (b0 b1 : ByteArray) (a : S25) (ha : ok4 a.f0 a.f1 a.f2 a.f3) : okL (setA l ⟨b0, b1, a⟩ (placeK l b0 b1)) := fun x hx => by
  obtain ⟨A, M, B, C⟩ := cut_ex h b0 b1
  rcases C.mem_or a hx with hx | ⟨_, rfl⟩
  · exact hl x hx
  · exact ha
theorem w4_sw (L : List W64) (hL : L.length = 4) : w4 (sw L) = L := wl4_sw L hL
theorem sw_w4 (a : S25) (h : ok4 a.f0 a.f1 a.f2 a.f3) : sw (w4 a) = a := by
  obtain ⟨a0, a1, a2, a3⟩ := a
  obtain ⟨h0, h1, h2, h3⟩ := h
  show (⟨vw (BitVec.ofInt 64 a0), vw (BitVec.ofInt 64 a1), vw (BitVec.ofInt 64 a2), vw (BitVec.ofInt 64 a3)⟩ : S25) = _
  rw [vw_ofInt _ h0, vw_ofInt _ h1, vw_ofInt _ h2, vw_ofInt _ h3]
theorem getA_ok4 {l : List S39} (hl : okL l) (b0 b1 : ByteArray) (k : Nat) : ok4 (getA l b0 b1 k).f0 (getA l b0 b1 k).f1 (getA l b0 b1 k).f2 (getA l b0 b1 k).f3 := by
  unfold getA
  split
  · rename_i h
    have hk : k < l.length := by
      simp only [isAt, Bool.and_eq_true, decide_eq_true_eq] at h
      exact h.1
    exact hl _ (at39_mem hk)
  · decide
theorem not_wrong {who asset : ByteArray} (h : ¬ isWrong who asset = true) : who.size = 20 ∧ asset.size = 20 := by
  unfold isWrong at h
  simp only [Bool.or_eq_true, bne_iff_ne, not_or] at h
  exact ⟨by omega, by omega⟩
theorem get_le {l : List S39} (h : Up l) (who asset : ByteArray) : val (w4 (getA l who asset (placeK l who asset))) ≤ sumN asset l := by
  by_cases hx : ∃ x ∈ l, x.f0 = who ∧ x.f1 = asset
  · obtain ⟨x, hx, rfl, rfl⟩ := hx
    rw [get_mem h hx]
    exact sumN_mem hx rfl
  · rw [get_none h (fun x h1 h2 => hx ⟨x, h1, h2⟩), val_z25]
    exact Nat.zero_le _
theorem fit_set {l : List S39} (F : FitL l) {b0 b1 : ByteArray} (h0 : b0.size = 20) (h1 : b1.size = 20) (a : S25) (hlen : (setA l ⟨b0, b1, a⟩ (placeK l b0 b1)).length ≤ 1000)
    (hs : sumN b1 (setA l ⟨b0, b1, a⟩ (placeK l b0 b1)) < 115792089237316195423570985008687907853269984665640564039457584007913129639936) : FitL (setA l ⟨b0, b1, a⟩ (placeK l b0 b1)) := by
  obtain ⟨A, M, B, C⟩ := cut_ex F.up b0 b1
  refine fit_of hlen (C.up F.up a) (fun x hx => ?_) (fun q => ?_)
  · rcases C.mem_or a hx with hx | ⟨hn, rfl⟩
    · exact ⟨(F.keys hx).1, (F.keys hx).2, F.nz hx⟩
    · exact ⟨h0, h1, hn⟩
  · by_cases hq : b1 = q
    · subst hq; exact hs
    · have := sumN_set F.up b0 b1 a q
      rw [if_neg hq, if_neg hq] at this
      have := F.sum q
      omega
theorem add_fine {A B : List W64} (hA : A.length = 4) (hB : B.length = 4) (h : val A + val B < 115792089237316195423570985008687907853269984665640564039457584007913129639936) : val (addk A B 4).1 = val A + val B ∧ (addk A B 4).2 = 0 := by
  have ho := add_over A B hA hB
  have hv := add_val A B hA hB
  rw [if_pos h] at ho
  rw [ho, Nat.zero_mul, Nat.add_zero] at hv
  exact ⟨hv, ho⟩
theorem sub_fine {A B : List W64} (hA : A.length = 4) (hB : B.length = 4) (h : (subk A B 4).2 ≠ 1) : val (subk A B 4).1 + val B = val A ∧ (subk A B 4).2 = 0 := by
  have hc := subk_c A B 4
  have hv := sub_val A B hA hB
  generalize subk A B 4 = X at h hc hv ⊢
  have h0 : X.2 = 0 := by omega
  rw [h0, Nat.zero_mul, Nat.add_zero] at hv
  exact ⟨hv, h0⟩
theorem give_fit {l : List S39} (F : FitL l) (hl : okL l) {who asset : ByteArray} {n : List W64} (hn : n.length = 4) (he : giveE l who asset n = 0) :
    FitL (giveL l who asset n) ∧ okL (giveL l who asset n) ∧ sumN asset (giveL l who asset n) = sumN asset l + val n ∧ sumN asset l + val n < 115792089237316195423570985008687907853269984665640564039457584007913129639936 ∧
    val (giveS l who asset n).1 = val (w4 (getA l who asset (placeK l who asset))) + val n ∧ (giveS l who asset n).1.length = 4 := by
  unfold giveE at he
  split at he
  · cases he
  rename_i c1
  split at he
  · cases he
  rename_i c2
  split at he
  · cases he
  rename_i c3
  obtain ⟨h20, h21⟩ := not_wrong c1
  obtain ⟨r, e1, e2, e3⟩ := F.sumT asset
  have hsv : sumV l asset = r := by rw [sumV, e1]; rfl
  rw [hsv, add_over r n e2 hn] at c2
  have hlt : sumN asset l + val n < 115792089237316195423570985008687907853269984665640564039457584007913129639936 := by
    rw [← e3]
    by_cases h : val r + val n < 115792089237316195423570985008687907853269984665640564039457584007913129639936
    · exact h
    · rw [if_neg h] at c2; exact absurd rfl c2
  have hg := get_le F.up who asset
  have hgl : (w4 (getA l who asset (placeK l who asset))).length = 4 := w4_len _
  have hv : val (giveS l who asset n).1 = val (w4 (getA l who asset (placeK l who asset))) + val n := (add_fine hgl hn (Nat.lt_of_le_of_lt (Nat.add_le_add_right hg _) hlt)).1
  have hlen : (giveS l who asset n).1.length = 4 := by unfold giveS; rw [addk_len]; exact hgl
  have hsum : sumN asset (giveL l who asset n) = sumN asset l + val n := by
    have := sumN_set F.up who asset (sw (giveS l who asset n).1) asset
    rw [if_pos rfl, if_pos rfl, w4_sw _ hlen, hv] at this
    unfold giveL
    generalize val (w4 (getA l who asset (placeK l who asset))) = v1 at this
    generalize sumN asset (setA l ⟨who, asset, sw (giveS l who asset n).1⟩ (placeK l who asset)) = v2 at this ⊢
    clear hv hg hgl hlen hlt e3
    omega
  refine ⟨fit_set F h20 h21 _ (Nat.le_of_not_lt c3) (Nat.lt_of_le_of_lt (Nat.le_of_eq hsum) hlt), okL_set F.up hl _ _ _ (ok4_sw _), hsum, hlt, hv, hlen⟩
theorem take_fit {l : List S39} (F : FitL l) (hl : okL l) (h100 : l.length ≤ 900) {who asset : ByteArray} {n : List W64} (hn : n.length = 4) (he : takeE l who asset n = 0) :
    FitL (takeL l who asset n) ∧ okL (takeL l who asset n) ∧ sumN asset (takeL l who asset n) + val n = sumN asset l ∧
    val (takeS l who asset n).1 + val n = val (w4 (getA l who asset (placeK l who asset))) ∧ (takeS l who asset n).1.length = 4 ∧ (takeL l who asset n).length ≤ l.length + 1 := by
  unfold takeE at he
  split at he
  · cases he
  rename_i c1
  split at he
  · cases he
  rename_i c2
  obtain ⟨h20, h21⟩ := not_wrong c1
  have hg := get_le F.up who asset
  have hgl : (w4 (getA l who asset (placeK l who asset))).length = 4 := w4_len _
  have hv : val (takeS l who asset n).1 + val n = val (w4 (getA l who asset (placeK l who asset))) := (sub_fine hgl hn c2).1
  have hlen : (takeS l who asset n).1.length = 4 := by unfold takeS; rw [subk_len]; exact hgl
  have hsum : sumN asset (takeL l who asset n) + val n = sumN asset l := by
    have := sumN_set F.up who asset (sw (takeS l who asset n).1) asset
    rw [if_pos rfl, if_pos rfl, w4_sw _ hlen] at this
    unfold takeL
    generalize val (w4 (getA l who asset (placeK l who asset))) = v1 at this hv hg
    generalize sumN asset (setA l ⟨who, asset, sw (takeS l who asset n).1⟩ (placeK l who asset)) = v2 at this ⊢
    generalize val (takeS l who asset n).1 = v3 at this hv
    clear hgl hlen
    omega
  have hll : (takeL l who asset n).length ≤ l.length + 1 := by
    obtain ⟨A, M, B, C⟩ := cut_ex F.up who asset
    unfold takeL
    rw [C.set, C.eq]
    simp only [List.length_append]
    split <;> simp <;> omega
  have hs := F.sum asset
  refine ⟨fit_set F h20 h21 _ (Nat.le_trans hll (by clear hv hlen hs hsum; omega)) (Nat.lt_of_le_of_lt (Nat.le_trans (Nat.le_add_right _ _) (Nat.le_of_eq hsum)) hs), okL_set F.up hl _ _ _ (ok4_sw _), hsum, hv, hlen, hll⟩
end Go.Proofs.Ytnedmaddjikmkaa.P


