import Derived.Test.YtmnphdgghjdkmaaPureOrd
import Derived.Test.YtmnphdgghjdkmaaPtrucelaw17PayAll
namespace Go.Proofs.Ytmnphdgghjdkmaa.P
set_option linter.unusedSimpArgs false
set_option linter.unusedSectionVars false
set_option linter.unusedVariables false
open Go.RowKit Go.Proofs.YtmnphdgghjdkmaaW.PrintWords
/-! Of money that is enough each plain allocation is paid wholly, and nothing is paid twice. -/
theorem rd_p (f : Nat → List W64) (n i : Nat) (hi : i < n) : rd_T24 ((List.range n).map fun k => sw (f k)) (i : Int) = sw (f i) := by
  simp [rd_T24, List.getD_eq_getElem?_getD, hi]
theorem addF_sw (A : List W64) (hA : A.length = 4) (a : S40) (h : okA a) : truceref01_Add.f (sw A).f0 (sw A).f1 (sw A).f2 (sw A).f3 a.f1.f0 a.f1.f1 a.f1.f2 a.f1.f3 =
    some ((sw (addk A (am a) 4).1).f0, (sw (addk A (am a) 4).1).f1, (sw (addk A (am a) 4).1).f2, (sw (addk A (am a) 4).1).f3, decide ((addk A (am a) 4).2 > 0)) := by
  unfold truceref01_Add.f addF
  rw [if_pos ⟨ok4_sw A, h⟩, wl4_sw A hA]
  rfl
def upA (M : List W64) (l : List S40) : Nat → List W64
  | 0 => M
  | k + 1 => (addk (upA M l k) (am (at40 l k)) 4).1
def sumA (l : List S40) : Nat → Nat
  | 0 => 0
  | k + 1 => sumA l k + val (am (at40 l k))
theorem upA_len (M : List W64) (l : List S40) (hM : M.length = 4) (k : Nat) : (upA M l k).length = 4 := by
  induction k with
  | zero => exact hM
  | succ k ih => rw [upA, addk_len, ih]
theorem sumA_mono (l : List S40) {i j : Nat} (h : i ≤ j) : sumA l i ≤ sumA l j := by
  induction j with
  | zero => obtain rfl : i = 0 := by omega
            exact Nat.le_refl _
  | succ j ih =>
    by_cases hij : i = j + 1
    · subst hij; exact Nat.le_refl _
    · have := ih (by omega)
      rw [sumA]; omega
theorem val_hAt_sum (H : List W64) (l : List S40) (hH : H.length = 4) (k : Nat) : val (hAt H l k) = val H - sumA l k := by
  induction k with
  | zero => rfl
  | succ k ih => rw [val_hAt H l hH, ih, sumA]; omega
section
variable {M : List W64} {l : List S40} (hM : M.length = 4) (hl : okL l) (h60 : l.length ≤ 60)
include hM in
theorem cAt_enough {n : Nat} (hv : val (upA M l n) = val M + sumA l n) (k : Nat) (hk : k < n) : cAt (upA M l n) l k = am (at40 l k) := by
  have hH := upA_len M l hM n
  refine val_inj _ _ ?_ (am_len _) ?_
  · rw [cAt]; exact covN_len (hAt_len _ _ hH _) (am_len _)
  · have h1 := sumA_mono l (show k + 1 ≤ n by omega)
    rw [sumA] at h1
    rw [val_cAt _ l hH, val_hAt_sum _ l hH, hv]
    omega
include hM in
theorem hAt_enough {n : Nat} (hv : val (upA M l n) = val M + sumA l n) : hAt (upA M l n) l n = M := by
  have hH := upA_len M l hM n
  refine val_inj _ _ (hAt_len _ _ hH _) hM ?_
  rw [val_hAt_sum _ l hH, hv]
  omega
theorem sub_self4 (A : List W64) (hA : A.length = 4) : (subk A A 4).1 = zero4 :=
  val_inj _ _ (by rw [subk_len]; exact hA) zero4_len (by rw [sub_val_le hA hA (Nat.le_refl _), val_zero4]; omega)
include hM hl h60 in
theorem all_l2 (N : List S40) (hN : ∀ k, k < N.length → am (at40 N k) = zero4) (n : Nat) (hNn : N.length = n) (hn : n ≤ 60) : ∀ (d i k : Nat), n - i ≤ d → i ≤ n → d + 50 < k →
    trucelaw17_PayAll.l2 k 0 ((List.range n).map fun k => sw (cAt M N k)) (n : Int) (i : Int) (sw M).f0 (sw M).f1 (sw M).f2 (sw M).f3 (sw M).f0 (sw M).f1 (sw M).f2 (sw M).f3 = some true := by
  have hc : ∀ k, k < n → cAt M N k = zero4 := fun k hk => by
    have hk' : k < N.length := by omega
    refine val_inj _ _ ?_ zero4_len ?_
    · rw [cAt]; exact covN_len (hAt_len _ _ hM _) (am_len _)
    · rw [val_cAt _ N hM, hN k hk', val_zero4]; omega
  intro d
  induction d with
  | zero =>
    intro i k hd hi hk
    obtain ⟨k, rfl⟩ : ∃ j, k = j + 1 := ⟨k - 1, by omega⟩
    rw [trucelaw17_PayAll.l2, if_neg (by omega), if_pos rfl, if_pos (by simp), awake_true k (by omega)]
    rfl
  | succ d ih =>
    intro i k hd hi hk
    by_cases h : i < n
    · obtain ⟨k, rfl⟩ : ∃ j, k = j + 1 := ⟨k - 1, by omega⟩
      rw [trucelaw17_PayAll.l2, if_pos (by omega), if_pos (by omega), if_pos (by simp; omega), rd_p _ n i h, hc i h, if_neg (by decide), wrap_nat1 i (by omega)]
      exact ih (i + 1) k (by omega) (by omega) (by omega)
    · exact ih i k (by omega) hi (by omega)
include hM hl h60 in
theorem all_l1 (hp : ∀ k, k < l.length → (at40 l k).f2 = 0) (hv : val (upA M l l.length) = val M + sumA l l.length) : ∀ (d i k : Nat), l.length - i ≤ d → i ≤ l.length → d + 150 < k →
    trucelaw17_PayAll.l1 k l (outK (upA M l l.length) l [] l.length) ((List.range l.length).map fun k => sw (cAt (upA M l l.length) l k)) (l.length : Int) (i : Int) (sw M).f0 (sw M).f1 (sw M).f2 (sw M).f3 = some true := by
  have hH := upA_len M l hM l.length
  have hlen := outK_len (upA M l l.length) l [] l.length (Nat.le_refl _)
  have hat : ∀ k, k < l.length → at40 (outK (upA M l l.length) l [] l.length) k = putA (at40 l k) zero4 := fun k hk => by
    rw [outK_lt _ _ _ _ _ (Nat.le_refl _) hk, oAt_put, nAt_all hp k hk, cAt_enough hM hv k hk, sub_self4 _ (am_len _)]
  intro d
  induction d with
  | zero =>
    intro i k hd hi hk
    obtain ⟨k, rfl⟩ : ∃ j, k = j + 1 := ⟨k - 1, by omega⟩
    rw [trucelaw17_PayAll.l1, if_neg (by omega)]
    have hok := outK_ok (H := upA M l l.length) hl [] l.length (Nat.le_refl _)
    have hpl : ∀ k, k < (outK (upA M l l.length) l [] l.length).length → (at40 (outK (upA M l l.length) l [] l.length) k).f2 = 0 := fun k hk => plain_out hp l.length k (Nat.le_refl _) (by omega)
    have hz : ∀ k, k < (outK (upA M l l.length) l [] l.length).length → am (at40 (outK (upA M l l.length) l [] l.length) k) = zero4 := fun k hk => by rw [hat k (by omega), am_putA _ _ zero4_len]
    generalize outK (upA M l l.length) l [] l.length = N at *
    rw [transfer_all hM hpl hok (by omega), Option.bind_some]
    have hend : hAt M N N.length = M := by
      have hs : ∀ k, k ≤ N.length → sumA N k = 0 := fun k => by
        induction k with
        | zero => intro _; rfl
        | succ k ih => intro hk; rw [sumA, ih (by omega), hz k (by omega), val_zero4]
      refine val_inj _ _ (hAt_len _ _ hM _) hM ?_
      rw [val_hAt_sum _ N hM, hs _ (Nat.le_refl _)]
      omega
    rw [hend]
    show trucelaw17_PayAll.l2 k 0 ((List.range N.length).map fun k => sw (cAt M N k)) (((List.range N.length).map fun k => sw (cAt M N k)).length : Int) 0 _ _ _ _ _ _ _ _ = _
    rw [List.length_map, List.length_range]
    exact all_l2 hM hl h60 N hz N.length rfl (by omega) N.length 0 k (by omega) (by omega) (by omega)
  | succ d ih =>
    intro i k hd hi hk
    by_cases h : i < l.length
    · obtain ⟨k, rfl⟩ : ∃ j, k = j + 1 := ⟨k - 1, by omega⟩
      have hx : rd_T40 (outK (upA M l l.length) l [] l.length) (i : Int) = putA (at40 l i) zero4 := by rw [← hat i h]; simp [rd_T40, at40]
      have hx2 : rd_T40 l (i : Int) = at40 l i := by simp [rd_T40, at40]
      have hx3 : sw (am (at40 l i)) = (at40 l i).f1 := sw_am _ (hl _ (at40_mem h))
      rw [trucelaw17_PayAll.l1, if_pos (by omega), if_pos (by omega), if_pos (by omega), hx, if_neg (by have h0 : (putA (at40 l i) zero4).f1 = sw zero4 := rfl
                                                                                                        rw [h0]; decide), if_pos (by simp; omega), if_pos (by omega), rd_p _ _ i h, hx2, cAt_enough hM hv i h, hx3, if_neg (by simp), if_pos (show (putA (at40 l i) zero4).f0.toList = (at40 l i).f0.toList from rfl), wrap_nat1 i (by omega)]
      exact ih (i + 1) k (by omega) (by omega) (by omega)
    · exact ih i k (by omega) hi (by omega)
include hM hl h60 in
theorem all_l0 : ∀ (d i k : Nat), l.length - i ≤ d → i ≤ l.length → (∀ j, j < i → (at40 l j).f2 = 0) → val (upA M l i) = val M + sumA l i → d + 300 < k →
    trucelaw17_PayAll.l0 k l l (l.length : Int) (i : Int) (sw M).f0 (sw M).f1 (sw M).f2 (sw M).f3 (sw (upA M l i)).f0 (sw (upA M l i)).f1 (sw (upA M l i)).f2 (sw (upA M l i)).f3 = some true := by
  intro d
  induction d with
  | zero =>
    intro i k hd hi hz hv hk
    obtain ⟨k, rfl⟩ : ∃ j, k = j + 2 := ⟨k - 2, by omega⟩
    obtain rfl : i = l.length := by omega
    have h1 := all_l1 hM hl h60 hz hv l.length 0 k (by omega) (by omega) (by omega)
    have hlen := outK_len (upA M l l.length) l [] l.length (Nat.le_refl _)
    rw [trucelaw17_PayAll.l0, if_neg (by omega), transfer_all (upA_len M l hM _) hz hl h60, hAt_enough hM hv, Option.bind_some, if_pos rfl]
    dsimp only
    rw [if_neg (by simp), if_pos (by rw [hlen]), trucelaw17_PayAll.j1, if_neg (by simp)]
    exact h1
  | succ d ih =>
    intro i k hd hi hz hv hk
    by_cases h : i < l.length
    · obtain ⟨k, rfl⟩ : ∃ j, k = j + 1 := ⟨k - 1, by omega⟩
      have hx : rd_T40 l (i : Int) = at40 l i := by simp [rd_T40, at40]
      rw [trucelaw17_PayAll.l0, if_pos (by omega), if_pos (by omega), if_pos (by omega), hx, addF_sw _ (upA_len M l hM i) _ (hl _ (at40_mem h)), Option.bind_some]
      dsimp only
      by_cases ho : (addk (upA M l i) (am (at40 l i)) 4).2 > 0
      · rw [if_pos (by simpa using ho), awake_true k (by omega)]
        rfl
      · rw [if_neg (by simpa using ho)]
        by_cases hk0 : (at40 l i).f2 = 0
        · rw [if_pos hk0, wrap_nat1 i (by omega)]
          refine ih (i + 1) k (by omega) (by omega) (fun j hj => ?_) ?_ (by omega)
          · by_cases hji : j = i
            · subst hji; exact hk0
            · exact hz j (by omega)
          · have ha := add_val (upA M l i) (am (at40 l i)) (upA_len M l hM i) (am_len _)
            rw [show (addk (upA M l i) (am (at40 l i)) 4).2 = 0 by omega, hv] at ha
            rw [upA, sumA]
            omega
        · rw [if_neg hk0, awake_true k (by omega)]
          rfl
    · exact ih i k (by omega) hi hz hv (by omega)
end
theorem sw_wl4 (a0 a1 a2 a3 : Int) (h : ok4 a0 a1 a2 a3) : sw (wl4 a0 a1 a2 a3) = ⟨a0, a1, a2, a3⟩ := sw_am ⟨ByteArray.empty, ⟨a0, a1, a2, a3⟩, 0, ByteArray.empty, ByteArray.empty⟩ h
theorem all_true (l : List S40) (hl : okL l) (a0 a1 a2 a3 : Int) (h4 : ok4 a0 a1 a2 a3) : ∃ k, trucelaw17_PayAll.f k l a0 a1 a2 a3 = some true := by
  refine ⟨1000, ?_⟩
  have e := sw_wl4 a0 a1 a2 a3 h4
  by_cases h60 : l.length ≤ 60
  · rw [trucelaw17_PayAll.f, few_true l [] h60 (by simp), Option.bind_some, if_pos rfl]
    have := all_l0 (M := wl4 a0 a1 a2 a3) rfl hl h60 l.length 0 1000 (by omega) (by omega) (fun j hj => by omega) (by rw [upA, sumA, Nat.add_zero]) (by omega)
    rw [upA, e] at this
    exact this
  · rw [trucelaw17_PayAll.f, few_false l [] (fun h => h60 h.1), Option.bind_some, if_neg (by simp), awake_true _ (by omega)]
    rfl
#print axioms all_true
end Go.Proofs.Ytmnphdgghjdkmaa.P
