import Derived.Test.YtmnphdgghjdkmaaPureOrd
namespace Go.Proofs.Ytmnphdgghjdkmaa.P
set_option linter.unusedSectionVars false
set_option linter.unusedVariables false
set_option linter.unusedSimpArgs false
open Go.RowKit Go.Proofs.YtmnphdgghjdkmaaW.PrintWords
section
variable {H : List W64} {l : List S40} (hH : H.length = 4) (hl : okL l) (h60 : l.length ≤ 60)
theorem rd_p (f : Nat → List W64) (n i : Nat) (hi : i < n) : rd_T24 ((List.range n).map fun k => sw (f k)) (i : Int) = sw (f i) := by
  simp [rd_T24, List.getD_eq_getElem?_getD, hi]
include hH hl h60 in
theorem order_l1 (hp : ∀ k, k < l.length → (at40 l k).f2 = 0) : ∀ (d i k : Nat), l.length - i ≤ d → i ≤ l.length → d + 150 < k →
    trucelaw17_PayOrder.l1 k (outK H l [] i) (outK H l [] l.length) ((List.range l.length).map fun k => sw (cAt H l k)) (l.length : Int) (i : Int) (sw (hAt H l i)).f0 (sw (hAt H l i)).f1 (sw (hAt H l i)).f2 (sw (hAt H l i)).f3
      (sw (hAt H l l.length)).f0 (sw (hAt H l l.length)).f1 (sw (hAt H l l.length)).f2 (sw (hAt H l l.length)).f3 = some true := by
  intro d
  induction d with
  | zero =>
    intro i k hd hi hk
    obtain ⟨k, rfl⟩ : ∃ j, k = j + 1 := ⟨k - 1, by omega⟩
    obtain rfl : i = l.length := by omega
    have hlen := outK_len H l [] l.length (Nat.le_refl _)
    rw [trucelaw17_PayOrder.l1, if_neg (by omega), same_refl _ (by omega) k (by omega), Option.bind_some, if_pos rfl, if_pos (by simp), awake_true k (by omega)]
    rfl
  | succ d ih =>
    intro i k hd hi hk
    by_cases h : i < l.length
    · obtain ⟨k, rfl⟩ : ∃ j, k = j + 1 := ⟨k - 1, by omega⟩
      obtain ⟨q, hq, hql, hqi⟩ := transfer_one hH hp hl h60 i h
      have hpl : ((List.range l.length).map fun k => sw (cAt H l k)).length = l.length := by simp
      have hpi := rd_p (cAt H l) l.length i h
      generalize ((List.range l.length).map fun k => sw (cAt H l k)) = p at *
      rw [trucelaw17_PayOrder.l1, if_pos (by omega), hq, Option.bind_some, if_pos rfl]
      show (if (q.length : Int) = (p.length : Int) then _ else _) = _
      rw [if_pos (by omega), if_pos (by omega)]
      show (if (i : Int) < (q.length : Int) then _ else _) = _
      rw [if_pos (by omega), if_pos (by omega), hqi, hpi, if_neg (by simp), wrap_nat1 i (by omega)]
      exact ih (i + 1) k (by omega) (by omega) (by omega)
    · exact ih i k (by omega) hi (by omega)
include hH hl h60 in
theorem order_l0 : ∀ (d i k : Nat), l.length - i ≤ d → i ≤ l.length → (∀ j, j < i → (at40 l j).f2 = 0) → d + 300 < k →
    trucelaw17_PayOrder.l0 k l l (l.length : Int) (i : Int) (sw H).f0 (sw H).f1 (sw H).f2 (sw H).f3 = some true := by
  intro d
  induction d with
  | zero =>
    intro i k hd hi hz hk
    obtain ⟨k, rfl⟩ : ∃ j, k = j + 2 := ⟨k - 2, by omega⟩
    obtain rfl : i = l.length := by omega
    have hpl : ((List.range l.length).map fun k => sw (cAt H l k)).length = l.length := by simp
    have h1 := order_l1 hH hl h60 hz l.length 0 k (by omega) (by omega) (by omega)
    rw [outK_zero] at h1
    rw [trucelaw17_PayOrder.l0, if_neg (by omega), transfer_all hH hz hl h60]
    generalize ((List.range l.length).map fun k => sw (cAt H l k)) = p at *
    rw [Option.bind_some, if_pos rfl]
    rw [trucelaw17_PayOrder.j2]
    dsimp only
    rw [if_neg (by simp; omega)]
    exact h1
  | succ d ih =>
    intro i k hd hi hz hk
    by_cases h : i < l.length
    · obtain ⟨k, rfl⟩ : ∃ j, k = j + 1 := ⟨k - 1, by omega⟩
      rw [trucelaw17_PayOrder.l0, if_pos (by omega), if_pos (by omega), if_pos (by omega)]
      have hx : rd_T40 l (i : Int) = at40 l i := by simp [rd_T40, at40]
      rw [hx]
      by_cases hk0 : (at40 l i).f2 = 0
      · rw [if_pos hk0, wrap_nat1 i (by omega)]
        refine ih (i + 1) k (by omega) (by omega) (fun j hj => ?_) (by omega)
        by_cases hji : j = i
        · subst hji; exact hk0
        · exact hz j (by omega)
      · rw [if_neg hk0, awake_true k (by omega)]
        rfl
    · exact ih i k (by omega) hi hz (by omega)
end
theorem sw_wl4 (a0 a1 a2 a3 : Int) (h : ok4 a0 a1 a2 a3) : sw (wl4 a0 a1 a2 a3) = ⟨a0, a1, a2, a3⟩ := sw_am ⟨ByteArray.empty, ⟨a0, a1, a2, a3⟩, 0, ByteArray.empty, ByteArray.empty⟩ h
theorem order_true (a0 a1 a2 a3 : Int) (h4 : ok4 a0 a1 a2 a3) (l : List S40) (hl : okL l) : ∃ k, trucelaw17_PayOrder.f k a0 a1 a2 a3 l = some true := by
  refine ⟨1000, ?_⟩
  have e := sw_wl4 a0 a1 a2 a3 h4
  by_cases h60 : l.length ≤ 60
  · rw [trucelaw17_PayOrder.f, few_true l [] h60 (by simp), Option.bind_some, if_pos rfl, trucelaw17_PayOrder.j0]
    by_cases h0 : l.length = 0
    · rw [if_pos (by simp [h0]), awake_true _ (by omega)]
      rfl
    · rw [if_neg (fun h => h0 (by simpa using h))]
      have := order_l0 (H := wl4 a0 a1 a2 a3) rfl hl h60 l.length 0 999 (by omega) (by omega) (fun j hj => by omega) (by omega)
      rw [e] at this
      exact this
  · rw [trucelaw17_PayOrder.f, few_false l [] (fun h => h60 h.1), Option.bind_some, if_neg (by simp), trucelaw17_PayOrder.j0, if_pos rfl, awake_true _ (by omega)]
    rfl
#print axioms order_true
end Go.Proofs.Ytmnphdgghjdkmaa.P
