import Derived.Test.YtmnphdgghjdkmaaPureV
import Derived.Test.YtmnphdgghjdkmaaPtruceref17Same
import Derived.Test.YtmnphdgghjdkmaaPtruceref17Numbers
import Derived.Test.YtmnphdgghjdkmaaPtrucelaw17few
import Derived.Test.YtmnphdgghjdkmaaPtrucelaw17awake
namespace Go.Proofs.Ytmnphdgghjdkmaa.P
set_option linter.unusedVariables false
set_option linter.unusedSimpArgs false
open Go.RowKit Go.Proofs.YtmnphdgghjdkmaaW.PrintWords
/-! The same list is the same; the chapter's example. -/
theorem wrap_nat1 (i : Nat) (h : i < 1000000) : wrap64 ((i : Int) + 1) = ((i + 1 : Nat) : Int) := by unfold wrap64; omega
theorem same_l0 (l : List S40) (hl : l.length ≤ 1000) : ∀ (d i k : Nat), l.length - i ≤ d → i ≤ l.length → d < k → truceref17_Same.l0 k l l (i : Int) = some true := by
  intro d
  induction d with
  | zero =>
    intro i k hd hi hk
    obtain ⟨k, rfl⟩ : ∃ j, k = j + 1 := ⟨k - 1, by omega⟩
    rw [truceref17_Same.l0, if_neg (by omega)]
  | succ d ih =>
    intro i k hd hi hk
    obtain ⟨k, rfl⟩ : ∃ j, k = j + 1 := ⟨k - 1, by omega⟩
    rw [truceref17_Same.l0]
    by_cases h : i < l.length
    · rw [if_pos (by omega), if_pos (by omega), if_pos (by omega), if_neg (by simp), wrap_nat1 i (by omega)]
      exact ih (i + 1) k (by omega) (by omega) (by omega)
    · rw [if_neg (by omega)]
theorem same_refl (l : List S40) (hl : l.length ≤ 1000) (k : Nat) (hk : l.length < k) : truceref17_Same.f k l l = some true := by
  rw [truceref17_Same.f, if_pos rfl]
  exact same_l0 l hl l.length 0 k (by omega) (by omega) hk
theorem numbers_l0 (l : List S24) (hl : l.length ≤ 1000) : ∀ (d i k : Nat), l.length - i ≤ d → i ≤ l.length → d < k → truceref17_Numbers.l0 k l l (i : Int) = some true := by
  intro d
  induction d with
  | zero =>
    intro i k hd hi hk
    obtain ⟨k, rfl⟩ : ∃ j, k = j + 1 := ⟨k - 1, by omega⟩
    rw [truceref17_Numbers.l0, if_neg (by omega)]
  | succ d ih =>
    intro i k hd hi hk
    obtain ⟨k, rfl⟩ : ∃ j, k = j + 1 := ⟨k - 1, by omega⟩
    rw [truceref17_Numbers.l0]
    by_cases h : i < l.length
    · rw [if_pos (by omega), if_pos (by omega), if_pos (by omega), if_neg (by simp), wrap_nat1 i (by omega)]
      exact ih (i + 1) k (by omega) (by omega) (by omega)
    · rw [if_neg (by omega)]
theorem numbers_refl (l : List S24) (hl : l.length ≤ 1000) (k : Nat) (hk : l.length < k) : truceref17_Numbers.f k l l = some true := by
  rw [truceref17_Numbers.f, if_pos rfl]
  exact numbers_l0 l hl l.length 0 k (by omega) (by omega) hk
set_option maxRecDepth 100000 in
theorem awake5 : trucelaw17_awake.f 6 = some true := by decide +kernel
theorem awake_true (k : Nat) (hk : 6 ≤ k) : trucelaw17_awake.f k = some true := by
  obtain ⟨j, rfl⟩ := Nat.exists_eq_add_of_le hk
  induction j with
  | zero => exact awake5
  | succ j ih => exact trucelaw17_awake.mono (6 + j) _ (ih (by omega))
theorem few_true (l : List S40) (W : List Int) (h : l.length ≤ 60) (hW : W.length ≤ 100) : trucelaw17_few.f l W = some true := by
  rw [trucelaw17_few.f, if_pos (by omega), decide_eq_true (by omega)]
theorem few_false (l : List S40) (W : List Int) (h : ¬ (l.length ≤ 60 ∧ W.length ≤ 100)) : trucelaw17_few.f l W = some false := by
  rw [trucelaw17_few.f]
  by_cases h1 : l.length ≤ 60
  · rw [if_pos (by omega), decide_eq_false (by omega)]
  · rw [if_neg (by omega)]
end Go.Proofs.Ytmnphdgghjdkmaa.P
