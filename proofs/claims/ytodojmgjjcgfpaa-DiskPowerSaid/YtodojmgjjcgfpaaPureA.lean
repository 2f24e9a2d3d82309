import Derived.Test.YtodojmgjjcgfpaaGWrite
import Derived.Test.YtodojmgjjcgfpaaGRef
import Derived.Test.YtodojmgjjcgfpaaGAwake
import Derived.Test.YtodojmgjjcgfpaaPdiskArm
import Derived.Test.YtodojmgjjcgfpaaPdiskSync
import Derived.Test.YtodojmgjjcgfpaaPtrucelaw22begins
import Derived.Test.YtodojmgjjcgfpaaPtruceref22Fit
namespace Go.Proofs.Ytodojmgjjcgfpaa.P
set_option linter.unusedVariables false
open Go.RowKit Go.Proofs.YtodojmgjjcgfpaaW.PrintWords Go.Proofs.YtodojmgjjcgfpaaW.PrintLast Go.Proofs.YtodojmgjjcgfpaaW.PrintMore
theorem begins_pre {a b c : ByteArray} (h : a = b ++ c) : trucelaw22_begins.f a b = some true := by
  subst h
  unfold trucelaw22_begins.f
  have hs : (b ++ c).size = b.size + c.size := ByteArray.size_append
  rw [if_pos (by omega), if_pos (by omega), if_pos (by omega)]
  have e : (((b.size : Int) : Int).toNat) = b.size := by omega
  rw [e, ByteArray.extract_append_eq_left rfl]
  simp
theorem part (s : ByteArray) (m : Nat) (hm : m ≤ s.size) : s = s.extract 0 m ++ s.extract m s.size := by
  rw [ByteArray.extract_append_extract, Nat.zero_min, Nat.max_eq_right hm, ByteArray.extract_zero_size]
theorem fit_eq (D T : ByteArray) (F : Int) (O : Bool) : truceref22_Fit.f D T F O = some (decide (D.size + T.size ≤ 131072 ∧ -1 ≤ F ∧ F ≤ 131072)) := by
  unfold truceref22_Fit.f
  by_cases h1 : (D.size : Int) ≤ 131072
  · rw [if_pos h1, show wrap64 (131072 - (D.size : Int)) = 131072 - (D.size : Int) by unfold wrap64; omega]
    by_cases h2 : (T.size : Int) ≤ 131072 - (D.size : Int)
    · rw [if_pos h2]
      by_cases h3 : F ≥ -1
      · rw [if_pos h3]; congr 1; apply decide_eq_decide.2; omega
      · rw [if_neg h3]; congr 1; symm; apply decide_eq_false; omega
    · rw [if_neg h2]; congr 1; symm; apply decide_eq_false; omega
  · rw [if_neg h1]; congr 1; symm; apply decide_eq_false; omega
theorem mx_mn (n : Int) : -1 ≤ mx (-1) (mn n 131072) ∧ mx (-1) (mn n 131072) ≤ 131072 := by
  unfold mx mn; constructor <;> (repeat' split) <;> omega
theorem arm_eq (D T : ByteArray) (F : Int) (O : Bool) (n : Int) (h0 : -1 ≤ F) (h1 : F ≤ 131072) : ∃ F', disk_Arm.f D T F O n = some (D, T, F', O) ∧ -1 ≤ F' ∧ F' ≤ 131072 := by
  unfold disk_Arm.f
  cases O
  · exact ⟨_, by simp, mx_mn n⟩
  · exact ⟨F, by simp, h0, h1⟩
/-- What a write leaves: what lasts stays, behind the tail a beginning of the text, all of it if nothing is wrong. -/
theorem write_eq (D T s : ByteArray) (F : Int) (O : Bool) (hd : D.size + T.size ≤ 131072) (hs : s.size ≤ 200000) (h0 : -1 ≤ F) (h1 : F ≤ 131072) :
    ∃ (m : Nat) (F' : Int) (O' : Bool) (e : Int), disk_Write.f D T F O s = some (D, T ++ s.extract 0 m, F', O', e) ∧ m ≤ s.size ∧ (e = 0 → m = s.size) ∧ -1 ≤ F' ∧ F' ≤ 131072 ∧ D.size + T.size + m ≤ 131072 := by
  unfold disk_Write.f
  rw [if_pos (by refine ⟨?_, ?_, ?_, ?_, ?_⟩ <;> omega)]
  have hz : T ++ s.extract 0 0 = T := by simp
  have hall : T ++ s.extract 0 s.size = T ++ s := by rw [ByteArray.extract_zero_size]
  cases O with
  | true => exact ⟨0, F, true, 26, by rw [if_pos rfl, hz], by omega, by omega, h0, h1, by omega⟩
  | false =>
    rw [if_neg (by simp)]
    by_cases h2 : 131072 < D.size + T.size + s.size
    · rw [if_pos h2]; exact ⟨0, F, false, 3, by rw [hz], by omega, by omega, h0, h1, by omega⟩
    · rw [if_neg h2]
      by_cases h3 : F < 0
      · rw [if_pos h3]; exact ⟨s.size, F, false, 0, by rw [hall], by omega, fun _ => rfl, h0, h1, by omega⟩
      · rw [if_neg h3]
        by_cases h4 : F < s.size
        · rw [if_pos h4]
          have hx : (s.extract 0 F.toNat).size = F.toNat := by rw [ByteArray.size_extract]; omega
          exact ⟨F.toNat, _, true, 26, rfl, by omega, by omega, by rw [hx]; omega, by rw [hx]; omega, by omega⟩
        · rw [if_neg h4]; exact ⟨s.size, _, false, 0, by rw [hall], by omega, fun _ => rfl, by omega, by omega, by omega⟩
end Go.Proofs.Ytodojmgjjcgfpaa.P
