import Derived.Test.YtodojmgjjcgfpaaPureA
import Derived.Test.YtodojmgjjcgfpaaPtrucelaw22DiskDoes
namespace Go.Proofs.Ytodojmgjjcgfpaa.P
set_option linter.unusedVariables false
open Go.RowKit Go.Proofs.YtodojmgjjcgfpaaW.PrintWords Go.Proofs.YtodojmgjjcgfpaaW.PrintLast Go.Proofs.YtodojmgjjcgfpaaW.PrintMore
theorem does_awake (k : Nat) (s : ByteArray) (n : Int) (D T : ByteArray) (F : Int) (O : Bool) : trucelaw22_DiskDoes.j0 (k + 1) s n true D T F O = some true := by
  simp only [trucelaw22_DiskDoes.j0, if_true]; rfl
theorem fit2 (D T : ByteArray) (F : Int) (O : Bool) (hD : D.size ≤ 200000) (hT : T.size ≤ 200000) : disk_Fit.f D T F O = truceref22_Fit.f D T F O := by
  rw [fit_eq]
  unfold disk_Fit.f
  by_cases h1 : (D.size : Int) ≤ 131072
  · rw [if_pos h1, show wrap64 ((D.size : Int) + T.size) = (D.size : Int) + T.size by unfold wrap64; omega]
    by_cases h2 : (D.size : Int) + T.size ≤ 131072
    · rw [if_pos h2]
      by_cases h3 : -1 ≤ F
      · rw [if_pos h3]; congr 1; apply decide_eq_decide.2; omega
      · rw [if_neg h3]; congr 1; symm; apply decide_eq_false; omega
    · rw [if_neg h2]; congr 1; symm; apply decide_eq_false; omega
  · rw [if_neg h1]; congr 1; symm; apply decide_eq_false; omega
theorem write2 (D T s : ByteArray) (F : Int) (O : Bool) : truceref22_Write.f D T F O s = disk_Write.f D T F O s := by
  unfold truceref22_Write.f disk_Write.f
  split
  · split
    · rfl
    · split
      · rfl
      · split
        · rfl
        · split
          · rename_i h1 h2
            have hx : (s.extract 0 F.toNat).size = F.toNat := by rw [ByteArray.size_extract]; omega
            rw [hx]; congr 4; omega
          · rfl
  · rfl
theorem arm2 (D T : ByteArray) (F : Int) (O : Bool) (n : Int) : truceref22_Arm.f D T F O n = disk_Arm.f D T F O n := by
  unfold truceref22_Arm.f disk_Arm.f
  have : mn (mx n (-1)) 131072 = mx (-1) (mn n 131072) := by unfold mx mn; (repeat' split) <;> omega
  rw [this]
theorem trim2 (D T : ByteArray) (F : Int) (O : Bool) (n : Int) : truceref22_Trim.f D T F O n = disk_Trim.f D T F O n ∧ ∃ r, disk_Trim.f D T F O n = some r := by
  have e : mn (mx n 0) (D.size : Int) = mx 0 (mn n (D.size : Int)) := by unfold mx mn; (repeat' split) <;> omega
  have b : 0 ≤ mx 0 (mn n (D.size : Int)) ∧ mx 0 (mn n (D.size : Int)) ≤ D.size := by unfold mx mn; constructor <;> (repeat' split) <;> omega
  unfold truceref22_Trim.f disk_Trim.f
  rw [e]
  refine ⟨rfl, ?_⟩
  split
  · exact ⟨_, rfl⟩
  · rw [if_pos b.1, if_pos b.2]; exact ⟨_, rfl⟩
theorem pure_DiskDoes (D T : ByteArray) (F : Int) (O : Bool) (s : ByteArray) (n : Int) : trucelaw22_DiskDoes.f 2 D T F O s n = some true := by
  unfold trucelaw22_DiskDoes.f
  by_cases h1 : (D.size : Int) > 200000
  · rw [if_pos h1]; exact does_awake _ _ _ _ _ _ _
  rw [if_neg h1]
  by_cases h2 : (T.size : Int) > 200000
  · rw [if_pos h2]; exact does_awake _ _ _ _ _ _ _
  rw [if_neg h2]
  by_cases h3 : (s.size : Int) > 200000
  · rw [decide_eq_true h3]; exact does_awake _ _ _ _ _ _ _
  rw [decide_eq_false h3]
  have hfit := fit_eq D T F O
  have hfit2 := fit2 D T F O (by omega) (by omega)
  have hj : trucelaw22_DiskDoes.j1 (0 + 1) s n false D T F O = some true := by
    by_cases hf : D.size + T.size ≤ 131072 ∧ -1 ≤ F ∧ F ≤ 131072
    case neg =>
      rw [decide_eq_false hf] at hfit
      simp only [trucelaw22_DiskDoes.j1, Bool.false_eq_true, if_false, hfit, Option.bind_some, show trucelaw22_awake.f = some true from rfl]
    rw [decide_eq_true hf] at hfit
    obtain ⟨hd, hF0, hF1⟩ := hf
    obtain ⟨m, F2, O2, e, hw, hm, he, hF20, hF21, hsz⟩ := write_eq D T s F O hd (by omega) hF0 hF1
    have hw2 := (write2 D T s F O).trans hw
    have hx : (s.extract 0 m).size = m := by rw [ByteArray.size_extract]; omega
    have hTs : (T ++ s.extract 0 m).size = T.size + m := by rw [ByteArray.size_append, hx]
    have hfa : truceref22_Fit.f D (T ++ s.extract 0 m) F2 O2 = some true := by
      rw [fit_eq, decide_eq_true]
      exact ⟨by omega, by omega, by omega⟩
    obtain ⟨b1, b2, b3, b4, b5, hs, hfb⟩ : ∃ b1 b2 b3 b4 b5, disk_Sync.f D T F O = some (b1, b2, b3, b4, b5) ∧ truceref22_Fit.f b1 b2 b3 b4 = some true := by
      unfold disk_Sync.f
      cases O
      · refine ⟨_, _, _, _, _, by rw [if_neg (by simp), if_pos (by omega)], ?_⟩
        rw [fit_eq, decide_eq_true]
        refine ⟨?_, by omega, by omega⟩
        rw [ByteArray.size_append]
        show D.size + T.size + 0 ≤ 131072
        omega
      · exact ⟨_, _, _, _, _, by rw [if_pos rfl], by rw [fit_eq, decide_eq_true]; exact ⟨hd, hF0, hF1⟩⟩
    have hs2 : truceref22_Sync.f D T F O = some (b1, b2, b3, b4, b5) := hs
    obtain ⟨F1, ha, _, _⟩ := arm_eq D T F O n hF0 hF1
    have ha2 := (arm2 D T F O n).trans ha
    have hc : disk_Crash.f D T F O n = some (D ++ T.extract 0 (cutTo n T.size).toNat, ⟨#[]⟩, -1, false) := by unfold disk_Crash.f; rw [if_pos (by constructor <;> omega)]
    have hc2 : truceref22_Crash.f D T F O n = some (D ++ T.extract 0 (cutTo n T.size).toNat, ⟨#[]⟩, -1, false) := by unfold truceref22_Crash.f; rw [if_pos (by constructor <;> omega)]
    obtain ⟨ht2, ⟨t1, t2, t3, t4⟩, ht⟩ := trim2 D T F O n
    rw [ht] at ht2
    simp only [trucelaw22_DiskDoes.j1, Bool.false_eq_true, if_false, if_true, hfit, Option.bind_some, hw, hw2, hs, hs2, ha, ha2, hc, hc2, ht, ht2, hfa, hfb, BEq.rfl, Bool.and_self, show trucelaw22_awake.f = some true from rfl]
  have hn : disk_New.f = some (⟨#[]⟩, ⟨#[]⟩, -1, false) := rfl
  have hn2 : truceref22_New.f = some (⟨#[]⟩, ⟨#[]⟩, -1, false) := rfl
  show trucelaw22_DiskDoes.j0 (1 + 1) s n false D T F O = some true
  simp only [trucelaw22_DiskDoes.j0, Bool.false_eq_true, if_false, hfit2, hfit, Option.bind_some, bne_self_eq_false, hn, hn2, BEq.rfl, Bool.not_true, Bool.or_self]
  exact hj
end Go.Proofs.Ytodojmgjjcgfpaa.P
