import Derived.Test.YtodojmgjjcgfpaaPureA
import Derived.Test.YtodojmgjjcgfpaaPtrucelaw22DiskLasts
namespace Go.Proofs.Ytodojmgjjcgfpaa.P
set_option linter.unusedVariables false
open Go.RowKit Go.Proofs.YtodojmgjjcgfpaaW.PrintWords Go.Proofs.YtodojmgjjcgfpaaW.PrintLast Go.Proofs.YtodojmgjjcgfpaaW.PrintMore
theorem lasts_awake (k : Nat) (s : ByteArray) (n keep : Int) (D T : ByteArray) (F : Int) (O : Bool) : trucelaw22_DiskLasts.j0 (k + 1) s n keep true D T F O = some true := by
  simp only [trucelaw22_DiskLasts.j0, if_true]; rfl
theorem pure_DiskLasts (D T : ByteArray) (F : Int) (O : Bool) (s : ByteArray) (n keep : Int) : trucelaw22_DiskLasts.f 2 D T F O s n keep = some true := by
  unfold trucelaw22_DiskLasts.f
  by_cases h1 : (D.size : Int) > 200000
  · rw [if_pos h1]; exact lasts_awake _ _ _ _ _ _ _ _
  rw [if_neg h1]
  by_cases h2 : (s.size : Int) > 200000
  · rw [if_pos h2]; exact lasts_awake _ _ _ _ _ _ _ _
  rw [if_neg h2, fit_eq]
  simp only [Option.bind_some]
  by_cases hf : D.size + T.size ≤ 131072 ∧ -1 ≤ F ∧ F ≤ 131072
  case neg => rw [decide_eq_false hf]; exact lasts_awake _ _ _ _ _ _ _ _
  rw [decide_eq_true hf]
  obtain ⟨hd, hF0, hF1⟩ := hf
  obtain ⟨F1, ha, ha0, ha1⟩ := arm_eq D T F O n hF0 hF1
  obtain ⟨m, F2, O2, e, hw, hm, he, hF20, hF21, hsz⟩ := write_eq D T s F1 O hd (by omega) ha0 ha1
  have hx : (s.extract 0 m).size = m := by rw [ByteArray.size_extract]; omega
  have hTs : (T ++ s.extract 0 m).size = T.size + m := by rw [ByteArray.size_append, hx]
  have hpart := part s m hm
  obtain ⟨b1, b2, O3, e3, hs⟩ : ∃ b1 b2 O3 e3, (disk_Sync.f D (T ++ s.extract 0 m) F2 O2 = some (D ++ b1, b2, F2, O3, e3)) := by
    unfold disk_Sync.f
    cases O2
    · exact ⟨T ++ s.extract 0 m, _, _, _, by rw [if_neg (by simp), if_pos (by omega)]⟩
    · exact ⟨⟨#[]⟩, _, _, _, by rw [if_pos rfl, show D ++ (⟨#[]⟩ : ByteArray) = D from ByteArray.append_empty]⟩
  have hcr : disk_Crash.f D (T ++ s.extract 0 m) F2 O2 keep = some (D ++ (T ++ s.extract 0 m).extract 0 (cutTo keep (T ++ s.extract 0 m).size).toNat, ⟨#[]⟩, -1, false) := by
    unfold disk_Crash.f; rw [if_pos (by constructor <;> omega)]
  have hct := cutTo_le keep (T ++ s.extract 0 m).size
  have hDT : (D ++ T).size = D.size + T.size := ByteArray.size_append
  have b1' : trucelaw22_begins.f (T ++ s.extract 0 m) T = some true := begins_pre rfl
  have b2' : trucelaw22_begins.f (T ++ s) (T ++ s.extract 0 m) = some true := begins_pre (c := s.extract m s.size) (by rw [ByteArray.append_assoc, ← hpart])
  have b3' : trucelaw22_begins.f (D ++ b1) D = some true := begins_pre rfl
  have b4' : trucelaw22_begins.f (D ++ (T ++ s.extract 0 m).extract 0 (cutTo keep (T ++ s.extract 0 m).size).toNat) D = some true := begins_pre rfl
  have hpre : D ++ T ++ s = (D ++ (T ++ s.extract 0 m).extract 0 (cutTo keep (T ++ s.extract 0 m).size).toNat) ++ ((T ++ s.extract 0 m).extract (cutTo keep (T ++ s.extract 0 m).size).toNat (T ++ s.extract 0 m).size ++ s.extract m s.size) := by
    rw [ByteArray.append_assoc, ByteArray.append_assoc, ← ByteArray.append_assoc (a := ByteArray.extract _ _ _), ← part _ _ (by omega), ByteArray.append_assoc, ← hpart]
  have b5' := begins_pre hpre
  have l1 : T.size + s.size ≤ 9223372036854775807 := by omega
  have l2 : D.size + T.size ≤ 9223372036854775807 := by omega
  have l3 : (D ++ T).size + s.size ≤ 9223372036854775807 := by omega
  have hend : trucelaw22_DiskLasts.j1 (0 + 1) s false D T F O (D ++ b1) b2 F2 O3 (D ++ (T ++ s.extract 0 m).extract 0 (cutTo keep (T ++ s.extract 0 m).size).toNat) ⟨#[]⟩ (-1) false = some true := by
    simp only [trucelaw22_DiskLasts.j1, Bool.false_eq_true, if_false, if_true, Option.bind_some, b3', b4', b5', l2, l3, show (⟨#[]⟩ : ByteArray).toList = [] by rw [ByteArray.toList_eq], show trucelaw22_awake.f = some true from rfl]
  show trucelaw22_DiskLasts.j0 (1 + 1) s n keep false D T F O = some true
  simp only [trucelaw22_DiskLasts.j0, Bool.false_eq_true, if_false, if_true, Option.bind_some, ha, hw, hs, hcr, b1', b2', l1]
  by_cases he0 : e = 0
  · rw [if_pos he0]
    have hm' := he he0
    have : (T ++ s.extract 0 m) = T ++ s := by rw [hm', ByteArray.extract_zero_size]
    rw [show ((T ++ s.extract 0 m).toList != (T ++ s).toList) = false by rw [this]; simp]
    exact hend
  · rw [if_neg he0]
    exact hend
end Go.Proofs.Ytodojmgjjcgfpaa.P
