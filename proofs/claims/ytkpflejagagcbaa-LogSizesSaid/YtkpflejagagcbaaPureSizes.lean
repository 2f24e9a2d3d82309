import Derived.Test.YtkpflejagagcbaaPureL
import Derived.Test.YtkpflejagagcbaaPtrucelaw23LogSizes
namespace Go.Proofs.Ytkpflejagagcbaa.P
set_option linter.unusedVariables false
set_option linter.unusedSimpArgs false
open Go.RowKit Go.Proofs.YtkpflejagagcbaaW.PrintWords
/-! A record has eight bytes more than its text. -/
theorem no_rec_nil : ¬ recOk ⟨#[]⟩ := fun h => by have := h.1; exact absurd this (by decide)
theorem sizes_true (s : ByteArray) : trucelaw23_LogSizes.f s = some true := by
  rw [trucelaw23_LogSizes.f]
  by_cases h : (s.size : Int) > 70000
  · rw [if_pos h]; rfl
  · rw [if_neg h, frame_val s (by omega), Option.bind_some]
    by_cases h2 : (s.size : Int) > 65536
    · have e : frameB s = ⟨#[]⟩ := by rw [frameB, if_pos (by omega)]
      rw [if_pos h2, if_pos (by rw [e, toList_D])]; rfl
    · have hs : s.size ≤ 65536 := by omega
      have hz := frame_size hs
      have a := all_frame hs ⟨#[]⟩
      have p := frame_parts hs ⟨#[]⟩
      rw [app_nil, (allT_no no_rec_nil).1, (allT_no no_rec_nil).2] at a
      rw [app_nil] at p
      have e8 : (frameB s).extract 8 (frameB s).size = s := by
        have := p.2.2.2.1
        rwa [show 8 + s.size = (frameB s).size by omega] at this
      have hw : wrap64 ((s.size : Int) + 8) = (s.size : Int) + 8 := by unfold wrap64; omega
      rw [if_neg h2, frames_val _ (by omega), Option.bind_some, a.1, a.2, hw, if_pos (by omega), if_pos (by omega), e8, if_pos rfl]
      dsimp only
      rw [if_pos (by simp), if_pos (by simp), if_pos (by rfl), if_pos (by simp)]
      rfl
#print axioms sizes_true
end Go.Proofs.Ytkpflejagagcbaa.P
