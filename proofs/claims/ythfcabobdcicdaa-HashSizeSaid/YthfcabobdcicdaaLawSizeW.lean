import Derived.Test.YthfcabobdcicdaaGAwake
import Derived.Laws.IdiomStrings
import Derived.Outline
namespace Go.Proofs.Ythfcabobdcicdaa.P
set_option linter.unusedVariables false
open Go.RowKit Go.Proofs.YthfcabobdcicdaaW.PrintWords
/-- A text's bytes are laid and read back. -/
theorem trip (s : ByteArray) (w : World) : ∃ (g cap : Nat) (W : World), (convert 9 30 (.string s)).run Try.prog w = .ok (.slice (some ⟨g, 0, none⟩) s.size cap) W ∧ (convert 30 9 (.slice (some ⟨g, 0, none⟩) s.size cap)).run Try.prog W = .ok (.string s) W ∧ Below w.heap.size w W := by
  refine ⟨_, _, _, run_bytes_of_string w 9 30 5 s Try.underlying9 Try.underlying30 Try.underlying5, ?_, below_alloc (below_drew1 (Below.refl _ _)) _⟩
  have hl : s.data.toList.length = s.size := by rw [Array.length_toList]; rfl
  have h := run_convert_bytes_back (P := Try.prog) (w.drew.alloc (.cells (bytesRow s (grownCap w s.size 0 5)) 5 ((bytesRow s (grownCap w s.size 0 5)).size, (bytesRow s (grownCap w s.size 0 5)).size + 1))) 30 9 5 ⟨w.heap.size, 0, none⟩ (grownCap w s.size 0 5) s.data.toList Try.underlying30 Try.underlying5 Try.underlying9 (fun j hj => by
    have hp : (⟨w.heap.size, 0, none⟩ : Addr).add j = ⟨w.heap.size, j, none⟩ := by unfold Addr.add; split <;> simp_all
    rw [hp]
    have := World.cell?_alloc_mark w.drew (bytesRow s (grownCap w s.size 0 5)) 5 ((bytesRow s (grownCap w s.size 0 5)).size, (bytesRow s (grownCap w s.size 0 5)).size + 1) j
    refine this.trans ?_
    have hj' : j < s.data.size := by simpa using hj
    rw [bytesRow, Array.getElem?_append_left (by simpa using hj')]
    rw [Array.getElem?_map, Array.getElem?_eq_getElem hj']
    rfl)
  rw [hl] at h
  exact h
set_option maxHeartbeats 2000000 in
theorem size_any (s : ByteArray) (hsz : s.size ≤ 140737488351232) (w : World) : Calls Try.prog 6 #[.string s] w fun e w' => e = .returned (.bool true) ∧ Below w.heap.size w w' := by
  by_cases hs : s.size ≤ 100000
  · have h1 := hsum_size s
    have c1 := sum_any s hs
    generalize hsum s = x at *
    have H := Aside0.mk c1
    clear c1
    go_enter Try.func6, Try.ntmps6
    go_wp2_with fail
    refine (H.out _).mono ?_
    rintro e w1 ⟨rfl, hb⟩
    have HB := Aside0.mk hb
    clear hb
    go_wp2_with fail
    obtain ⟨g, cap, W2, hc1, hc2, hbW⟩ := trip s w1
    rw [hc1]
    simp only [Result.andThen]
    rw [Oper.upon_value]
    have HB2 := Aside0.mk (below_step HB.out hbW)
    clear hc1 hbW HB
    go_wp2_with fail
    refine (H.out _).mono ?_
    rintro e w3 ⟨rfl, hb⟩
    have HB3 := Aside0.mk (below_step HB2.out hb)
    clear hb HB2 hc2
    go_wp2_with fail
    refine (awake_any _).mono ?_
    rintro e w4 ⟨rfl, hb⟩
    have HB4 := Aside0.mk (below_step HB3.out hb)
    clear hb HB3
    go_wp2
    exact bodyPost_ret (v := .bool true) (by simp [results, Try.results6, go_sem]) rfl ⟨rfl, HB4.out⟩
  · go_enter Try.func6, Try.ntmps6
    go_wp2_with fail
    refine (awake_any _).mono ?_
    rintro e w1 ⟨rfl, hb⟩
    go_wp2
    exact bodyPost_ret (v := .bool true) (by simp [results, Try.results6, go_sem]) rfl ⟨rfl, hb⟩
end Go.Proofs.Ythfcabobdcicdaa.P
