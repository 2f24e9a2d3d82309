import Derived.Test.YthfcabobdcicdaaGAwake
import Derived.Test.YthfcabobdcicdaaGRSum
namespace Go.Proofs.Ythfcabobdcicdaa.P
set_option linter.unusedVariables false
open Go.RowKit Go.Proofs.YthfcabobdcicdaaW.PrintWords
set_option maxHeartbeats 2000000 in
theorem sums_any (s : ByteArray) (hsz : s.size ≤ 140737488351232) (w : World) : Calls Try.prog 4 #[.string s] w fun e w' => e = .returned (.bool true) ∧ Below w.heap.size w w' := by
  by_cases hs : s.size ≤ 100000
  · have c1 := sum_any s hs
    have c2 := rsum_any s hs
    generalize hsum s = x at *
    have H := Aside0.mk c1
    have H2 := Aside0.mk c2
    clear c1 c2
    go_enter Try.func4, Try.ntmps4
    go_wp2_with fail
    refine (H.out _).mono ?_
    rintro e w1 ⟨rfl, hb⟩
    have HB := Aside0.mk hb
    clear hb
    go_wp2_with fail
    refine (H2.out _).mono ?_
    rintro e w3 ⟨rfl, hb⟩
    have HB3 := Aside0.mk (below_step HB.out hb)
    clear hb HB
    go_wp2_with fail
    refine (awake_any _).mono ?_
    rintro e w4 ⟨rfl, hb⟩
    have HB4 := Aside0.mk (below_step HB3.out hb)
    clear hb HB3
    go_wp2
    exact bodyPost_ret (v := .bool true) (by simp [results, Try.results4, go_sem]) rfl ⟨rfl, HB4.out⟩
  · go_enter Try.func4, Try.ntmps4
    go_wp2_with fail
    refine (awake_any _).mono ?_
    rintro e w1 ⟨rfl, hb⟩
    go_wp2
    exact bodyPost_ret (v := .bool true) (by simp [results, Try.results4, go_sem]) rfl ⟨rfl, hb⟩
#print axioms sums_any
end Go.Proofs.Ythfcabobdcicdaa.P
