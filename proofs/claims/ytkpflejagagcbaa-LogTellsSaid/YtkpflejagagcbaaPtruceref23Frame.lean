/- A function of the program as a Lean function, and the proof that the code comes to its answers; written by a program of this session, a changed copy of the print of the kit. -/
import Derived.Test.YtkpflejagagcbaaP0
import Derived.Test.YtkpflejagagcbaaPtruceref23head
import Derived.Test.YtkpflejagagcbaaLogH
namespace Go.Proofs.Ytkpflejagagcbaa.P
open Go.RowKit Go.Proofs.YtkpflejagagcbaaW.PrintWords Go.Proofs.YtkpflejagagcbaaW.PrintLast Go.Proofs.YtkpflejagagcbaaW.PrintMore
attribute [local go_sem] max2_int min2_int max_two min_two max_three min_three max_four min_four   -- for this text's walks alone
set_option linter.unusedVariables false
set_option linter.unusedSimpArgs false

/-! ### truceref23_Frame: function 11 -/
def truceref23_Frame.f (a0 : ByteArray) : Option (ByteArray) := if (a0.size : Int) > 65536 then (some (⟨#[]⟩ : ByteArray)) else ((truceref23_head.f (a0.size : Int)).bind fun t111 => (if t111.size + a0.size ≤ 9223372036854775807 then ((truceref05_Sum.f (t111 ++ a0)).bind fun t112 => (if 0 ≤ 4 then (if 4 ≤ (t112.size : Int) then (if t111.size + (t112.extract 0 4).size ≤ 9223372036854775807 then (if (t111 ++ (t112.extract 0 4)).size + a0.size ≤ 9223372036854775807 then (some ((t111 ++ (t112.extract 0 4)) ++ a0)) else (none)) else (none)) else (none)) else (none))) else (none)))
set_option maxHeartbeats 8000000 in
set_option maxRecDepth 100000 in
theorem truceref23_Frame.calls (a0 : ByteArray) (r : ByteArray) (w : World) (h : truceref23_Frame.f a0 = some r) :
    Calls Try.prog 11 #[.string a0] w fun e w' => e = .returned (.string r) ∧ Below w.heap.size w w' := by
  have HB := Aside0.mk (Below.refl w.heap.size w)
  have H : (if (a0.size : Int) > 65536 then (some (⟨#[]⟩ : ByteArray)) else ((truceref23_head.f (a0.size : Int)).bind fun t111 => (if t111.size + a0.size ≤ 9223372036854775807 then ((truceref05_Sum.f (t111 ++ a0)).bind fun t112 => (if 0 ≤ 4 then (if 4 ≤ (t112.size : Int) then (if t111.size + (t112.extract 0 4).size ≤ 9223372036854775807 then (if (t111 ++ (t112.extract 0 4)).size + a0.size ≤ 9223372036854775807 then (some ((t111 ++ (t112.extract 0 4)) ++ a0)) else (none)) else (none)) else (none)) else (none))) else (none)))) = some r := h
  clear h
  by_cases c2 : (a0.size : Int) > 65536
  · rw [if_pos c2] at H
    have c2b0 : decide (65536 < (a0.size : Int)) = true := decide_eq_true c2
    have c2b1 : decide (65536 < a0.size) = true := decide_eq_true (by omega)
    clear c2
    obtain rfl := Option.some.inj H
    go_enter Try.func11, Try.ntmps11
    go_wp2
    go_ret
    exact ⟨by first | rfl | (simp [errW_none, errW_some] <;> rfl) | (simp [*, errW_none, errW_some] <;> rfl), by repeat (first | (with_reducible first | exact HB.out | apply below_alloc | apply pw_below_drewN | apply below_drew1) | exact HB.out)⟩
  · rw [if_neg c2] at H
    have c2b0 : decide (65536 < (a0.size : Int)) = false := decide_eq_false c2
    have c2b1 : decide (65536 < a0.size) = false := decide_eq_false (by omega)
    clear c2
    replace H := Option.bind_eq_some_iff.mp H
    obtain ⟨t111, A30, H⟩ := H
    replace H : (if t111.size + a0.size ≤ 9223372036854775807 then ((truceref05_Sum.f (t111 ++ a0)).bind fun t112 => (if 0 ≤ 4 then (if 4 ≤ (t112.size : Int) then (if t111.size + (t112.extract 0 4).size ≤ 9223372036854775807 then (if (t111 ++ (t112.extract 0 4)).size + a0.size ≤ 9223372036854775807 then (some ((t111 ++ (t112.extract 0 4)) ++ a0)) else (none)) else (none)) else (none)) else (none))) else (none)) = some r := H
    have A3 := Aside0.mk A30
    clear A30
    by_cases c4 : t111.size + a0.size ≤ 9223372036854775807
    · rw [if_pos c4] at H
      have c4b0 := eq_true c4
      have c4b1 : decide (t111.size + a0.size ≤ 9223372036854775807) = true := decide_eq_true c4
      try have c4b2 : (9223372036854775807 < t111.size + a0.size) = False := eq_false (Nat.not_lt.2 c4)
      replace H := Option.bind_eq_some_iff.mp H
      obtain ⟨t112, A50, H⟩ := H
      replace H : (if 0 ≤ 4 then (if 4 ≤ (t112.size : Int) then (if t111.size + (t112.extract 0 4).size ≤ 9223372036854775807 then (if (t111 ++ (t112.extract 0 4)).size + a0.size ≤ 9223372036854775807 then (some ((t111 ++ (t112.extract 0 4)) ++ a0)) else (none)) else (none)) else (none)) else (none)) = some r := H
      have A5 := Aside0.mk A50
      clear A50
      by_cases c6 : 0 ≤ 4
      · rw [if_pos c6] at H
        have c6b0 := eq_true c6
        have c6b1 : decide (0 ≤ 4) = true := decide_eq_true c6
        clear c6
        by_cases c7 : 4 ≤ (t112.size : Int)
        · rw [if_pos c7] at H
          have c7b0 := eq_true c7
          have c7b1 : decide (4 ≤ (t112.size : Int)) = true := decide_eq_true c7
          clear c7
          by_cases c8 : t111.size + (t112.extract 0 4).size ≤ 9223372036854775807
          · rw [if_pos c8] at H
            have c8b0 := eq_true c8
            have c8b1 : decide (t111.size + (t112.extract 0 4).size ≤ 9223372036854775807) = true := decide_eq_true c8
            try have c8b2 : (9223372036854775807 < t111.size + (t112.extract 0 4).size) = False := eq_false (Nat.not_lt.2 c8)
            by_cases c9 : (t111 ++ (t112.extract 0 4)).size + a0.size ≤ 9223372036854775807
            · rw [if_pos c9] at H
              have c9b0 := eq_true c9
              have c9b1 : decide ((t111 ++ (t112.extract 0 4)).size + a0.size ≤ 9223372036854775807) = true := decide_eq_true c9
              try have c9b2 : (9223372036854775807 < (t111 ++ (t112.extract 0 4)).size + a0.size) = False := eq_false (Nat.not_lt.2 c9)
              obtain rfl := Option.some.inj H
              go_enter Try.func11, Try.ntmps11
              go_wp2_with (first | ((with_reducible refine gate_callee (f := 15) rfl ?_); refine goesL_ (some 9) rfl rfl Try.func15 (by kernel_rfl) rfl #[.int .i64 (a0.size : Int)] rfl (by (try simp only [List.map_toArray, List.map_cons, List.map_nil]); first | done | rfl | (simp only [List.length_drop, List.length_take]; rfl)) ?_; (with_reducible refine (truceref23_head.calls (a0.size : Int) t111 _ A3.out).mono ?_); rintro e w10 ⟨rfl, hb⟩; refine ⟨_, rfl, ?_⟩; have n0_ := Aside0.mk (below_step (by repeat (first | (with_reducible first | exact HB.out | apply below_alloc | apply pw_below_drewN | apply below_drew1) | exact HB.out)) hb); clear HB; have HB := n0_; clear n0_; (try clear hb); (try clear hb2); (try clear hk); (try clear hi)) | ((with_reducible refine gate_callee (f := 16) rfl ?_); refine goesL_ (some 14) rfl rfl Try.func16 (by kernel_rfl) rfl #[.string (t111 ++ a0)] rfl (by (try simp only [List.map_toArray, List.map_cons, List.map_nil]); first | done | rfl | (simp only [List.length_drop, List.length_take]; rfl)) ?_; (with_reducible refine (truceref05_Sum.calls (t111 ++ a0) t112 _ A5.out).mono ?_); rintro e w11 ⟨rfl, hb⟩; refine ⟨_, rfl, ?_⟩; have n0_ := Aside0.mk (below_step (by repeat (first | (with_reducible first | exact HB.out | apply below_alloc | apply pw_below_drewN | apply below_drew1) | exact HB.out)) hb); clear HB; have HB := n0_; clear n0_; (try clear hb); (try clear hb2); (try clear hk); (try clear hi)))
              go_ret
              exact ⟨by first | rfl | (simp [errW_none, errW_some] <;> rfl) | (simp [*, errW_none, errW_some] <;> rfl), by repeat (first | (with_reducible first | exact HB.out | apply below_alloc | apply pw_below_drewN | apply below_drew1) | exact HB.out)⟩
            · rw [if_neg c9] at H
              exact absurd H (by simp)
          · rw [if_neg c8] at H
            exact absurd H (by simp)
        · rw [if_neg c7] at H
          exact absurd H (by simp)
      · rw [if_neg c6] at H
        exact absurd H (by simp)
    · rw [if_neg c4] at H
      exact absurd H (by simp)

end Go.Proofs.Ytkpflejagagcbaa.P
