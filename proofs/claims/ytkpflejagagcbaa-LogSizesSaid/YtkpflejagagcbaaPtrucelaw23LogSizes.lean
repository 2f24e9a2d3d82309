/- A function of the program as a Lean function, and the proof that the code comes to its answers; written by a program of this session, a changed copy of the print of the kit. -/
import Derived.Test.YtkpflejagagcbaaP0
import Derived.Test.YtkpflejagagcbaaPlogFrame
import Derived.Test.YtkpflejagagcbaaAwakeG
import Derived.Test.YtkpflejagagcbaaLogG
namespace Go.Proofs.Ytkpflejagagcbaa.P
open Go.RowKit Go.Proofs.YtkpflejagagcbaaW.PrintWords Go.Proofs.YtkpflejagagcbaaW.PrintLast Go.Proofs.YtkpflejagagcbaaW.PrintMore
attribute [local go_sem] max2_int min2_int max_two min_two max_three min_three max_four min_four   -- for this text's walks alone
set_option linter.unusedVariables false
set_option linter.unusedSimpArgs false

/-! ### trucelaw23_LogSizes: function 6 -/
def trucelaw23_LogSizes.f (a0 : ByteArray) : Option (Bool) := if (a0.size : Int) > 70000 then ((trucelaw23_awake.f).bind fun t172 => (some t172)) else ((log_Frame.f a0).bind fun t173 => (if (a0.size : Int) > 65536 then (if t173.toList = ([] : List UInt8) then ((trucelaw23_awake.f).bind fun t174 => (some t174)) else (some false)) else ((log_Frames.f t173).bind fun bt175 => (if (t173.size : Int) = (wrap64 ((a0.size : Int) + 8)) then (if 8 ≤ (t173.size : Int) then (if (t173.extract 8 t173.size).toList = a0.toList then (if (bt175.1.length : Int) = 1 then (if 0 < (bt175.1.length : Int) then (if (rdOf ByteArray.empty bt175.1 0).toList = a0.toList then (if bt175.2 = (t173.size : Int) then ((trucelaw23_awake.f).bind fun t180 => (some t180)) else (some false)) else (some false)) else (none)) else (some false)) else (some false)) else (none)) else (some false)))))
set_option maxHeartbeats 8000000 in
set_option maxRecDepth 100000 in
theorem trucelaw23_LogSizes.callsT (a0 : ByteArray) (r : Bool) (w : World) (hr_ : Aside0 (r = true)) (h : trucelaw23_LogSizes.f a0 = some r) :
    Calls Try.prog 6 #[.string a0] w fun e w' => e = .returned (.bool r) ∧ Below w.heap.size w w' := by
  have HB := Aside0.mk (Below.refl w.heap.size w)
  have H : (if (a0.size : Int) > 70000 then ((trucelaw23_awake.f).bind fun t172 => (some t172)) else ((log_Frame.f a0).bind fun t173 => (if (a0.size : Int) > 65536 then (if t173.toList = ([] : List UInt8) then ((trucelaw23_awake.f).bind fun t174 => (some t174)) else (some false)) else ((log_Frames.f t173).bind fun bt175 => (if (t173.size : Int) = (wrap64 ((a0.size : Int) + 8)) then (if 8 ≤ (t173.size : Int) then (if (t173.extract 8 t173.size).toList = a0.toList then (if (bt175.1.length : Int) = 1 then (if 0 < (bt175.1.length : Int) then (if (rdOf ByteArray.empty bt175.1 0).toList = a0.toList then (if bt175.2 = (t173.size : Int) then ((trucelaw23_awake.f).bind fun t180 => (some t180)) else (some false)) else (some false)) else (none)) else (some false)) else (some false)) else (none)) else (some false)))))) = some r := h
  clear h
  by_cases c2 : (a0.size : Int) > 70000
  · rw [if_pos c2] at H
    have c2b0 : decide (70000 < (a0.size : Int)) = true := decide_eq_true c2
    have c2b1 : decide (70000 < a0.size) = true := decide_eq_true (by omega)
    clear c2
    replace H := Option.bind_eq_some_iff.mp H
    obtain ⟨t172, A30, H⟩ := H
    replace H : (some t172) = some r := H
    have A3 := Aside0.mk A30
    clear A30
    obtain rfl := Option.some.inj H
    go_enter Try.func6, Try.ntmps6
    go_wp2_with (first | ((with_reducible refine gate_callee (f := 7) rfl ?_); refine goesL_ (some 9) rfl rfl Try.func7 (by kernel_rfl) rfl #[] rfl (by (try simp only [List.map_toArray, List.map_cons, List.map_nil]); first | done | rfl | (simp only [List.length_drop, List.length_take]; rfl)) ?_; (with_reducible refine (trucelaw23_awake.calls  t172 _ A3.out).mono ?_); rintro e w4 ⟨rfl, hb⟩; refine ⟨_, rfl, ?_⟩; have n0_ := Aside0.mk (below_step (by repeat (first | (with_reducible first | exact HB.out | apply below_alloc | apply pw_below_drewN | apply below_drew1) | exact HB.out)) hb); clear HB; have HB := n0_; clear n0_; (try clear hb); (try clear hb2); (try clear hk); (try clear hi)))
    go_ret
    exact ⟨by first | rfl | (simp [errW_none, errW_some] <;> rfl) | (simp [*, errW_none, errW_some] <;> rfl), by repeat (first | (with_reducible first | exact HB.out | apply below_alloc | apply pw_below_drewN | apply below_drew1) | exact HB.out)⟩
  · rw [if_neg c2] at H
    have c2b0 : decide (70000 < (a0.size : Int)) = false := decide_eq_false c2
    have c2b1 : decide (70000 < a0.size) = false := decide_eq_false (by omega)
    clear c2
    replace H := Option.bind_eq_some_iff.mp H
    obtain ⟨t173, A50, H⟩ := H
    replace H : (if (a0.size : Int) > 65536 then (if t173.toList = ([] : List UInt8) then ((trucelaw23_awake.f).bind fun t174 => (some t174)) else (some false)) else ((log_Frames.f t173).bind fun bt175 => (if (t173.size : Int) = (wrap64 ((a0.size : Int) + 8)) then (if 8 ≤ (t173.size : Int) then (if (t173.extract 8 t173.size).toList = a0.toList then (if (bt175.1.length : Int) = 1 then (if 0 < (bt175.1.length : Int) then (if (rdOf ByteArray.empty bt175.1 0).toList = a0.toList then (if bt175.2 = (t173.size : Int) then ((trucelaw23_awake.f).bind fun t180 => (some t180)) else (some false)) else (some false)) else (none)) else (some false)) else (some false)) else (none)) else (some false)))) = some r := H
    have A5 := Aside0.mk A50
    clear A50
    by_cases c6 : (a0.size : Int) > 65536
    · rw [if_pos c6] at H
      have c6b0 : decide (65536 < (a0.size : Int)) = true := decide_eq_true c6
      have c6b1 : decide (65536 < a0.size) = true := decide_eq_true (by omega)
      clear c6
      by_cases c7 : t173.toList = ([] : List UInt8)
      · rw [if_pos c7] at H
        have c7b0 : (t173.toList == ([] : List UInt8)) = true := beq_iff_eq.mpr c7
        have c7b1 : (t173.toList != ([] : List UInt8)) = false := bne_eq_false_iff_eq.mpr c7
        clear c7
        replace H := Option.bind_eq_some_iff.mp H
        obtain ⟨t174, A80, H⟩ := H
        replace H : (some t174) = some r := H
        have A8 := Aside0.mk A80
        clear A80
        obtain rfl := Option.some.inj H
        go_enter Try.func6, Try.ntmps6
        go_wp2_with (first | ((with_reducible refine gate_callee (f := 10) rfl ?_); refine goesL_ (some 11) rfl rfl Try.func10 (by kernel_rfl) rfl #[.string a0] rfl (by (try simp only [List.map_toArray, List.map_cons, List.map_nil]); first | done | rfl | (simp only [List.length_drop, List.length_take]; rfl)) ?_; (with_reducible refine (log_Frame.calls a0 t173 _ A5.out).mono ?_); rintro e w9 ⟨rfl, hb⟩; refine ⟨_, rfl, ?_⟩; have n0_ := Aside0.mk (below_step (by repeat (first | (with_reducible first | exact HB.out | apply below_alloc | apply pw_below_drewN | apply below_drew1) | exact HB.out)) hb); clear HB; have HB := n0_; clear n0_; (try clear hb); (try clear hb2); (try clear hk); (try clear hi)) | (go_at_call 7; (with_reducible refine (trucelaw23_awake.calls  t174 _ A8.out).mono ?_); rintro e w10 ⟨rfl, hb⟩; have n0_ := Aside0.mk (below_step (by repeat (first | (with_reducible first | exact HB.out | apply below_alloc | apply pw_below_drewN | apply below_drew1) | exact HB.out)) hb); clear HB; have HB := n0_; clear n0_; (try clear hb); (try clear hb2); (try clear hk); (try clear hi)))
        go_ret
        exact ⟨by first | rfl | (simp [errW_none, errW_some] <;> rfl) | (simp [*, errW_none, errW_some] <;> rfl), by repeat (first | (with_reducible first | exact HB.out | apply below_alloc | apply pw_below_drewN | apply below_drew1) | exact HB.out)⟩
      · rw [if_neg c7] at H
        have c7b0 : (t173.toList == ([] : List UInt8)) = false := beq_eq_false_iff_ne.mpr c7
        have c7b1 : (t173.toList != ([] : List UInt8)) = true := bne_iff_ne.mpr c7
        exact absurd (hr_.out.symm.trans (Option.some.inj H).symm) (by simp)
    · rw [if_neg c6] at H
      have c6b0 : decide (65536 < (a0.size : Int)) = false := decide_eq_false c6
      have c6b1 : decide (65536 < a0.size) = false := decide_eq_false (by omega)
      clear c6
      replace H := Option.bind_eq_some_iff.mp H
      obtain ⟨⟨t175, t176⟩, A110, H⟩ := H
      replace H : (if (t173.size : Int) = (wrap64 ((a0.size : Int) + 8)) then (if 8 ≤ (t173.size : Int) then (if (t173.extract 8 t173.size).toList = a0.toList then (if (t175.length : Int) = 1 then (if 0 < (t175.length : Int) then (if (rdOf ByteArray.empty t175 0).toList = a0.toList then (if t176 = (t173.size : Int) then ((trucelaw23_awake.f).bind fun t180 => (some t180)) else (some false)) else (some false)) else (none)) else (some false)) else (some false)) else (none)) else (some false)) = some r := H
      have A11 := Aside0.mk A110
      clear A110
      by_cases c12 : (t173.size : Int) = (wrap64 ((a0.size : Int) + 8))
      · rw [if_pos c12] at H
        have c12b0 : ((t173.size : Int) == (wrap64 ((a0.size : Int) + 8))) = true := beq_iff_eq.mpr c12
        have c12b1 : ((t173.size : Int) != (wrap64 ((a0.size : Int) + 8))) = false := bne_eq_false_iff_eq.mpr c12
        clear c12
        by_cases c13 : 8 ≤ (t173.size : Int)
        · rw [if_pos c13] at H
          have c13b0 := eq_true c13
          have c13b1 : decide (8 ≤ (t173.size : Int)) = true := decide_eq_true c13
          clear c13
          by_cases c14 : (t173.extract 8 t173.size).toList = a0.toList
          · rw [if_pos c14] at H
            have c14b0 : ((t173.extract 8 t173.size).toList == a0.toList) = true := beq_iff_eq.mpr c14
            have c14b1 : ((t173.extract 8 t173.size).toList != a0.toList) = false := bne_eq_false_iff_eq.mpr c14
            clear c14
            by_cases c15 : (t175.length : Int) = 1
            · rw [if_pos c15] at H
              have c15b0 : ((t175.length : Int) == 1) = true := beq_iff_eq.mpr c15
              have c15b1 : ((t175.length : Int) != 1) = false := bne_eq_false_iff_eq.mpr c15
              clear c15
              by_cases c16 : 0 < (t175.length : Int)
              · rw [if_pos c16] at H
                have c16b0 : decide (0 < (t175.length : Int)) = true := decide_eq_true c16
                have c16b1 : decide (0 < t175.length) = true := decide_eq_true (by omega)
                clear c16
                by_cases c17 : (rdOf ByteArray.empty t175 0).toList = a0.toList
                · rw [if_pos c17] at H
                  have c17b0 : ((rdOf ByteArray.empty t175 0).toList == a0.toList) = true := beq_iff_eq.mpr c17
                  have c17b1 : ((rdOf ByteArray.empty t175 0).toList != a0.toList) = false := bne_eq_false_iff_eq.mpr c17
                  clear c17
                  by_cases c18 : t176 = (t173.size : Int)
                  · rw [if_pos c18] at H
                    have c18b0 : (t176 == (t173.size : Int)) = true := beq_iff_eq.mpr c18
                    have c18b1 : (t176 != (t173.size : Int)) = false := bne_eq_false_iff_eq.mpr c18
                    clear c18
                    replace H := Option.bind_eq_some_iff.mp H
                    obtain ⟨t180, A190, H⟩ := H
                    replace H : (some t180) = some r := H
                    have A19 := Aside0.mk A190
                    clear A190
                    obtain rfl := Option.some.inj H
                    go_enter Try.func6, Try.ntmps6
                    go_wp2_with (first | ((with_reducible refine gate_callee (f := 10) rfl ?_); refine goesL_ (some 11) rfl rfl Try.func10 (by kernel_rfl) rfl #[.string a0] rfl (by (try simp only [List.map_toArray, List.map_cons, List.map_nil]); first | done | rfl | (simp only [List.length_drop, List.length_take]; rfl)) ?_; (with_reducible refine (log_Frame.calls a0 t173 _ A5.out).mono ?_); rintro e w20 ⟨rfl, hb⟩; refine ⟨_, rfl, ?_⟩; have n0_ := Aside0.mk (below_step (by repeat (first | (with_reducible first | exact HB.out | apply below_alloc | apply pw_below_drewN | apply below_drew1) | exact HB.out)) hb); clear HB; have HB := n0_; clear n0_; (try clear hb); (try clear hb2); (try clear hk); (try clear hi)) | ((with_reducible refine gate_callee (f := 8) rfl ?_); refine goesL_ (some 22) rfl rfl Try.func8 (by kernel_rfl) rfl #[.string t173] rfl (by (try simp only [List.map_toArray, List.map_cons, List.map_nil]); first | done | rfl | (simp only [List.length_drop, List.length_take]; rfl)) ?_; (with_reducible refine (log_Frames.calls t173 t175 t176 _ A11.out).mono ?_); rintro e w21 ⟨v177, rfl, ho0, hb⟩; refine ⟨_, rfl, ?_⟩; have n0_ := Aside0.mk (Kd.R_lower ho0 (below_size (by repeat (first | (with_reducible first | exact HB.out | apply below_alloc | apply pw_below_drewN | apply below_drew1) | exact HB.out)))); have n1_ := Aside0.mk (below_step (by repeat (first | (with_reducible first | exact HB.out | apply below_alloc | apply pw_below_drewN | apply below_drew1) | exact HB.out)) hb); clear HB; have HO178 := n0_; have HB := n1_; clear n0_ n1_; (try clear hb); (try clear hb2); (try clear hk); (try clear hi); (try clear ho0); obtain ⟨Ao22, co22, eo22⟩ := Kd.R_slice HO178.out; subst eo22; have p179 : 0 ≤ (0 : Int) := (by omega); have q179 : 0 < (t175.length : Int) := of_decide_eq_true (by first | (with_reducible assumption) | assumption); obtain ⟨ad179, e179, hx179_0⟩ := Kd.at_string (Kd.R_reads' HO178.out).2.2 0 p179 q179; cases e179; have qi179 : (0 < t175.length) = True := eq_true (by omega); (try rw [show ((0 : Int)).toNat = 0 from rfl] at hx179_0); (try rw [Addr.add_zero'] at hx179_0); replace p179 := eq_true p179; replace q179 := eq_true q179) | (go_at_call 7; (with_reducible refine (trucelaw23_awake.calls  t180 _ A19.out).mono ?_); rintro e w23 ⟨rfl, hb⟩; have n0_ := Aside0.mk (Kd.R_below (by (with_reducible repeat (first | apply Kd.R_alloc | apply Kd.R_drewN | apply Kd.R_drew)); exact HO178.out) hb); have n1_ := Aside0.mk (below_step (by repeat (first | (with_reducible first | exact HB.out | apply below_alloc | apply pw_below_drewN | apply below_drew1) | exact HB.out)) hb); clear HO178; clear HB; have HO178 := n0_; have HB := n1_; clear n0_ n1_; (try clear hb); (try clear hb2); (try clear hk); (try clear hi)))
                    go_ret
                    exact ⟨by first | rfl | (simp [errW_none, errW_some] <;> rfl) | (simp [*, errW_none, errW_some] <;> rfl), by repeat (first | (with_reducible first | exact HB.out | apply below_alloc | apply pw_below_drewN | apply below_drew1) | exact HB.out)⟩
                  · rw [if_neg c18] at H
                    have c18b0 : (t176 == (t173.size : Int)) = false := beq_eq_false_iff_ne.mpr c18
                    have c18b1 : (t176 != (t173.size : Int)) = true := bne_iff_ne.mpr c18
                    exact absurd (hr_.out.symm.trans (Option.some.inj H).symm) (by simp)
                · rw [if_neg c17] at H
                  have c17b0 : ((rdOf ByteArray.empty t175 0).toList == a0.toList) = false := beq_eq_false_iff_ne.mpr c17
                  have c17b1 : ((rdOf ByteArray.empty t175 0).toList != a0.toList) = true := bne_iff_ne.mpr c17
                  exact absurd (hr_.out.symm.trans (Option.some.inj H).symm) (by simp)
              · rw [if_neg c16] at H
                exact absurd H (by simp)
            · rw [if_neg c15] at H
              have c15b0 : ((t175.length : Int) == 1) = false := beq_eq_false_iff_ne.mpr c15
              have c15b1 : ((t175.length : Int) != 1) = true := bne_iff_ne.mpr c15
              exact absurd (hr_.out.symm.trans (Option.some.inj H).symm) (by simp)
          · rw [if_neg c14] at H
            have c14b0 : ((t173.extract 8 t173.size).toList == a0.toList) = false := beq_eq_false_iff_ne.mpr c14
            have c14b1 : ((t173.extract 8 t173.size).toList != a0.toList) = true := bne_iff_ne.mpr c14
            exact absurd (hr_.out.symm.trans (Option.some.inj H).symm) (by simp)
        · rw [if_neg c13] at H
          exact absurd H (by simp)
      · rw [if_neg c12] at H
        have c12b0 : ((t173.size : Int) == (wrap64 ((a0.size : Int) + 8))) = false := beq_eq_false_iff_ne.mpr c12
        have c12b1 : ((t173.size : Int) != (wrap64 ((a0.size : Int) + 8))) = true := bne_iff_ne.mpr c12
        exact absurd (hr_.out.symm.trans (Option.some.inj H).symm) (by simp)

end Go.Proofs.Ytkpflejagagcbaa.P
