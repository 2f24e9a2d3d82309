/- A function of the program as a Lean function, and the proof that the code comes to its answers; written by a program of this session, a changed copy of the print of the kit. -/
import Derived.Test.YtkpflejagagcbaaP0
import Derived.Test.YtkpflejagagcbaaPlogFrame
import Derived.Test.YtkpflejagagcbaaPtruceref23Same
import Derived.Test.YtkpflejagagcbaaPtruceref23Frame
import Derived.Test.YtkpflejagagcbaaPtruceref23Frames
import Derived.Test.YtkpflejagagcbaaAwakeG
import Derived.Test.YtkpflejagagcbaaLogG
namespace Go.Proofs.Ytkpflejagagcbaa.P
open Go.RowKit Go.Proofs.YtkpflejagagcbaaW.PrintWords Go.Proofs.YtkpflejagagcbaaW.PrintLast Go.Proofs.YtkpflejagagcbaaW.PrintMore
attribute [local go_sem] max2_int min2_int max_two min_two max_three min_three max_four min_four   -- for this text's walks alone
set_option linter.unusedVariables false
set_option linter.unusedSimpArgs false

/-! ### trucelaw23_LogTells: function 3 -/
def trucelaw23_LogTells.j0 : Nat → ByteArray → ByteArray → Bool → Option (Bool)
  | 0, _, _, _ => none
  | k + 1, x0, x1, x16 => if x16 = true then ((trucelaw23_awake.f).bind fun t117 => (some t117)) else ((log_Frames.f x1).bind fun bt118 => ((truceref23_Frames.f k x1).bind fun bt122 => ((log_Frame.f x0).bind fun t126 => ((truceref23_Frame.f x0).bind fun t127 => (if t126.toList = t127.toList then ((truceref23_Same.f k bt118.1 bt122.1).bind fun t128 => (if t128 = true then (if bt118.2 = bt122.2 then ((trucelaw23_awake.f).bind fun t129 => (some t129)) else (some false)) else (some false))) else (some false))))))
def trucelaw23_LogTells.f (k : Nat) (a0 : ByteArray) (a1 : ByteArray) : Option (Bool) := if (a0.size : Int) > 70000 then (trucelaw23_LogTells.j0 k a0 a1 true) else (trucelaw23_LogTells.j0 k a0 a1 (decide ((a1.size : Int) > 70000)))
theorem trucelaw23_LogTells.mono_l : ∀ k, (∀ y0 y1 y2, LeO (trucelaw23_LogTells.j0 k y0 y1 y2) (trucelaw23_LogTells.j0 (k + 1) y0 y1 y2))
  | 0 => fun _ _ _ r h => by simp [trucelaw23_LogTells.j0] at h
  | k + 1 => by
    have ih0 := trucelaw23_LogTells.mono_l k
    · intro y0 y1 y2
      unfold trucelaw23_LogTells.j0
      repeat' first
      | (with_reducible exact ih0 _ _ _)
      | (with_reducible exact truceref23_Frames.mono _ _)
      | (with_reducible exact truceref23_Same.mono _ _ _)
      | (with_reducible exact LeO.refl _)
      | (with_reducible exact LeO.none _)
      | (with_reducible refine LeO.ite ?_ ?_)
      | (with_reducible refine LeO.bind ?_ (fun _ => ?_))
      | exact ih0 _ _ _
      | exact truceref23_Frames.mono _ _
      | exact truceref23_Same.mono _ _ _
      | exact LeO.none _
      | refine LeO.ite ?_ ?_
      | refine LeO.bind ?_ (fun _ => ?_)
theorem trucelaw23_LogTells.mono : ∀ a0 a1 k, LeO (trucelaw23_LogTells.f k a0 a1) (trucelaw23_LogTells.f (k + 1) a0 a1) := by
  intro a0 a1 k
  have ih0 := trucelaw23_LogTells.mono_l k
  unfold trucelaw23_LogTells.f
  repeat' first
      | (with_reducible exact ih0 _ _ _)
      | (with_reducible exact truceref23_Frames.mono _ _)
      | (with_reducible exact truceref23_Same.mono _ _ _)
      | (with_reducible exact LeO.refl _)
      | (with_reducible exact LeO.none _)
      | (with_reducible refine LeO.ite ?_ ?_)
      | (with_reducible refine LeO.bind ?_ (fun _ => ?_))
      | exact ih0 _ _ _
      | exact truceref23_Frames.mono _ _
      | exact truceref23_Same.mono _ _ _
      | exact LeO.none _
      | refine LeO.ite ?_ ?_
      | refine LeO.bind ?_ (fun _ => ?_)
set_option maxHeartbeats 8000000 in
set_option maxRecDepth 100000 in
theorem trucelaw23_LogTells.callsT (k : Nat) (a0 : ByteArray) (a1 : ByteArray) (r : Bool) (w : World) (hr_ : Aside0 (r = true)) (h : trucelaw23_LogTells.f k a0 a1 = some r) :
    Calls Try.prog 3 #[.string a0, .string a1] w fun e w' => e = .returned (.bool r) ∧ Below w.heap.size w w' := by
  have HB := Aside0.mk (Below.refl w.heap.size w)
  have H : (if (a0.size : Int) > 70000 then (trucelaw23_LogTells.j0 k a0 a1 true) else (trucelaw23_LogTells.j0 k a0 a1 (decide ((a1.size : Int) > 70000)))) = some r := h
  clear h
  have HC3 := Aside0.mk H
  clear H
  go_enter Try.func3, Try.ntmps3
  go_upto_region 1 with (fail)
  go_cut [16] (fun v16 wc => ∃ (kq : Nat) (x16_2 : Bool), v16 = .bool x16_2 ∧ Aside0 (trucelaw23_LogTells.j0 kq a0 a1 x16_2 = some r) ∧ Aside0 (kq ≤ k) ∧ Aside0 (Below w.heap.size w wc))
  case first =>
    have H := HC3.out
    clear HC3
    by_cases c4 : (a0.size : Int) > 70000
    · rw [if_pos c4] at H
      have c4b0 : decide (70000 < (a0.size : Int)) = true := decide_eq_true c4
      have c4b1 : decide (70000 < a0.size) = true := decide_eq_true (by omega)
      clear c4
      (first | rw [c4b0] | (simp only [i64_w, i32_w]; rw [c4b0]) | skip)
      have H' := Aside0.mk H
      clear H
      go_wp2
      go_meet
      case rel => exact ⟨_, (true), (by first | rfl | (simp; done) | (simp [*]; done)), H', ⟨by first | omega | exact Nat.le_refl _⟩, ⟨by repeat (first | (with_reducible first | exact HB.out | apply below_alloc | apply pw_below_drewN | apply below_drew1) | exact HB.out)⟩⟩
    · rw [if_neg c4] at H
      have c4b0 : decide (70000 < (a0.size : Int)) = false := decide_eq_false c4
      have c4b1 : decide (70000 < a0.size) = false := decide_eq_false (by omega)
      clear c4
      (first | rw [c4b0] | (simp only [i64_w, i32_w]; rw [c4b0]) | skip)
      have H' := Aside0.mk H
      clear H
      go_wp2
      go_meet
      case rel => exact ⟨_, (decide ((a1.size : Int) > 70000)), (by first | rfl | (simp; done) | (simp [*]; done)), H', ⟨by first | omega | exact Nat.le_refl _⟩, ⟨by repeat (first | (with_reducible first | exact HB.out | apply below_alloc | apply pw_below_drewN | apply below_drew1) | exact HB.out)⟩⟩
  case rest =>
    clear HC3
    try clear p2
    try clear c3
    try clear c4
    try clear c4b0
    try clear c4b1
    obtain ⟨kq, x16_2, rfl, HA, HJ2, HB⟩ := hcut
    cases kq with
    | zero => exact absurd HA.out (by simp [trucelaw23_LogTells.j0])
    | succ kj2 =>
      have H := HA.out
      clear HA
      simp only [trucelaw23_LogTells.j0] at H
      by_cases c5 : x16_2 = true
      · subst c5
        have H1 : ((trucelaw23_awake.f).bind fun t117 => (some t117)) = some r := by rw [if_pos rfl] at H; exact H
        clear H
        have H := H1
        clear H1
        replace H := Option.bind_eq_some_iff.mp H
        obtain ⟨t117, A60, H⟩ := H
        replace H : (some t117) = some r := H
        have A6 := Aside0.mk A60
        clear A60
        obtain rfl := Option.some.inj H
        go_wp2_with (first | ((with_reducible refine gate_callee (f := 7) rfl ?_); refine goesL_ (some 17) rfl rfl Try.func7 (by kernel_rfl) rfl #[] rfl (by (try simp only [List.map_toArray, List.map_cons, List.map_nil]); first | done | rfl | (simp only [List.length_drop, List.length_take]; rfl)) ?_; (with_reducible refine (trucelaw23_awake.calls  t117 _ A6.out).mono ?_); rintro e w7 ⟨rfl, hb⟩; refine ⟨_, rfl, ?_⟩; have n0_ := Aside0.mk (below_step (by repeat (first | (with_reducible first | exact HB.out | apply below_alloc | apply pw_below_drewN | apply below_drew1) | exact HB.out)) hb); clear HB; have HB := n0_; clear n0_; (try clear hb); (try clear hb2); (try clear hk); (try clear hi)))
        go_ret
        exact ⟨by first | rfl | (simp [errW_none, errW_some] <;> rfl) | (simp [*, errW_none, errW_some] <;> rfl), by repeat (first | (with_reducible first | exact HB.out | apply below_alloc | apply pw_below_drewN | apply below_drew1) | exact HB.out)⟩
      · replace c5 := Bool.eq_false_iff.mpr c5
        subst c5
        have H1 : ((log_Frames.f a1).bind fun bt118 => ((truceref23_Frames.f kj2 a1).bind fun bt122 => ((log_Frame.f a0).bind fun t126 => ((truceref23_Frame.f a0).bind fun t127 => (if t126.toList = t127.toList then ((truceref23_Same.f kj2 bt118.1 bt122.1).bind fun t128 => (if t128 = true then (if bt118.2 = bt122.2 then ((trucelaw23_awake.f).bind fun t129 => (some t129)) else (some false)) else (some false))) else (some false)))))) = some r := by rw [if_neg (show ¬ (false = true) by decide)] at H; exact H
        clear H
        have H := H1
        clear H1
        replace H := Option.bind_eq_some_iff.mp H
        obtain ⟨⟨t118, t119⟩, A80, H⟩ := H
        replace H : ((truceref23_Frames.f kj2 a1).bind fun bt122 => ((log_Frame.f a0).bind fun t126 => ((truceref23_Frame.f a0).bind fun t127 => (if t126.toList = t127.toList then ((truceref23_Same.f kj2 t118 bt122.1).bind fun t128 => (if t128 = true then (if t119 = bt122.2 then ((trucelaw23_awake.f).bind fun t129 => (some t129)) else (some false)) else (some false))) else (some false))))) = some r := H
        have A8 := Aside0.mk A80
        clear A80
        replace H := Option.bind_eq_some_iff.mp H
        obtain ⟨⟨t122, t123⟩, A90, H⟩ := H
        replace H : ((log_Frame.f a0).bind fun t126 => ((truceref23_Frame.f a0).bind fun t127 => (if t126.toList = t127.toList then ((truceref23_Same.f kj2 t118 t122).bind fun t128 => (if t128 = true then (if t119 = t123 then ((trucelaw23_awake.f).bind fun t129 => (some t129)) else (some false)) else (some false))) else (some false)))) = some r := H
        have A9 := Aside0.mk A90
        clear A90
        replace H := Option.bind_eq_some_iff.mp H
        obtain ⟨t126, A100, H⟩ := H
        replace H : ((truceref23_Frame.f a0).bind fun t127 => (if t126.toList = t127.toList then ((truceref23_Same.f kj2 t118 t122).bind fun t128 => (if t128 = true then (if t119 = t123 then ((trucelaw23_awake.f).bind fun t129 => (some t129)) else (some false)) else (some false))) else (some false))) = some r := H
        have A10 := Aside0.mk A100
        clear A100
        replace H := Option.bind_eq_some_iff.mp H
        obtain ⟨t127, A110, H⟩ := H
        replace H : (if t126.toList = t127.toList then ((truceref23_Same.f kj2 t118 t122).bind fun t128 => (if t128 = true then (if t119 = t123 then ((trucelaw23_awake.f).bind fun t129 => (some t129)) else (some false)) else (some false))) else (some false)) = some r := H
        have A11 := Aside0.mk A110
        clear A110
        by_cases c12 : t126.toList = t127.toList
        · rw [if_pos c12] at H
          have c12b0 : (t126.toList == t127.toList) = true := beq_iff_eq.mpr c12
          have c12b1 : (t126.toList != t127.toList) = false := bne_eq_false_iff_eq.mpr c12
          clear c12
          replace H := Option.bind_eq_some_iff.mp H
          obtain ⟨t128, A130, H⟩ := H
          replace H : (if t128 = true then (if t119 = t123 then ((trucelaw23_awake.f).bind fun t129 => (some t129)) else (some false)) else (some false)) = some r := H
          have A13 := Aside0.mk A130
          clear A130
          by_cases c14 : t128 = true
          · subst c14
            have H1 : (if t119 = t123 then ((trucelaw23_awake.f).bind fun t129 => (some t129)) else (some false)) = some r := by rw [if_pos rfl] at H; exact H
            clear H
            have H := H1
            clear H1
            by_cases c15 : t119 = t123
            · rw [if_pos c15] at H
              have c15b0 : (t119 == t123) = true := beq_iff_eq.mpr c15
              have c15b1 : (t119 != t123) = false := bne_eq_false_iff_eq.mpr c15
              clear c15
              replace H := Option.bind_eq_some_iff.mp H
              obtain ⟨t129, A160, H⟩ := H
              replace H : (some t129) = some r := H
              have A16 := Aside0.mk A160
              clear A160
              obtain rfl := Option.some.inj H
              go_wp2_with (first | ((with_reducible refine gate_callee (f := 8) rfl ?_); refine goesL_ (some 20) rfl rfl Try.func8 (by kernel_rfl) rfl #[.string a1] rfl (by (try simp only [List.map_toArray, List.map_cons, List.map_nil]); first | done | rfl | (simp only [List.length_drop, List.length_take]; rfl)) ?_; (with_reducible refine (log_Frames.calls a1 t118 t119 _ A8.out).mono ?_); rintro e w17 ⟨v120, rfl, ho0, hb⟩; refine ⟨_, rfl, ?_⟩; have n0_ := Aside0.mk (Kd.R_lower ho0 (below_size (by repeat (first | (with_reducible first | exact HB.out | apply below_alloc | apply pw_below_drewN | apply below_drew1) | exact HB.out)))); have n1_ := Aside0.mk (below_step (by repeat (first | (with_reducible first | exact HB.out | apply below_alloc | apply pw_below_drewN | apply below_drew1) | exact HB.out)) hb); clear HB; have HO121 := n0_; have HB := n1_; clear n0_ n1_; (try clear hb); (try clear hb2); (try clear hk); (try clear hi); (try clear ho0)) | ((with_reducible refine gate_callee (f := 9) rfl ?_); refine goesL_ (some 25) rfl rfl Try.func9 (by kernel_rfl) rfl #[.string a1] rfl (by (try simp only [List.map_toArray, List.map_cons, List.map_nil]); first | done | rfl | (simp only [List.length_drop, List.length_take]; rfl)) ?_; (with_reducible refine (truceref23_Frames.calls kj2 a1 t122 t123 _ A9.out).mono ?_); rintro e w18 ⟨v124, rfl, ho0, hb⟩; refine ⟨_, rfl, ?_⟩; have n0_ := Aside0.mk (Kd.R_elder' (by (with_reducible repeat (first | apply Kd.R_alloc | apply Kd.R_drewN | apply Kd.R_drew)); exact HO121.out) (Kd.R_base ho0) hb); have n1_ := Aside0.mk (Kd.R_lower (Kd.R_new' ho0 (Kd.R_lt (by (with_reducible repeat (first | apply Kd.R_alloc | apply Kd.R_drewN | apply Kd.R_drew)); exact HO121.out))) (below_size (by repeat (first | (with_reducible first | exact HB.out | apply below_alloc | apply pw_below_drewN | apply below_drew1) | exact HB.out)))); have n2_ := Aside0.mk (below_step (by repeat (first | (with_reducible first | exact HB.out | apply below_alloc | apply pw_below_drewN | apply below_drew1) | exact HB.out)) hb); clear HO121; clear HB; have HO121 := n0_; have HO125 := n1_; have HB := n2_; clear n0_ n1_ n2_; (try clear hb); (try clear hb2); (try clear hk); (try clear hi); (try clear ho0)) | ((with_reducible refine gate_callee (f := 10) rfl ?_); refine goesL_ (some 29) rfl rfl Try.func10 (by kernel_rfl) rfl #[.string a0] rfl (by (try simp only [List.map_toArray, List.map_cons, List.map_nil]); first | done | rfl | (simp only [List.length_drop, List.length_take]; rfl)) ?_; (with_reducible refine (log_Frame.calls a0 t126 _ A10.out).mono ?_); rintro e w19 ⟨rfl, hb⟩; refine ⟨_, rfl, ?_⟩; have n0_ := Aside0.mk (Kd.R_below (by (with_reducible repeat (first | apply Kd.R_alloc | apply Kd.R_drewN | apply Kd.R_drew)); exact HO121.out) hb); have n1_ := Aside0.mk (Kd.R_below (by (with_reducible repeat (first | apply Kd.R_alloc | apply Kd.R_drewN | apply Kd.R_drew)); exact HO125.out) hb); have n2_ := Aside0.mk (below_step (by repeat (first | (with_reducible first | exact HB.out | apply below_alloc | apply pw_below_drewN | apply below_drew1) | exact HB.out)) hb); clear HO121; clear HO125; clear HB; have HO121 := n0_; have HO125 := n1_; have HB := n2_; clear n0_ n1_ n2_; (try clear hb); (try clear hb2); (try clear hk); (try clear hi)) | ((with_reducible refine gate_callee (f := 11) rfl ?_); refine goesL_ (some 31) rfl rfl Try.func11 (by kernel_rfl) rfl #[.string a0] rfl (by (try simp only [List.map_toArray, List.map_cons, List.map_nil]); first | done | rfl | (simp only [List.length_drop, List.length_take]; rfl)) ?_; (with_reducible refine (truceref23_Frame.calls a0 t127 _ A11.out).mono ?_); rintro e w20 ⟨rfl, hb⟩; refine ⟨_, rfl, ?_⟩; have n0_ := Aside0.mk (Kd.R_below (by (with_reducible repeat (first | apply Kd.R_alloc | apply Kd.R_drewN | apply Kd.R_drew)); exact HO121.out) hb); have n1_ := Aside0.mk (Kd.R_below (by (with_reducible repeat (first | apply Kd.R_alloc | apply Kd.R_drewN | apply Kd.R_drew)); exact HO125.out) hb); have n2_ := Aside0.mk (below_step (by repeat (first | (with_reducible first | exact HB.out | apply below_alloc | apply pw_below_drewN | apply below_drew1) | exact HB.out)) hb); clear HO121; clear HO125; clear HB; have HO121 := n0_; have HO125 := n1_; have HB := n2_; clear n0_ n1_ n2_; (try clear hb); (try clear hb2); (try clear hk); (try clear hi); obtain ⟨Ao21, co21, eo21⟩ := Kd.R_slice HO121.out; subst eo21; obtain ⟨Ao22, co22, eo22⟩ := Kd.R_slice HO125.out; subst eo22) | (go_at_call 12; (with_reducible refine (truceref23_Same.calls kj2 _ _ t118 _ _ t122 true _ ?side1 ?side2 ?side3 ?side4 A13.out).mono ?_); (case side1 => repeat (first | exact (Kd.R_reads' HO121.out).2.2 | (with_reducible refine Kd.C_alloc ?_ _) | (with_reducible refine Kd.C_drewN ?_ _) | (with_reducible refine Kd.C_drew ?_))); (case side2 => exact (Kd.R_reads' HO121.out).2.1); (case side3 => repeat (first | exact (Kd.R_reads' HO125.out).2.2 | (with_reducible refine Kd.C_alloc ?_ _) | (with_reducible refine Kd.C_drewN ?_ _) | (with_reducible refine Kd.C_drew ?_))); (case side4 => exact (Kd.R_reads' HO125.out).2.1); rintro e w' ⟨rfl, ⟨nd, rfl⟩⟩) | (go_at_call 7; (with_reducible refine (trucelaw23_awake.calls  t129 _ A16.out).mono ?_); rintro e w23 ⟨rfl, hb⟩; have n0_ := Aside0.mk (Kd.R_below (by (with_reducible repeat (first | apply Kd.R_alloc | apply Kd.R_drewN | apply Kd.R_drew)); exact HO121.out) hb); have n1_ := Aside0.mk (Kd.R_below (by (with_reducible repeat (first | apply Kd.R_alloc | apply Kd.R_drewN | apply Kd.R_drew)); exact HO125.out) hb); have n2_ := Aside0.mk (below_step (by repeat (first | (with_reducible first | exact HB.out | apply below_alloc | apply pw_below_drewN | apply below_drew1) | exact HB.out)) hb); clear HO121; clear HO125; clear HB; have HO121 := n0_; have HO125 := n1_; have HB := n2_; clear n0_ n1_ n2_; (try clear hb); (try clear hb2); (try clear hk); (try clear hi)))
              go_ret
              exact ⟨by first | rfl | (simp [errW_none, errW_some] <;> rfl) | (simp [*, errW_none, errW_some] <;> rfl), by repeat (first | (with_reducible first | exact HB.out | apply below_alloc | apply pw_below_drewN | apply below_drew1) | exact HB.out)⟩
            · rw [if_neg c15] at H
              have c15b0 : (t119 == t123) = false := beq_eq_false_iff_ne.mpr c15
              have c15b1 : (t119 != t123) = true := bne_iff_ne.mpr c15
              exact absurd (hr_.out.symm.trans (Option.some.inj H).symm) (by simp)
          · replace c14 := Bool.eq_false_iff.mpr c14
            subst c14
            have H1 : (some false) = some r := by rw [if_neg (show ¬ (false = true) by decide)] at H; exact H
            clear H
            have H := H1
            clear H1
            exact absurd (hr_.out.symm.trans (Option.some.inj H).symm) (by simp)
        · rw [if_neg c12] at H
          have c12b0 : (t126.toList == t127.toList) = false := beq_eq_false_iff_ne.mpr c12
          have c12b1 : (t126.toList != t127.toList) = true := bne_iff_ne.mpr c12
          exact absurd (hr_.out.symm.trans (Option.some.inj H).symm) (by simp)

end Go.Proofs.Ytkpflejagagcbaa.P
