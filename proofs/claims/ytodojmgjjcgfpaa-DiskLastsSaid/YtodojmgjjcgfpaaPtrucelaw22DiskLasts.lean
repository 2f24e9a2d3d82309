/- A function of the program as a Lean function, and the proof that the code comes to its answers; written by a program of this session, a changed copy of the print of the kit. -/
import Derived.Test.YtodojmgjjcgfpaaP0
import Derived.Test.YtodojmgjjcgfpaaPtruceref22Fit
import Derived.Test.YtodojmgjjcgfpaaPdiskArm
import Derived.Test.YtodojmgjjcgfpaaPdiskSync
import Derived.Test.YtodojmgjjcgfpaaPtrucelaw22begins
import Derived.Test.YtodojmgjjcgfpaaGAwake
import Derived.Test.YtodojmgjjcgfpaaGCrash
import Derived.Test.YtodojmgjjcgfpaaGWrite
namespace Go.Proofs.Ytodojmgjjcgfpaa.P
open Go.RowKit Go.Proofs.YtodojmgjjcgfpaaW.PrintWords Go.Proofs.YtodojmgjjcgfpaaW.PrintLast Go.Proofs.YtodojmgjjcgfpaaW.PrintMore
attribute [local go_sem] max2_int min2_int max_two min_two max_three min_three max_four min_four   -- for this text's walks alone
set_option linter.unusedVariables false
set_option linter.unusedSimpArgs false

/-! ### trucelaw22_DiskLasts: function 3 -/
mutual
def trucelaw22_DiskLasts.j0 : Nat → ByteArray → Int → Int → Bool → ByteArray → ByteArray → Int → Bool → Option (Bool)
  | 0, _, _, _, _, _, _, _, _ => none
  | k + 1, x1, x2, x3, x27, x108000, x108001, x108002, x108003 => if x27 = true then ((trucelaw22_awake.f).bind fun t109 => (some t109)) else ((disk_Arm.f x108000 x108001 x108002 x108003 x2).bind fun bt110 => ((disk_Write.f bt110.1 bt110.2.1 bt110.2.2.1 bt110.2.2.2 x1).bind fun bt114 => ((disk_Sync.f bt114.1 bt114.2.1 bt114.2.2.1 bt114.2.2.2.1).bind fun bt120 => ((disk_Crash.f bt114.1 bt114.2.1 bt114.2.2.1 bt114.2.2.2.1 x3).bind fun bt126 => (if bt114.1.toList = x108000.toList then ((trucelaw22_begins.f bt114.2.1 x108001).bind fun t131 => (if t131 = true then (if x108001.size + x1.size ≤ 9223372036854775807 then ((trucelaw22_begins.f (x108001 ++ x1) bt114.2.1).bind fun t132 => (if t132 = true then (if bt114.2.2.2.2 = 0 then (trucelaw22_DiskLasts.j1 k x1 (bt114.2.1.toList != (x108001 ++ x1).toList) x108000 x108001 x108002 x108003 bt120.1 bt120.2.1 bt120.2.2.1 bt120.2.2.2.1 bt126.1 bt126.2.1 bt126.2.2.1 bt126.2.2.2) else (trucelaw22_DiskLasts.j1 k x1 false x108000 x108001 x108002 x108003 bt120.1 bt120.2.1 bt120.2.2.1 bt120.2.2.2.1 bt126.1 bt126.2.1 bt126.2.2.1 bt126.2.2.2)) else (trucelaw22_DiskLasts.j1 k x1 true x108000 x108001 x108002 x108003 bt120.1 bt120.2.1 bt120.2.2.1 bt120.2.2.2.1 bt126.1 bt126.2.1 bt126.2.2.1 bt126.2.2.2))) else (none)) else (trucelaw22_DiskLasts.j1 k x1 true x108000 x108001 x108002 x108003 bt120.1 bt120.2.1 bt120.2.2.1 bt120.2.2.2.1 bt126.1 bt126.2.1 bt126.2.2.1 bt126.2.2.2))) else (trucelaw22_DiskLasts.j1 k x1 true x108000 x108001 x108002 x108003 bt120.1 bt120.2.1 bt120.2.2.1 bt120.2.2.2.1 bt126.1 bt126.2.1 bt126.2.2.1 bt126.2.2.2))))))
def trucelaw22_DiskLasts.j1 : Nat → ByteArray → Bool → ByteArray → ByteArray → Int → Bool → ByteArray → ByteArray → Int → Bool → ByteArray → ByteArray → Int → Bool → Option (Bool)
  | 0, _, _, _, _, _, _, _, _, _, _, _, _, _, _ => none
  | k + 1, x1, x80, x108000, x108001, x108002, x108003, x126000, x126001, x126002, x126003, x131000, x131001, x131002, x131003 => if x80 = true then (some false) else ((trucelaw22_begins.f x126000 x108000).bind fun t133 => (if t133 = true then ((trucelaw22_begins.f x131000 x108000).bind fun t134 => (if t134 = true then (if x108000.size + x108001.size ≤ 9223372036854775807 then (if (x108000 ++ x108001).size + x1.size ≤ 9223372036854775807 then ((trucelaw22_begins.f ((x108000 ++ x108001) ++ x1) x131000).bind fun t135 => (if t135 = true then (if x131001.toList = ([] : List UInt8) then (if x131003 = true then (some false) else (if x131002 = (-1) then ((trucelaw22_awake.f).bind fun t136 => (some t136)) else (some false))) else (some false)) else (some false))) else (none)) else (none)) else (some false))) else (some false)))
end
def trucelaw22_DiskLasts.f (k : Nat) (a0_0 : ByteArray) (a0_1 : ByteArray) (a0_2 : Int) (a0_3 : Bool) (a1 : ByteArray) (a2 : Int) (a3 : Int) : Option (Bool) := if (a0_0.size : Int) > 200000 then (trucelaw22_DiskLasts.j0 k a1 a2 a3 true a0_0 a0_1 a0_2 a0_3) else (if (a1.size : Int) > 200000 then (trucelaw22_DiskLasts.j0 k a1 a2 a3 true a0_0 a0_1 a0_2 a0_3) else ((truceref22_Fit.f a0_0 a0_1 a0_2 a0_3).bind fun t108 => (trucelaw22_DiskLasts.j0 k a1 a2 a3 (!t108) a0_0 a0_1 a0_2 a0_3)))
theorem trucelaw22_DiskLasts.mono_l : ∀ k, (∀ y0 y1 y2 y3 y4 y5 y6 y7, LeO (trucelaw22_DiskLasts.j0 k y0 y1 y2 y3 y4 y5 y6 y7) (trucelaw22_DiskLasts.j0 (k + 1) y0 y1 y2 y3 y4 y5 y6 y7)) ∧ (∀ y0 y1 y2 y3 y4 y5 y6 y7 y8 y9 y10 y11 y12 y13, LeO (trucelaw22_DiskLasts.j1 k y0 y1 y2 y3 y4 y5 y6 y7 y8 y9 y10 y11 y12 y13) (trucelaw22_DiskLasts.j1 (k + 1) y0 y1 y2 y3 y4 y5 y6 y7 y8 y9 y10 y11 y12 y13))
  | 0 => ⟨fun _ _ _ _ _ _ _ _ r h => by simp [trucelaw22_DiskLasts.j0] at h, fun _ _ _ _ _ _ _ _ _ _ _ _ _ _ r h => by simp [trucelaw22_DiskLasts.j1] at h⟩
  | k + 1 => by
    obtain ⟨ih0, ih1⟩ := trucelaw22_DiskLasts.mono_l k
    refine ⟨?_, ?_⟩
    · intro y0 y1 y2 y3 y4 y5 y6 y7
      unfold trucelaw22_DiskLasts.j0
      repeat' first
      | (with_reducible exact ih0 _ _ _ _ _ _ _ _)
      | (with_reducible exact ih1 _ _ _ _ _ _ _ _ _ _ _ _ _ _)
      | (with_reducible exact LeO.refl _)
      | (with_reducible exact LeO.none _)
      | (with_reducible refine LeO.ite ?_ ?_)
      | (with_reducible refine LeO.bind ?_ (fun _ => ?_))
      | exact ih0 _ _ _ _ _ _ _ _
      | exact ih1 _ _ _ _ _ _ _ _ _ _ _ _ _ _
      | exact LeO.none _
      | refine LeO.ite ?_ ?_
      | refine LeO.bind ?_ (fun _ => ?_)
    · intro y0 y1 y2 y3 y4 y5 y6 y7 y8 y9 y10 y11 y12 y13
      unfold trucelaw22_DiskLasts.j1
      repeat' first
      | (with_reducible exact ih0 _ _ _ _ _ _ _ _)
      | (with_reducible exact ih1 _ _ _ _ _ _ _ _ _ _ _ _ _ _)
      | (with_reducible exact LeO.refl _)
      | (with_reducible exact LeO.none _)
      | (with_reducible refine LeO.ite ?_ ?_)
      | (with_reducible refine LeO.bind ?_ (fun _ => ?_))
      | exact ih0 _ _ _ _ _ _ _ _
      | exact ih1 _ _ _ _ _ _ _ _ _ _ _ _ _ _
      | exact LeO.none _
      | refine LeO.ite ?_ ?_
      | refine LeO.bind ?_ (fun _ => ?_)
theorem trucelaw22_DiskLasts.mono : ∀ a0 a1 a2 a3 a4 a5 a6 k, LeO (trucelaw22_DiskLasts.f k a0 a1 a2 a3 a4 a5 a6) (trucelaw22_DiskLasts.f (k + 1) a0 a1 a2 a3 a4 a5 a6) := by
  intro a0 a1 a2 a3 a4 a5 a6 k
  obtain ⟨ih0, ih1⟩ := trucelaw22_DiskLasts.mono_l k
  unfold trucelaw22_DiskLasts.f
  repeat' first
      | (with_reducible exact ih0 _ _ _ _ _ _ _ _)
      | (with_reducible exact ih1 _ _ _ _ _ _ _ _ _ _ _ _ _ _)
      | (with_reducible exact LeO.refl _)
      | (with_reducible exact LeO.none _)
      | (with_reducible refine LeO.ite ?_ ?_)
      | (with_reducible refine LeO.bind ?_ (fun _ => ?_))
      | exact ih0 _ _ _ _ _ _ _ _
      | exact ih1 _ _ _ _ _ _ _ _ _ _ _ _ _ _
      | exact LeO.none _
      | refine LeO.ite ?_ ?_
      | refine LeO.bind ?_ (fun _ => ?_)
set_option maxHeartbeats 8000000 in
set_option maxRecDepth 100000 in
theorem trucelaw22_DiskLasts.callsT (k : Nat) (a0_0 : ByteArray) (a0_1 : ByteArray) (a0_2 : Int) (a0_3 : Bool) (a1 : ByteArray) (a2 : Int) (a3 : Int) (r : Bool) (w : World) (hr_ : Aside0 (r = true)) (h : trucelaw22_DiskLasts.f k a0_0 a0_1 a0_2 a0_3 a1 a2 a3 = some r) :
    Calls Try.prog 3 #[.agg #[.string a0_0, .string a0_1, .int .i64 a0_2, .bool a0_3], .string a1, .int .i64 a2, .int .i64 a3] w fun e w' => e = .returned (.bool r) ∧ Below w.heap.size w w' := by
  have hu23 := Try.underlying23
  have HB := Aside0.mk (Below.refl w.heap.size w)
  have H : (if (a0_0.size : Int) > 200000 then (trucelaw22_DiskLasts.j0 k a1 a2 a3 true a0_0 a0_1 a0_2 a0_3) else (if (a1.size : Int) > 200000 then (trucelaw22_DiskLasts.j0 k a1 a2 a3 true a0_0 a0_1 a0_2 a0_3) else ((truceref22_Fit.f a0_0 a0_1 a0_2 a0_3).bind fun t108 => (trucelaw22_DiskLasts.j0 k a1 a2 a3 (!t108) a0_0 a0_1 a0_2 a0_3)))) = some r := h
  clear h
  have HC5 := Aside0.mk H
  clear H
  go_enter Try.func3, Try.ntmps3
  go_upto_region 1 with (first | ((with_reducible refine gate_dst (N := 4) rfl ?_); (try (refine gate_guard (by rfl) ?_; dsimp only)); refine box_event ?hg (N := 4) ?hd (cs := #[.string a0_0, .string a0_1, .int .i64 a0_2, .bool a0_3]) (t := 23) ?hr ?_; (case hd => rfl); (case hg => rfl); (case hr => first | (go_simp; done) | (go_simp; rfl)); intro gb107 hg w6 hbox hb; have n0_ := Aside0.mk (below_step (by repeat (first | (with_reducible first | exact HB.out | apply below_alloc | apply pw_below_drewN | apply below_drew1) | exact HB.out)) hb); have n1_ := Aside0.mk (hbox); have n2_ := Aside0.mk ((by rw [hg]; exact (below_size (by repeat (first | (with_reducible first | exact HB.out | apply below_alloc | apply pw_below_drewN | apply below_drew1) | exact HB.out))) : w.heap.size ≤ gb107)); have n3_ := Aside0.mk ((by rw [hg]; exact (below_size (by repeat (first | (with_reducible first | exact HB.out | apply below_alloc | apply pw_below_drewN | apply below_drew1) | exact HB.out))) : w.heap.size ≤ gb107)); clear HB; have HB := n0_; have BK107 := n1_; have GW107 := n2_; have GE107 := n3_; clear n0_ n1_ n2_ n3_; clear hb hbox hg))
  (try simp only [Act.put, List.setIfInBounds_toArray, List.set_cons_zero, List.set_cons_succ])
  go_cut [27] (fun v27 wc => ∃ (kq : Nat) (x27_4 : Bool), v27 = .bool x27_4 ∧ Aside0 (trucelaw22_DiskLasts.j0 kq a1 a2 a3 x27_4 a0_0 a0_1 a0_2 a0_3 = some r) ∧ Aside0 (kq ≤ k) ∧ Aside0 (wc.heap[gb107]? = some (.cells #[.string a0_0, .string a0_1, .int .i64 a0_2, .bool a0_3] 23 (0, 0))) ∧ Aside0 (Below w.heap.size w wc))
  case first =>
    have H := HC5.out
    clear HC5
    by_cases c7 : (a0_0.size : Int) > 200000
    · rw [if_pos c7] at H
      have c7b0 : decide (200000 < (a0_0.size : Int)) = true := decide_eq_true c7
      have c7b1 : decide (200000 < a0_0.size) = true := decide_eq_true (by omega)
      clear c7
      (first | rw [c7b0] | (simp only [i64_w, i32_w]; rw [c7b0]) | skip)
      have H' := Aside0.mk H
      clear H
      have hcz8_0 : w6.cell? ⟨gb107, 0, none⟩ = some (.string a0_0) := (blk_cell BK107.out 0).trans rfl
      have hcz8_1 : w6.cell? ⟨gb107, 1, none⟩ = some (.string a0_1) := (blk_cell BK107.out 1).trans rfl
      have hcz8_2 : w6.cell? ⟨gb107, 2, none⟩ = some (.int .i64 a0_2) := (blk_cell BK107.out 2).trans rfl
      have hcz8_3 : w6.cell? ⟨gb107, 3, none⟩ = some (.bool a0_3) := (blk_cell BK107.out 3).trans rfl
      have hfz8_0 := blk_frozen BK107.out 0
      have hfz8_1 := blk_frozen BK107.out 1
      have hfz8_2 := blk_frozen BK107.out 2
      have hfz8_3 := blk_frozen BK107.out 3
      go_wp2
      go_meet
      case rel => exact ⟨_, (true), (by first | rfl | (simp; done) | (simp [*]; done)), H', ⟨by first | omega | exact Nat.le_refl _⟩, ⟨by (with_reducible repeat (first | refine blk_drewN ?_ _ | refine blk_drew ?_ | refine blk_alloc ?_ _)); exact BK107.out⟩, ⟨by repeat (first | (with_reducible first | exact HB.out | apply below_alloc | apply pw_below_drewN | apply below_drew1 | refine below_set ?_ GE107.out) | exact HB.out)⟩⟩
    · rw [if_neg c7] at H
      have c7b0 : decide (200000 < (a0_0.size : Int)) = false := decide_eq_false c7
      have c7b1 : decide (200000 < a0_0.size) = false := decide_eq_false (by omega)
      clear c7
      (first | rw [c7b0] | (simp only [i64_w, i32_w]; rw [c7b0]) | skip)
      by_cases c9 : (a1.size : Int) > 200000
      · rw [if_pos c9] at H
        have c9b0 : decide (200000 < (a1.size : Int)) = true := decide_eq_true c9
        have c9b1 : decide (200000 < a1.size) = true := decide_eq_true (by omega)
        clear c9
        have H' := Aside0.mk H
        clear H
        have hcz10_0 : w6.cell? ⟨gb107, 0, none⟩ = some (.string a0_0) := (blk_cell BK107.out 0).trans rfl
        have hcz10_1 : w6.cell? ⟨gb107, 1, none⟩ = some (.string a0_1) := (blk_cell BK107.out 1).trans rfl
        have hcz10_2 : w6.cell? ⟨gb107, 2, none⟩ = some (.int .i64 a0_2) := (blk_cell BK107.out 2).trans rfl
        have hcz10_3 : w6.cell? ⟨gb107, 3, none⟩ = some (.bool a0_3) := (blk_cell BK107.out 3).trans rfl
        have hfz10_0 := blk_frozen BK107.out 0
        have hfz10_1 := blk_frozen BK107.out 1
        have hfz10_2 := blk_frozen BK107.out 2
        have hfz10_3 := blk_frozen BK107.out 3
        go_wp2
        go_meet
        case rel => exact ⟨_, (true), (by first | rfl | (simp; done) | (simp [*]; done)), H', ⟨by first | omega | exact Nat.le_refl _⟩, ⟨by (with_reducible repeat (first | refine blk_drewN ?_ _ | refine blk_drew ?_ | refine blk_alloc ?_ _)); exact BK107.out⟩, ⟨by repeat (first | (with_reducible first | exact HB.out | apply below_alloc | apply pw_below_drewN | apply below_drew1 | refine below_set ?_ GE107.out) | exact HB.out)⟩⟩
      · rw [if_neg c9] at H
        have c9b0 : decide (200000 < (a1.size : Int)) = false := decide_eq_false c9
        have c9b1 : decide (200000 < a1.size) = false := decide_eq_false (by omega)
        clear c9
        replace H := Option.bind_eq_some_iff.mp H
        obtain ⟨t108, A110, H⟩ := H
        replace H : (trucelaw22_DiskLasts.j0 k a1 a2 a3 (!t108) a0_0 a0_1 a0_2 a0_3) = some r := H
        have A11 := Aside0.mk A110
        clear A110
        have H' := Aside0.mk H
        clear H
        have hcz12_0 : w6.cell? ⟨gb107, 0, none⟩ = some (.string a0_0) := (blk_cell BK107.out 0).trans rfl
        have hcz12_1 : w6.cell? ⟨gb107, 1, none⟩ = some (.string a0_1) := (blk_cell BK107.out 1).trans rfl
        have hcz12_2 : w6.cell? ⟨gb107, 2, none⟩ = some (.int .i64 a0_2) := (blk_cell BK107.out 2).trans rfl
        have hcz12_3 : w6.cell? ⟨gb107, 3, none⟩ = some (.bool a0_3) := (blk_cell BK107.out 3).trans rfl
        have hfz12_0 := blk_frozen BK107.out 0
        have hfz12_1 := blk_frozen BK107.out 1
        have hfz12_2 := blk_frozen BK107.out 2
        have hfz12_3 := blk_frozen BK107.out 3
        go_wp2_with (first | (go_at_call 6; (with_reducible refine (truceref22_Fit.calls a0_0 a0_1 a0_2 a0_3 t108 _ A11.out).mono ?_); rintro e w13 ⟨rfl, hb⟩; have n0_ := Aside0.mk (blk_below (g := gb107) (o := .cells #[.string a0_0, .string a0_1, .int .i64 a0_2, .bool a0_3] 23 (0, 0)) (by (with_reducible repeat (first | refine blk_drewN ?_ _ | refine blk_drew ?_ | refine blk_alloc ?_ _)); exact BK107.out) hb); have n1_ := Aside0.mk (below_step (by repeat (first | (with_reducible first | exact HB.out | apply below_alloc | apply pw_below_drewN | apply below_drew1 | refine below_set ?_ GE107.out) | exact HB.out)) hb); clear BK107; clear HB; have BK107 := n0_; have HB := n1_; clear n0_ n1_; (try clear hb); (try clear hb2); (try clear hk); (try clear hi)))
        go_meet
        case rel => exact ⟨_, (!t108), (by first | rfl | (simp; done) | (simp [*]; done)), H', ⟨by first | omega | exact Nat.le_refl _⟩, ⟨by (with_reducible repeat (first | refine blk_drewN ?_ _ | refine blk_drew ?_ | refine blk_alloc ?_ _)); exact BK107.out⟩, ⟨by repeat (first | (with_reducible first | exact HB.out | apply below_alloc | apply pw_below_drewN | apply below_drew1 | refine below_set ?_ GE107.out) | exact HB.out)⟩⟩
  case rest =>
    clear HC5
    try clear p2
    try clear c3
    try clear c7
    try clear c7b0
    try clear c7b1
    try clear c9
    try clear c9b0
    try clear c9b1
    try clear hcz10_0
    try clear hcz10_1
    try clear hcz10_2
    try clear hcz10_3
    try clear hcz12_0
    try clear hcz12_1
    try clear hcz12_2
    try clear hcz12_3
    try clear hcz8_0
    try clear hcz8_1
    try clear hcz8_2
    try clear hcz8_3
    try clear hfz10_0
    try clear hfz10_1
    try clear hfz10_2
    try clear hfz10_3
    try clear hfz12_0
    try clear hfz12_1
    try clear hfz12_2
    try clear hfz12_3
    try clear hfz8_0
    try clear hfz8_1
    try clear hfz8_2
    try clear hfz8_3
    obtain ⟨kq, x27_4, rfl, HA, HJ4, BK107, HB⟩ := hcut
    cases kq with
    | zero => exact absurd HA.out (by simp [trucelaw22_DiskLasts.j0])
    | succ kj4 =>
      have H := HA.out
      clear HA
      simp only [trucelaw22_DiskLasts.j0] at H
      by_cases c14 : x27_4 = true
      · subst c14
        have H1 : ((trucelaw22_awake.f).bind fun t109 => (some t109)) = some r := by rw [if_pos rfl] at H; exact H
        clear H
        have H := H1
        clear H1
        replace H := Option.bind_eq_some_iff.mp H
        obtain ⟨t109, A150, H⟩ := H
        replace H : (some t109) = some r := H
        have A15 := Aside0.mk A150
        clear A150
        obtain rfl := Option.some.inj H
        go_wp2_with (first | ((with_reducible refine gate_callee (f := 7) rfl ?_); refine goesL_ (some 28) rfl rfl Try.func7 (by kernel_rfl) rfl #[] rfl (by (try simp only [List.map_toArray, List.map_cons, List.map_nil]); first | done | rfl | (simp only [List.length_drop, List.length_take]; rfl)) ?_; (with_reducible refine (trucelaw22_awake.calls  t109 _ A15.out).mono ?_); rintro e w16 ⟨rfl, hb⟩; refine ⟨_, rfl, ?_⟩; have n0_ := Aside0.mk (blk_below (g := gb107) (o := .cells #[.string a0_0, .string a0_1, .int .i64 a0_2, .bool a0_3] 23 (0, 0)) (by (with_reducible repeat (first | refine blk_drewN ?_ _ | refine blk_drew ?_ | refine blk_alloc ?_ _)); exact BK107.out) hb); have n1_ := Aside0.mk (below_step (by repeat (first | (with_reducible first | exact HB.out | apply below_alloc | apply pw_below_drewN | apply below_drew1 | refine below_set ?_ GE107.out) | exact HB.out)) hb); clear BK107; clear HB; have BK107 := n0_; have HB := n1_; clear n0_ n1_; (try clear hb); (try clear hb2); (try clear hk); (try clear hi)))
        go_ret
        exact ⟨by first | rfl | (simp [errW_none, errW_some] <;> rfl) | (simp [*, errW_none, errW_some] <;> rfl), by repeat (first | (with_reducible first | exact HB.out | apply below_alloc | apply pw_below_drewN | apply below_drew1 | refine below_set ?_ GE107.out) | exact HB.out)⟩
      · replace c14 := Bool.eq_false_iff.mpr c14
        subst c14
        have H1 : ((disk_Arm.f a0_0 a0_1 a0_2 a0_3 a2).bind fun bt110 => ((disk_Write.f bt110.1 bt110.2.1 bt110.2.2.1 bt110.2.2.2 a1).bind fun bt114 => ((disk_Sync.f bt114.1 bt114.2.1 bt114.2.2.1 bt114.2.2.2.1).bind fun bt120 => ((disk_Crash.f bt114.1 bt114.2.1 bt114.2.2.1 bt114.2.2.2.1 a3).bind fun bt126 => (if bt114.1.toList = a0_0.toList then ((trucelaw22_begins.f bt114.2.1 a0_1).bind fun t131 => (if t131 = true then (if a0_1.size + a1.size ≤ 9223372036854775807 then ((trucelaw22_begins.f (a0_1 ++ a1) bt114.2.1).bind fun t132 => (if t132 = true then (if bt114.2.2.2.2 = 0 then (trucelaw22_DiskLasts.j1 kj4 a1 (bt114.2.1.toList != (a0_1 ++ a1).toList) a0_0 a0_1 a0_2 a0_3 bt120.1 bt120.2.1 bt120.2.2.1 bt120.2.2.2.1 bt126.1 bt126.2.1 bt126.2.2.1 bt126.2.2.2) else (trucelaw22_DiskLasts.j1 kj4 a1 false a0_0 a0_1 a0_2 a0_3 bt120.1 bt120.2.1 bt120.2.2.1 bt120.2.2.2.1 bt126.1 bt126.2.1 bt126.2.2.1 bt126.2.2.2)) else (trucelaw22_DiskLasts.j1 kj4 a1 true a0_0 a0_1 a0_2 a0_3 bt120.1 bt120.2.1 bt120.2.2.1 bt120.2.2.2.1 bt126.1 bt126.2.1 bt126.2.2.1 bt126.2.2.2))) else (none)) else (trucelaw22_DiskLasts.j1 kj4 a1 true a0_0 a0_1 a0_2 a0_3 bt120.1 bt120.2.1 bt120.2.2.1 bt120.2.2.2.1 bt126.1 bt126.2.1 bt126.2.2.1 bt126.2.2.2))) else (trucelaw22_DiskLasts.j1 kj4 a1 true a0_0 a0_1 a0_2 a0_3 bt120.1 bt120.2.1 bt120.2.2.1 bt120.2.2.2.1 bt126.1 bt126.2.1 bt126.2.2.1 bt126.2.2.2)))))) = some r := by rw [if_neg (show ¬ (false = true) by decide)] at H; exact H
        clear H
        have H := H1
        clear H1
        replace H := Option.bind_eq_some_iff.mp H
        obtain ⟨⟨t110, t111, t112, t113⟩, A170, H⟩ := H
        replace H : ((disk_Write.f t110 t111 t112 t113 a1).bind fun bt114 => ((disk_Sync.f bt114.1 bt114.2.1 bt114.2.2.1 bt114.2.2.2.1).bind fun bt120 => ((disk_Crash.f bt114.1 bt114.2.1 bt114.2.2.1 bt114.2.2.2.1 a3).bind fun bt126 => (if bt114.1.toList = a0_0.toList then ((trucelaw22_begins.f bt114.2.1 a0_1).bind fun t131 => (if t131 = true then (if a0_1.size + a1.size ≤ 9223372036854775807 then ((trucelaw22_begins.f (a0_1 ++ a1) bt114.2.1).bind fun t132 => (if t132 = true then (if bt114.2.2.2.2 = 0 then (trucelaw22_DiskLasts.j1 kj4 a1 (bt114.2.1.toList != (a0_1 ++ a1).toList) a0_0 a0_1 a0_2 a0_3 bt120.1 bt120.2.1 bt120.2.2.1 bt120.2.2.2.1 bt126.1 bt126.2.1 bt126.2.2.1 bt126.2.2.2) else (trucelaw22_DiskLasts.j1 kj4 a1 false a0_0 a0_1 a0_2 a0_3 bt120.1 bt120.2.1 bt120.2.2.1 bt120.2.2.2.1 bt126.1 bt126.2.1 bt126.2.2.1 bt126.2.2.2)) else (trucelaw22_DiskLasts.j1 kj4 a1 true a0_0 a0_1 a0_2 a0_3 bt120.1 bt120.2.1 bt120.2.2.1 bt120.2.2.2.1 bt126.1 bt126.2.1 bt126.2.2.1 bt126.2.2.2))) else (none)) else (trucelaw22_DiskLasts.j1 kj4 a1 true a0_0 a0_1 a0_2 a0_3 bt120.1 bt120.2.1 bt120.2.2.1 bt120.2.2.2.1 bt126.1 bt126.2.1 bt126.2.2.1 bt126.2.2.2))) else (trucelaw22_DiskLasts.j1 kj4 a1 true a0_0 a0_1 a0_2 a0_3 bt120.1 bt120.2.1 bt120.2.2.1 bt120.2.2.2.1 bt126.1 bt126.2.1 bt126.2.2.1 bt126.2.2.2))))) = some r := H
        have A17 := Aside0.mk A170
        clear A170
        replace H := Option.bind_eq_some_iff.mp H
        obtain ⟨⟨t114, t115, t116, t117, t118⟩, A180, H⟩ := H
        replace H : ((disk_Sync.f t114 t115 t116 t117).bind fun bt120 => ((disk_Crash.f t114 t115 t116 t117 a3).bind fun bt126 => (if t114.toList = a0_0.toList then ((trucelaw22_begins.f t115 a0_1).bind fun t131 => (if t131 = true then (if a0_1.size + a1.size ≤ 9223372036854775807 then ((trucelaw22_begins.f (a0_1 ++ a1) t115).bind fun t132 => (if t132 = true then (if t118 = 0 then (trucelaw22_DiskLasts.j1 kj4 a1 (t115.toList != (a0_1 ++ a1).toList) a0_0 a0_1 a0_2 a0_3 bt120.1 bt120.2.1 bt120.2.2.1 bt120.2.2.2.1 bt126.1 bt126.2.1 bt126.2.2.1 bt126.2.2.2) else (trucelaw22_DiskLasts.j1 kj4 a1 false a0_0 a0_1 a0_2 a0_3 bt120.1 bt120.2.1 bt120.2.2.1 bt120.2.2.2.1 bt126.1 bt126.2.1 bt126.2.2.1 bt126.2.2.2)) else (trucelaw22_DiskLasts.j1 kj4 a1 true a0_0 a0_1 a0_2 a0_3 bt120.1 bt120.2.1 bt120.2.2.1 bt120.2.2.2.1 bt126.1 bt126.2.1 bt126.2.2.1 bt126.2.2.2))) else (none)) else (trucelaw22_DiskLasts.j1 kj4 a1 true a0_0 a0_1 a0_2 a0_3 bt120.1 bt120.2.1 bt120.2.2.1 bt120.2.2.2.1 bt126.1 bt126.2.1 bt126.2.2.1 bt126.2.2.2))) else (trucelaw22_DiskLasts.j1 kj4 a1 true a0_0 a0_1 a0_2 a0_3 bt120.1 bt120.2.1 bt120.2.2.1 bt120.2.2.2.1 bt126.1 bt126.2.1 bt126.2.2.1 bt126.2.2.2)))) = some r := H
        have A18 := Aside0.mk A180
        clear A180
        replace H := Option.bind_eq_some_iff.mp H
        obtain ⟨⟨t120, t121, t122, t123, t124⟩, A190, H⟩ := H
        replace H : ((disk_Crash.f t114 t115 t116 t117 a3).bind fun bt126 => (if t114.toList = a0_0.toList then ((trucelaw22_begins.f t115 a0_1).bind fun t131 => (if t131 = true then (if a0_1.size + a1.size ≤ 9223372036854775807 then ((trucelaw22_begins.f (a0_1 ++ a1) t115).bind fun t132 => (if t132 = true then (if t118 = 0 then (trucelaw22_DiskLasts.j1 kj4 a1 (t115.toList != (a0_1 ++ a1).toList) a0_0 a0_1 a0_2 a0_3 t120 t121 t122 t123 bt126.1 bt126.2.1 bt126.2.2.1 bt126.2.2.2) else (trucelaw22_DiskLasts.j1 kj4 a1 false a0_0 a0_1 a0_2 a0_3 t120 t121 t122 t123 bt126.1 bt126.2.1 bt126.2.2.1 bt126.2.2.2)) else (trucelaw22_DiskLasts.j1 kj4 a1 true a0_0 a0_1 a0_2 a0_3 t120 t121 t122 t123 bt126.1 bt126.2.1 bt126.2.2.1 bt126.2.2.2))) else (none)) else (trucelaw22_DiskLasts.j1 kj4 a1 true a0_0 a0_1 a0_2 a0_3 t120 t121 t122 t123 bt126.1 bt126.2.1 bt126.2.2.1 bt126.2.2.2))) else (trucelaw22_DiskLasts.j1 kj4 a1 true a0_0 a0_1 a0_2 a0_3 t120 t121 t122 t123 bt126.1 bt126.2.1 bt126.2.2.1 bt126.2.2.2))) = some r := H
        have A19 := Aside0.mk A190
        clear A190
        replace H := Option.bind_eq_some_iff.mp H
        obtain ⟨⟨t126, t127, t128, t129⟩, A200, H⟩ := H
        replace H : (if t114.toList = a0_0.toList then ((trucelaw22_begins.f t115 a0_1).bind fun t131 => (if t131 = true then (if a0_1.size + a1.size ≤ 9223372036854775807 then ((trucelaw22_begins.f (a0_1 ++ a1) t115).bind fun t132 => (if t132 = true then (if t118 = 0 then (trucelaw22_DiskLasts.j1 kj4 a1 (t115.toList != (a0_1 ++ a1).toList) a0_0 a0_1 a0_2 a0_3 t120 t121 t122 t123 t126 t127 t128 t129) else (trucelaw22_DiskLasts.j1 kj4 a1 false a0_0 a0_1 a0_2 a0_3 t120 t121 t122 t123 t126 t127 t128 t129)) else (trucelaw22_DiskLasts.j1 kj4 a1 true a0_0 a0_1 a0_2 a0_3 t120 t121 t122 t123 t126 t127 t128 t129))) else (none)) else (trucelaw22_DiskLasts.j1 kj4 a1 true a0_0 a0_1 a0_2 a0_3 t120 t121 t122 t123 t126 t127 t128 t129))) else (trucelaw22_DiskLasts.j1 kj4 a1 true a0_0 a0_1 a0_2 a0_3 t120 t121 t122 t123 t126 t127 t128 t129)) = some r := H
        have A20 := Aside0.mk A200
        clear A200
        have HC21 := Aside0.mk H
        clear H
        have hcz22_0 : wc.cell? ⟨gb107, 0, none⟩ = some (.string a0_0) := (blk_cell BK107.out 0).trans rfl
        have hcz22_1 : wc.cell? ⟨gb107, 1, none⟩ = some (.string a0_1) := (blk_cell BK107.out 1).trans rfl
        have hcz22_2 : wc.cell? ⟨gb107, 2, none⟩ = some (.int .i64 a0_2) := (blk_cell BK107.out 2).trans rfl
        have hcz22_3 : wc.cell? ⟨gb107, 3, none⟩ = some (.bool a0_3) := (blk_cell BK107.out 3).trans rfl
        have hfz22_0 := blk_frozen BK107.out 0
        have hfz22_1 := blk_frozen BK107.out 1
        have hfz22_2 := blk_frozen BK107.out 2
        have hfz22_3 := blk_frozen BK107.out 3
        go_upto_region 6 with (first | ((with_reducible refine gate_callee (f := 9) rfl ?_); refine goesL_ (some 32) rfl rfl Try.func9 (by kernel_rfl) rfl #[.agg #[.string a0_0, .string a0_1, .int .i64 a0_2, .bool a0_3], .int .i64 a2] rfl (by (try simp only [List.map_toArray, List.map_cons, List.map_nil]); first | done | rfl | (simp only [List.length_drop, List.length_take]; rfl)) ?_; (with_reducible refine (disk_Arm.calls a0_0 a0_1 a0_2 a0_3 a2 t110 t111 t112 t113 _ A17.out).mono ?_); rintro e w23 ⟨rfl, hb⟩; refine ⟨_, rfl, ?_⟩; have n0_ := Aside0.mk (blk_below (g := gb107) (o := .cells #[.string a0_0, .string a0_1, .int .i64 a0_2, .bool a0_3] 23 (0, 0)) (by (with_reducible repeat (first | refine blk_drewN ?_ _ | refine blk_drew ?_ | refine blk_alloc ?_ _)); exact BK107.out) hb); have n1_ := Aside0.mk (below_step (by repeat (first | (with_reducible first | exact HB.out | apply below_alloc | apply pw_below_drewN | apply below_drew1 | refine below_set ?_ GE107.out) | exact HB.out)) hb); clear BK107; clear HB; have BK107 := n0_; have HB := n1_; clear n0_ n1_; (try clear hb); (try clear hb2); (try clear hk); (try clear hi)) | ((with_reducible refine gate_callee (f := 8) rfl ?_); refine goesL_ (some 34) rfl rfl Try.func8 (by kernel_rfl) rfl #[.agg #[.string t110, .string t111, .int .i64 t112, .bool t113], .string a1] rfl (by (try simp only [List.map_toArray, List.map_cons, List.map_nil]); first | done | rfl | (simp only [List.length_drop, List.length_take]; rfl)) ?_; (with_reducible refine (disk_Write.calls t110 t111 t112 t113 a1 t114 t115 t116 t117 t118 _ A18.out).mono ?_); rintro e w24 ⟨rfl, hb⟩; refine ⟨_, rfl, ?_⟩; have n0_ := Aside0.mk (blk_below (g := gb107) (o := .cells #[.string a0_0, .string a0_1, .int .i64 a0_2, .bool a0_3] 23 (0, 0)) (by (with_reducible repeat (first | refine blk_drewN ?_ _ | refine blk_drew ?_ | refine blk_alloc ?_ _)); exact BK107.out) hb); have n1_ := Aside0.mk (below_step (by repeat (first | (with_reducible first | exact HB.out | apply below_alloc | apply pw_below_drewN | apply below_drew1 | refine below_set ?_ GE107.out) | exact HB.out)) hb); clear BK107; clear HB; have BK107 := n0_; have HB := n1_; clear n0_ n1_; (try clear hb); (try clear hb2); (try clear hk); (try clear hi)) | ((with_reducible refine gate_dst (N := 9) rfl ?_); (try (refine gate_guard (by rfl) ?_; dsimp only)); refine box_event ?hg (N := 9) ?hd (cs := #[.string (⟨#[]⟩ : ByteArray), .string (⟨#[]⟩ : ByteArray), .int .i64 0, .bool false]) (t := 23) ?hr ?_; (case hd => rfl); (case hg => rfl); (case hr => first | (go_simp; done) | (go_simp; rfl)); intro gb119 hg w25 hbox hb; have n0_ := Aside0.mk (blk_below (g := gb107) (o := .cells #[.string a0_0, .string a0_1, .int .i64 a0_2, .bool a0_3] 23 (0, 0)) (by (with_reducible repeat (first | refine blk_drewN ?_ _ | refine blk_drew ?_ | refine blk_alloc ?_ _)); exact BK107.out) hb); have n1_ := Aside0.mk (below_step (by repeat (first | (with_reducible first | exact HB.out | apply below_alloc | apply pw_below_drewN | apply below_drew1 | refine below_set ?_ GE107.out) | exact HB.out)) hb); have n2_ := Aside0.mk (hbox); have n3_ := Aside0.mk ((by rw [hg]; exact (below_size (by repeat (first | (with_reducible first | exact HB.out | apply below_alloc | apply pw_below_drewN | apply below_drew1 | refine below_set ?_ GE107.out) | exact HB.out))) : w.heap.size ≤ gb119)); have n4_ := Aside0.mk ((by rw [hg]; exact (below_size (by repeat (first | (with_reducible first | exact HB.out | apply below_alloc | apply pw_below_drewN | apply below_drew1 | refine below_set ?_ GE107.out) | exact HB.out))) : w.heap.size ≤ gb119)); have n5_ := Aside0.mk ((by rw [hg]; exact Nat.ne_of_lt (blk_lt (g := gb107) (o := .cells #[.string a0_0, .string a0_1, .int .i64 a0_2, .bool a0_3] 23 (0, 0)) (by (with_reducible repeat (first | refine blk_drewN ?_ _ | refine blk_drew ?_ | refine blk_alloc ?_ _)); exact BK107.out)) : gb107 ≠ gb119)); have n6_ := Aside0.mk ((by rw [hg]; exact Nat.ne_of_gt (blk_lt (g := gb107) (o := .cells #[.string a0_0, .string a0_1, .int .i64 a0_2, .bool a0_3] 23 (0, 0)) (by (with_reducible repeat (first | refine blk_drewN ?_ _ | refine blk_drew ?_ | refine blk_alloc ?_ _)); exact BK107.out)) : gb119 ≠ gb107)); clear BK107; clear HB; have BK107 := n0_; have HB := n1_; have BK119 := n2_; have GW119 := n3_; have GE119 := n4_; have NB107_119 := n5_; have NB119_107 := n6_; clear n0_ n1_ n2_ n3_ n4_ n5_ n6_; clear hb hbox hg; have hnb26 := NB119_107.out; have hnc26 := NB107_119.out; have hcz27_0 : w25.cell? ⟨gb119, 0, none⟩ = some (.string (⟨#[]⟩ : ByteArray)) := (blk_cell BK119.out 0).trans rfl; have hcz27_1 : w25.cell? ⟨gb119, 1, none⟩ = some (.string (⟨#[]⟩ : ByteArray)) := (blk_cell BK119.out 1).trans rfl; have hcz27_2 : w25.cell? ⟨gb119, 2, none⟩ = some (.int .i64 0) := (blk_cell BK119.out 2).trans rfl; have hcz27_3 : w25.cell? ⟨gb119, 3, none⟩ = some (.bool false) := (blk_cell BK119.out 3).trans rfl; have hfz27_0 := blk_frozen BK119.out 0; have hfz27_1 := blk_frozen BK119.out 1; have hfz27_2 := blk_frozen BK119.out 2; have hfz27_3 := blk_frozen BK119.out 3) | ((with_reducible refine gate_callee (f := 10) rfl ?_); refine goesL_ (some 39) rfl rfl Try.func10 (by kernel_rfl) rfl #[.agg #[.string t114, .string t115, .int .i64 t116, .bool t117]] rfl (by (try simp only [List.map_toArray, List.map_cons, List.map_nil]); first | done | rfl | (simp only [List.length_drop, List.length_take]; rfl)) ?_; (with_reducible refine (disk_Sync.calls t114 t115 t116 t117 t120 t121 t122 t123 t124 _ A19.out).mono ?_); rintro e w28 ⟨rfl, hb⟩; refine ⟨_, rfl, ?_⟩; have n0_ := Aside0.mk (blk_below (g := gb107) (o := .cells #[.string a0_0, .string a0_1, .int .i64 a0_2, .bool a0_3] 23 (0, 0)) (by (with_reducible repeat (first | refine blk_drewN ?_ _ | refine blk_drew ?_ | refine blk_alloc ?_ _)); refine blk_far ?_ NB107_119.out _; (with_reducible repeat (first | refine blk_drewN ?_ _ | refine blk_drew ?_ | refine blk_alloc ?_ _)); refine blk_far ?_ NB107_119.out _; (with_reducible repeat (first | refine blk_drewN ?_ _ | refine blk_drew ?_ | refine blk_alloc ?_ _)); refine blk_far ?_ NB107_119.out _; (with_reducible repeat (first | refine blk_drewN ?_ _ | refine blk_drew ?_ | refine blk_alloc ?_ _)); refine blk_far ?_ NB107_119.out _; (with_reducible repeat (first | refine blk_drewN ?_ _ | refine blk_drew ?_ | refine blk_alloc ?_ _)); exact BK107.out) hb); have n1_ := Aside0.mk (blk_below (g := gb119) (o := .cells #[.string t114, .string t115, .int .i64 t116, .bool t117] 23 (0, 0)) (by (with_reducible repeat (first | refine blk_drewN ?_ _ | refine blk_drew ?_ | refine blk_alloc ?_ _)); refine blk_put (cs := #[.string t114, .string t115, .int .i64 t116, .bool false]) ?_ 3 _ rfl; (with_reducible repeat (first | refine blk_drewN ?_ _ | refine blk_drew ?_ | refine blk_alloc ?_ _)); refine blk_put (cs := #[.string t114, .string t115, .int .i64 0, .bool false]) ?_ 2 _ rfl; (with_reducible repeat (first | refine blk_drewN ?_ _ | refine blk_drew ?_ | refine blk_alloc ?_ _)); refine blk_put (cs := #[.string t114, .string (⟨#[]⟩ : ByteArray), .int .i64 0, .bool false]) ?_ 1 _ rfl; (with_reducible repeat (first | refine blk_drewN ?_ _ | refine blk_drew ?_ | refine blk_alloc ?_ _)); refine blk_put (cs := #[.string (⟨#[]⟩ : ByteArray), .string (⟨#[]⟩ : ByteArray), .int .i64 0, .bool false]) ?_ 0 _ rfl; (with_reducible repeat (first | refine blk_drewN ?_ _ | refine blk_drew ?_ | refine blk_alloc ?_ _)); exact BK119.out) hb); have n2_ := Aside0.mk (below_step (by repeat (first | (with_reducible first | exact HB.out | apply below_alloc | apply pw_below_drewN | apply below_drew1 | refine below_set ?_ GE107.out | refine below_set ?_ GE119.out) | exact HB.out)) hb); clear BK107; clear BK119; clear HB; have BK107 := n0_; have BK119 := n1_; have HB := n2_; clear n0_ n1_ n2_; (try clear hb); (try clear hb2); (try clear hk); (try clear hi)) | ((with_reducible refine gate_dst (N := 11) rfl ?_); (try (refine gate_guard (by rfl) ?_; dsimp only)); refine box_event ?hg (N := 11) ?hd (cs := #[.string (⟨#[]⟩ : ByteArray), .string (⟨#[]⟩ : ByteArray), .int .i64 0, .bool false]) (t := 23) ?hr ?_; (case hd => rfl); (case hg => rfl); (case hr => first | (go_simp; done) | (go_simp; rfl)); intro gb125 hg w29 hbox hb; have n0_ := Aside0.mk (blk_below (g := gb107) (o := .cells #[.string a0_0, .string a0_1, .int .i64 a0_2, .bool a0_3] 23 (0, 0)) (by (with_reducible repeat (first | refine blk_drewN ?_ _ | refine blk_drew ?_ | refine blk_alloc ?_ _)); exact BK107.out) hb); have n1_ := Aside0.mk (blk_below (g := gb119) (o := .cells #[.string t114, .string t115, .int .i64 t116, .bool t117] 23 (0, 0)) (by (with_reducible repeat (first | refine blk_drewN ?_ _ | refine blk_drew ?_ | refine blk_alloc ?_ _)); exact BK119.out) hb); have n2_ := Aside0.mk (below_step (by repeat (first | (with_reducible first | exact HB.out | apply below_alloc | apply pw_below_drewN | apply below_drew1 | refine below_set ?_ GE107.out | refine below_set ?_ GE119.out) | exact HB.out)) hb); have n3_ := Aside0.mk (hbox); have n4_ := Aside0.mk ((by rw [hg]; exact (below_size (by repeat (first | (with_reducible first | exact HB.out | apply below_alloc | apply pw_below_drewN | apply below_drew1 | refine below_set ?_ GE107.out | refine below_set ?_ GE119.out) | exact HB.out))) : w.heap.size ≤ gb125)); have n5_ := Aside0.mk ((by rw [hg]; exact (below_size (by repeat (first | (with_reducible first | exact HB.out | apply below_alloc | apply pw_below_drewN | apply below_drew1 | refine below_set ?_ GE107.out | refine below_set ?_ GE119.out) | exact HB.out))) : w.heap.size ≤ gb125)); have n6_ := Aside0.mk ((by rw [hg]; exact Nat.ne_of_lt (blk_lt (g := gb107) (o := .cells #[.string a0_0, .string a0_1, .int .i64 a0_2, .bool a0_3] 23 (0, 0)) (by (with_reducible repeat (first | refine blk_drewN ?_ _ | refine blk_drew ?_ | refine blk_alloc ?_ _)); exact BK107.out)) : gb107 ≠ gb125)); have n7_ := Aside0.mk ((by rw [hg]; exact Nat.ne_of_gt (blk_lt (g := gb107) (o := .cells #[.string a0_0, .string a0_1, .int .i64 a0_2, .bool a0_3] 23 (0, 0)) (by (with_reducible repeat (first | refine blk_drewN ?_ _ | refine blk_drew ?_ | refine blk_alloc ?_ _)); exact BK107.out)) : gb125 ≠ gb107)); have n8_ := Aside0.mk ((by rw [hg]; exact Nat.ne_of_lt (blk_lt (g := gb119) (o := .cells #[.string t114, .string t115, .int .i64 t116, .bool t117] 23 (0, 0)) (by (with_reducible repeat (first | refine blk_drewN ?_ _ | refine blk_drew ?_ | refine blk_alloc ?_ _)); exact BK119.out)) : gb119 ≠ gb125)); have n9_ := Aside0.mk ((by rw [hg]; exact Nat.ne_of_gt (blk_lt (g := gb119) (o := .cells #[.string t114, .string t115, .int .i64 t116, .bool t117] 23 (0, 0)) (by (with_reducible repeat (first | refine blk_drewN ?_ _ | refine blk_drew ?_ | refine blk_alloc ?_ _)); exact BK119.out)) : gb125 ≠ gb119)); clear BK107; clear BK119; clear HB; have BK107 := n0_; have BK119 := n1_; have HB := n2_; have BK125 := n3_; have GW125 := n4_; have GE125 := n5_; have NB107_125 := n6_; have NB125_107 := n7_; have NB119_125 := n8_; have NB125_119 := n9_; clear n0_ n1_ n2_ n3_ n4_ n5_ n6_ n7_ n8_ n9_; clear hb hbox hg; have hnb30 := NB125_107.out; have hnc30 := NB107_125.out; have hnb31 := NB125_119.out; have hnc31 := NB119_125.out; have hcz32_0 : w29.cell? ⟨gb125, 0, none⟩ = some (.string (⟨#[]⟩ : ByteArray)) := (blk_cell BK125.out 0).trans rfl; have hcz32_1 : w29.cell? ⟨gb125, 1, none⟩ = some (.string (⟨#[]⟩ : ByteArray)) := (blk_cell BK125.out 1).trans rfl; have hcz32_2 : w29.cell? ⟨gb125, 2, none⟩ = some (.int .i64 0) := (blk_cell BK125.out 2).trans rfl; have hcz32_3 : w29.cell? ⟨gb125, 3, none⟩ = some (.bool false) := (blk_cell BK125.out 3).trans rfl; have hfz32_0 := blk_frozen BK125.out 0; have hfz32_1 := blk_frozen BK125.out 1; have hfz32_2 := blk_frozen BK125.out 2; have hfz32_3 := blk_frozen BK125.out 3; have hcz33_0 : w29.cell? ⟨gb119, 0, none⟩ = some (.string t114) := (blk_cell BK119.out 0).trans rfl; have hcz33_1 : w29.cell? ⟨gb119, 1, none⟩ = some (.string t115) := (blk_cell BK119.out 1).trans rfl; have hcz33_2 : w29.cell? ⟨gb119, 2, none⟩ = some (.int .i64 t116) := (blk_cell BK119.out 2).trans rfl; have hcz33_3 : w29.cell? ⟨gb119, 3, none⟩ = some (.bool t117) := (blk_cell BK119.out 3).trans rfl; have hfz33_0 := blk_frozen BK119.out 0; have hfz33_1 := blk_frozen BK119.out 1; have hfz33_2 := blk_frozen BK119.out 2; have hfz33_3 := blk_frozen BK119.out 3) | ((with_reducible refine gate_callee (f := 11) rfl ?_); refine goesL_ (some 44) rfl rfl Try.func11 (by kernel_rfl) rfl #[.agg #[.string t114, .string t115, .int .i64 t116, .bool t117], .int .i64 a3] rfl (by (try simp only [List.map_toArray, List.map_cons, List.map_nil]); first | done | rfl | (simp only [List.length_drop, List.length_take]; rfl)) ?_; (with_reducible refine (disk_Crash.calls t114 t115 t116 t117 a3 t126 t127 t128 t129 _ A20.out).mono ?_); rintro e w34 ⟨rfl, hb⟩; refine ⟨_, rfl, ?_⟩; have n0_ := Aside0.mk (blk_below (g := gb107) (o := .cells #[.string a0_0, .string a0_1, .int .i64 a0_2, .bool a0_3] 23 (0, 0)) (by (with_reducible repeat (first | refine blk_drewN ?_ _ | refine blk_drew ?_ | refine blk_alloc ?_ _)); refine blk_far ?_ NB107_125.out _; (with_reducible repeat (first | refine blk_drewN ?_ _ | refine blk_drew ?_ | refine blk_alloc ?_ _)); refine blk_far ?_ NB107_125.out _; (with_reducible repeat (first | refine blk_drewN ?_ _ | refine blk_drew ?_ | refine blk_alloc ?_ _)); refine blk_far ?_ NB107_125.out _; (with_reducible repeat (first | refine blk_drewN ?_ _ | refine blk_drew ?_ | refine blk_alloc ?_ _)); refine blk_far ?_ NB107_125.out _; (with_reducible repeat (first | refine blk_drewN ?_ _ | refine blk_drew ?_ | refine blk_alloc ?_ _)); exact BK107.out) hb); have n1_ := Aside0.mk (blk_below (g := gb119) (o := .cells #[.string t114, .string t115, .int .i64 t116, .bool t117] 23 (0, 0)) (by (with_reducible repeat (first | refine blk_drewN ?_ _ | refine blk_drew ?_ | refine blk_alloc ?_ _)); refine blk_far ?_ NB119_125.out _; (with_reducible repeat (first | refine blk_drewN ?_ _ | refine blk_drew ?_ | refine blk_alloc ?_ _)); refine blk_far ?_ NB119_125.out _; (with_reducible repeat (first | refine blk_drewN ?_ _ | refine blk_drew ?_ | refine blk_alloc ?_ _)); refine blk_far ?_ NB119_125.out _; (with_reducible repeat (first | refine blk_drewN ?_ _ | refine blk_drew ?_ | refine blk_alloc ?_ _)); refine blk_far ?_ NB119_125.out _; (with_reducible repeat (first | refine blk_drewN ?_ _ | refine blk_drew ?_ | refine blk_alloc ?_ _)); exact BK119.out) hb); have n2_ := Aside0.mk (blk_below (g := gb125) (o := .cells #[.string t120, .string t121, .int .i64 t122, .bool t123] 23 (0, 0)) (by (with_reducible repeat (first | refine blk_drewN ?_ _ | refine blk_drew ?_ | refine blk_alloc ?_ _)); refine blk_put (cs := #[.string t120, .string t121, .int .i64 t122, .bool false]) ?_ 3 _ rfl; (with_reducible repeat (first | refine blk_drewN ?_ _ | refine blk_drew ?_ | refine blk_alloc ?_ _)); refine blk_put (cs := #[.string t120, .string t121, .int .i64 0, .bool false]) ?_ 2 _ rfl; (with_reducible repeat (first | refine blk_drewN ?_ _ | refine blk_drew ?_ | refine blk_alloc ?_ _)); refine blk_put (cs := #[.string t120, .string (⟨#[]⟩ : ByteArray), .int .i64 0, .bool false]) ?_ 1 _ rfl; (with_reducible repeat (first | refine blk_drewN ?_ _ | refine blk_drew ?_ | refine blk_alloc ?_ _)); refine blk_put (cs := #[.string (⟨#[]⟩ : ByteArray), .string (⟨#[]⟩ : ByteArray), .int .i64 0, .bool false]) ?_ 0 _ rfl; (with_reducible repeat (first | refine blk_drewN ?_ _ | refine blk_drew ?_ | refine blk_alloc ?_ _)); exact BK125.out) hb); have n3_ := Aside0.mk (below_step (by repeat (first | (with_reducible first | exact HB.out | apply below_alloc | apply pw_below_drewN | apply below_drew1 | refine below_set ?_ GE107.out | refine below_set ?_ GE119.out | refine below_set ?_ GE125.out) | exact HB.out)) hb); clear BK107; clear BK119; clear BK125; clear HB; have BK107 := n0_; have BK119 := n1_; have BK125 := n2_; have HB := n3_; clear n0_ n1_ n2_ n3_; (try clear hb); (try clear hb2); (try clear hk); (try clear hi)) | ((with_reducible refine gate_dst (N := 13) rfl ?_); (try (refine gate_guard (by rfl) ?_; dsimp only)); refine box_event ?hg (N := 13) ?hd (cs := #[.string (⟨#[]⟩ : ByteArray), .string (⟨#[]⟩ : ByteArray), .int .i64 0, .bool false]) (t := 23) ?hr ?_; (case hd => rfl); (case hg => rfl); (case hr => first | (go_simp; done) | (go_simp; rfl)); intro gb130 hg w35 hbox hb; have n0_ := Aside0.mk (blk_below (g := gb107) (o := .cells #[.string a0_0, .string a0_1, .int .i64 a0_2, .bool a0_3] 23 (0, 0)) (by (with_reducible repeat (first | refine blk_drewN ?_ _ | refine blk_drew ?_ | refine blk_alloc ?_ _)); exact BK107.out) hb); have n1_ := Aside0.mk (blk_below (g := gb119) (o := .cells #[.string t114, .string t115, .int .i64 t116, .bool t117] 23 (0, 0)) (by (with_reducible repeat (first | refine blk_drewN ?_ _ | refine blk_drew ?_ | refine blk_alloc ?_ _)); exact BK119.out) hb); have n2_ := Aside0.mk (blk_below (g := gb125) (o := .cells #[.string t120, .string t121, .int .i64 t122, .bool t123] 23 (0, 0)) (by (with_reducible repeat (first | refine blk_drewN ?_ _ | refine blk_drew ?_ | refine blk_alloc ?_ _)); exact BK125.out) hb); have n3_ := Aside0.mk (below_step (by repeat (first | (with_reducible first | exact HB.out | apply below_alloc | apply pw_below_drewN | apply below_drew1 | refine below_set ?_ GE107.out | refine below_set ?_ GE119.out | refine below_set ?_ GE125.out) | exact HB.out)) hb); have n4_ := Aside0.mk (hbox); have n5_ := Aside0.mk ((by rw [hg]; exact (below_size (by repeat (first | (with_reducible first | exact HB.out | apply below_alloc | apply pw_below_drewN | apply below_drew1 | refine below_set ?_ GE107.out | refine below_set ?_ GE119.out | refine below_set ?_ GE125.out) | exact HB.out))) : w.heap.size ≤ gb130)); have n6_ := Aside0.mk ((by rw [hg]; exact (below_size (by repeat (first | (with_reducible first | exact HB.out | apply below_alloc | apply pw_below_drewN | apply below_drew1 | refine below_set ?_ GE107.out | refine below_set ?_ GE119.out | refine below_set ?_ GE125.out) | exact HB.out))) : w.heap.size ≤ gb130)); have n7_ := Aside0.mk ((by rw [hg]; exact Nat.ne_of_lt (blk_lt (g := gb107) (o := .cells #[.string a0_0, .string a0_1, .int .i64 a0_2, .bool a0_3] 23 (0, 0)) (by (with_reducible repeat (first | refine blk_drewN ?_ _ | refine blk_drew ?_ | refine blk_alloc ?_ _)); exact BK107.out)) : gb107 ≠ gb130)); have n8_ := Aside0.mk ((by rw [hg]; exact Nat.ne_of_gt (blk_lt (g := gb107) (o := .cells #[.string a0_0, .string a0_1, .int .i64 a0_2, .bool a0_3] 23 (0, 0)) (by (with_reducible repeat (first | refine blk_drewN ?_ _ | refine blk_drew ?_ | refine blk_alloc ?_ _)); exact BK107.out)) : gb130 ≠ gb107)); have n9_ := Aside0.mk ((by rw [hg]; exact Nat.ne_of_lt (blk_lt (g := gb119) (o := .cells #[.string t114, .string t115, .int .i64 t116, .bool t117] 23 (0, 0)) (by (with_reducible repeat (first | refine blk_drewN ?_ _ | refine blk_drew ?_ | refine blk_alloc ?_ _)); exact BK119.out)) : gb119 ≠ gb130)); have n10_ := Aside0.mk ((by rw [hg]; exact Nat.ne_of_gt (blk_lt (g := gb119) (o := .cells #[.string t114, .string t115, .int .i64 t116, .bool t117] 23 (0, 0)) (by (with_reducible repeat (first | refine blk_drewN ?_ _ | refine blk_drew ?_ | refine blk_alloc ?_ _)); exact BK119.out)) : gb130 ≠ gb119)); have n11_ := Aside0.mk ((by rw [hg]; exact Nat.ne_of_lt (blk_lt (g := gb125) (o := .cells #[.string t120, .string t121, .int .i64 t122, .bool t123] 23 (0, 0)) (by (with_reducible repeat (first | refine blk_drewN ?_ _ | refine blk_drew ?_ | refine blk_alloc ?_ _)); exact BK125.out)) : gb125 ≠ gb130)); have n12_ := Aside0.mk ((by rw [hg]; exact Nat.ne_of_gt (blk_lt (g := gb125) (o := .cells #[.string t120, .string t121, .int .i64 t122, .bool t123] 23 (0, 0)) (by (with_reducible repeat (first | refine blk_drewN ?_ _ | refine blk_drew ?_ | refine blk_alloc ?_ _)); exact BK125.out)) : gb130 ≠ gb125)); clear BK107; clear BK119; clear BK125; clear HB; have BK107 := n0_; have BK119 := n1_; have BK125 := n2_; have HB := n3_; have BK130 := n4_; have GW130 := n5_; have GE130 := n6_; have NB107_130 := n7_; have NB130_107 := n8_; have NB119_130 := n9_; have NB130_119 := n10_; have NB125_130 := n11_; have NB130_125 := n12_; clear n0_ n1_ n2_ n3_ n4_ n5_ n6_ n7_ n8_ n9_ n10_ n11_ n12_; clear hb hbox hg; have hnb36 := NB130_107.out; have hnc36 := NB107_130.out; have hnb37 := NB130_119.out; have hnc37 := NB119_130.out; have hnb38 := NB130_125.out; have hnc38 := NB125_130.out; have hcz39_0 : w35.cell? ⟨gb130, 0, none⟩ = some (.string (⟨#[]⟩ : ByteArray)) := (blk_cell BK130.out 0).trans rfl; have hcz39_1 : w35.cell? ⟨gb130, 1, none⟩ = some (.string (⟨#[]⟩ : ByteArray)) := (blk_cell BK130.out 1).trans rfl; have hcz39_2 : w35.cell? ⟨gb130, 2, none⟩ = some (.int .i64 0) := (blk_cell BK130.out 2).trans rfl; have hcz39_3 : w35.cell? ⟨gb130, 3, none⟩ = some (.bool false) := (blk_cell BK130.out 3).trans rfl; have hfz39_0 := blk_frozen BK130.out 0; have hfz39_1 := blk_frozen BK130.out 1; have hfz39_2 := blk_frozen BK130.out 2; have hfz39_3 := blk_frozen BK130.out 3))
        (try simp only [Act.put, List.setIfInBounds_toArray, List.set_cons_zero, List.set_cons_succ])
        go_cut [80] (fun v80 wc => ∃ (kq : Nat) (x80_20 : Bool), v80 = .bool x80_20 ∧ Aside0 (trucelaw22_DiskLasts.j1 kq a1 x80_20 a0_0 a0_1 a0_2 a0_3 t120 t121 t122 t123 t126 t127 t128 t129 = some r) ∧ Aside0 (kq ≤ kj4) ∧ Aside0 (wc.heap[gb107]? = some (.cells #[.string a0_0, .string a0_1, .int .i64 a0_2, .bool a0_3] 23 (0, 0))) ∧ Aside0 (wc.heap[gb119]? = some (.cells #[.string t114, .string t115, .int .i64 t116, .bool t117] 23 (0, 0))) ∧ Aside0 (wc.heap[gb125]? = some (.cells #[.string t120, .string t121, .int .i64 t122, .bool t123] 23 (0, 0))) ∧ Aside0 (wc.heap[gb130]? = some (.cells #[.string t126, .string t127, .int .i64 t128, .bool t129] 23 (0, 0))) ∧ Aside0 (Below w.heap.size w wc))
        case first =>
          have H := HC21.out
          clear HC21
          by_cases c40 : t114.toList = a0_0.toList
          · rw [if_pos c40] at H
            have c40b0 : (t114.toList == a0_0.toList) = true := beq_iff_eq.mpr c40
            have c40b1 : (t114.toList != a0_0.toList) = false := bne_eq_false_iff_eq.mpr c40
            clear c40
            (first | rw [c40b0] | (simp only [i64_w, i32_w]; rw [c40b0]) | skip)
            replace H := Option.bind_eq_some_iff.mp H
            obtain ⟨t131, A410, H⟩ := H
            replace H : (if t131 = true then (if a0_1.size + a1.size ≤ 9223372036854775807 then ((trucelaw22_begins.f (a0_1 ++ a1) t115).bind fun t132 => (if t132 = true then (if t118 = 0 then (trucelaw22_DiskLasts.j1 kj4 a1 (t115.toList != (a0_1 ++ a1).toList) a0_0 a0_1 a0_2 a0_3 t120 t121 t122 t123 t126 t127 t128 t129) else (trucelaw22_DiskLasts.j1 kj4 a1 false a0_0 a0_1 a0_2 a0_3 t120 t121 t122 t123 t126 t127 t128 t129)) else (trucelaw22_DiskLasts.j1 kj4 a1 true a0_0 a0_1 a0_2 a0_3 t120 t121 t122 t123 t126 t127 t128 t129))) else (none)) else (trucelaw22_DiskLasts.j1 kj4 a1 true a0_0 a0_1 a0_2 a0_3 t120 t121 t122 t123 t126 t127 t128 t129)) = some r := H
            have A41 := Aside0.mk A410
            clear A410
            by_cases c42 : t131 = true
            · subst c42
              have H1 : (if a0_1.size + a1.size ≤ 9223372036854775807 then ((trucelaw22_begins.f (a0_1 ++ a1) t115).bind fun t132 => (if t132 = true then (if t118 = 0 then (trucelaw22_DiskLasts.j1 kj4 a1 (t115.toList != (a0_1 ++ a1).toList) a0_0 a0_1 a0_2 a0_3 t120 t121 t122 t123 t126 t127 t128 t129) else (trucelaw22_DiskLasts.j1 kj4 a1 false a0_0 a0_1 a0_2 a0_3 t120 t121 t122 t123 t126 t127 t128 t129)) else (trucelaw22_DiskLasts.j1 kj4 a1 true a0_0 a0_1 a0_2 a0_3 t120 t121 t122 t123 t126 t127 t128 t129))) else (none)) = some r := by rw [if_pos rfl] at H; exact H
              clear H
              have H := H1
              clear H1
              by_cases c43 : a0_1.size + a1.size ≤ 9223372036854775807
              · rw [if_pos c43] at H
                have c43b0 := eq_true c43
                have c43b1 : decide (a0_1.size + a1.size ≤ 9223372036854775807) = true := decide_eq_true c43
                try have c43b2 : (9223372036854775807 < a0_1.size + a1.size) = False := eq_false (Nat.not_lt.2 c43)
                replace H := Option.bind_eq_some_iff.mp H
                obtain ⟨t132, A440, H⟩ := H
                replace H : (if t132 = true then (if t118 = 0 then (trucelaw22_DiskLasts.j1 kj4 a1 (t115.toList != (a0_1 ++ a1).toList) a0_0 a0_1 a0_2 a0_3 t120 t121 t122 t123 t126 t127 t128 t129) else (trucelaw22_DiskLasts.j1 kj4 a1 false a0_0 a0_1 a0_2 a0_3 t120 t121 t122 t123 t126 t127 t128 t129)) else (trucelaw22_DiskLasts.j1 kj4 a1 true a0_0 a0_1 a0_2 a0_3 t120 t121 t122 t123 t126 t127 t128 t129)) = some r := H
                have A44 := Aside0.mk A440
                clear A440
                by_cases c45 : t132 = true
                · subst c45
                  have H1 : (if t118 = 0 then (trucelaw22_DiskLasts.j1 kj4 a1 (t115.toList != (a0_1 ++ a1).toList) a0_0 a0_1 a0_2 a0_3 t120 t121 t122 t123 t126 t127 t128 t129) else (trucelaw22_DiskLasts.j1 kj4 a1 false a0_0 a0_1 a0_2 a0_3 t120 t121 t122 t123 t126 t127 t128 t129)) = some r := by rw [if_pos rfl] at H; exact H
                  clear H
                  have H := H1
                  clear H1
                  by_cases c46 : t118 = 0
                  · rw [if_pos c46] at H
                    have c46b0 : (t118 == 0) = true := beq_iff_eq.mpr c46
                    have c46b1 : (t118 != 0) = false := bne_eq_false_iff_eq.mpr c46
                    clear c46
                    have H' := Aside0.mk H
                    clear H
                    have hnb47 := NB119_107.out
                    have hnc47 := NB107_119.out
                    have hnb48 := NB119_125.out
                    have hnc48 := NB125_119.out
                    have hnb49 := NB119_130.out
                    have hnc49 := NB130_119.out
                    have hcz50_0 : w35.cell? ⟨gb119, 0, none⟩ = some (.string t114) := (blk_cell BK119.out 0).trans rfl
                    have hcz50_1 : w35.cell? ⟨gb119, 1, none⟩ = some (.string t115) := (blk_cell BK119.out 1).trans rfl
                    have hcz50_2 : w35.cell? ⟨gb119, 2, none⟩ = some (.int .i64 t116) := (blk_cell BK119.out 2).trans rfl
                    have hcz50_3 : w35.cell? ⟨gb119, 3, none⟩ = some (.bool t117) := (blk_cell BK119.out 3).trans rfl
                    have hfz50_0 := blk_frozen BK119.out 0
                    have hfz50_1 := blk_frozen BK119.out 1
                    have hfz50_2 := blk_frozen BK119.out 2
                    have hfz50_3 := blk_frozen BK119.out 3
                    have hnb51 := NB107_125.out
                    have hnc51 := NB125_107.out
                    have hnb52 := NB107_130.out
                    have hnc52 := NB130_107.out
                    have hcz53_0 : w35.cell? ⟨gb107, 0, none⟩ = some (.string a0_0) := (blk_cell BK107.out 0).trans rfl
                    have hcz53_1 : w35.cell? ⟨gb107, 1, none⟩ = some (.string a0_1) := (blk_cell BK107.out 1).trans rfl
                    have hcz53_2 : w35.cell? ⟨gb107, 2, none⟩ = some (.int .i64 a0_2) := (blk_cell BK107.out 2).trans rfl
                    have hcz53_3 : w35.cell? ⟨gb107, 3, none⟩ = some (.bool a0_3) := (blk_cell BK107.out 3).trans rfl
                    have hfz53_0 := blk_frozen BK107.out 0
                    have hfz53_1 := blk_frozen BK107.out 1
                    have hfz53_2 := blk_frozen BK107.out 2
                    have hfz53_3 := blk_frozen BK107.out 3
                    go_wp2_with (first | (go_at_call 12; (with_reducible refine (trucelaw22_begins.calls t115 a0_1 true _ A41.out).mono ?_); rintro e w' ⟨rfl, ⟨nd, rfl⟩⟩) | (go_at_call 12; (with_reducible refine (trucelaw22_begins.calls (a0_1 ++ a1) t115 true _ A44.out).mono ?_); rintro e w' ⟨rfl, ⟨nd, rfl⟩⟩))
                    go_meet
                    case rel => exact ⟨_, ((t115.toList != (a0_1 ++ a1).toList)), (by first | rfl | (simp; done) | (simp [*]; done)), H', ⟨by have := HJ4.out; first | omega | exact Nat.le_refl _⟩, ⟨by (with_reducible repeat (first | refine blk_drewN ?_ _ | refine blk_drew ?_ | refine blk_alloc ?_ _)); refine blk_far ?_ NB107_130.out _; (with_reducible repeat (first | refine blk_drewN ?_ _ | refine blk_drew ?_ | refine blk_alloc ?_ _)); refine blk_far ?_ NB107_130.out _; (with_reducible repeat (first | refine blk_drewN ?_ _ | refine blk_drew ?_ | refine blk_alloc ?_ _)); refine blk_far ?_ NB107_130.out _; (with_reducible repeat (first | refine blk_drewN ?_ _ | refine blk_drew ?_ | refine blk_alloc ?_ _)); refine blk_far ?_ NB107_130.out _; (with_reducible repeat (first | refine blk_drewN ?_ _ | refine blk_drew ?_ | refine blk_alloc ?_ _)); exact BK107.out⟩, ⟨by (with_reducible repeat (first | refine blk_drewN ?_ _ | refine blk_drew ?_ | refine blk_alloc ?_ _)); refine blk_far ?_ NB119_130.out _; (with_reducible repeat (first | refine blk_drewN ?_ _ | refine blk_drew ?_ | refine blk_alloc ?_ _)); refine blk_far ?_ NB119_130.out _; (with_reducible repeat (first | refine blk_drewN ?_ _ | refine blk_drew ?_ | refine blk_alloc ?_ _)); refine blk_far ?_ NB119_130.out _; (with_reducible repeat (first | refine blk_drewN ?_ _ | refine blk_drew ?_ | refine blk_alloc ?_ _)); refine blk_far ?_ NB119_130.out _; (with_reducible repeat (first | refine blk_drewN ?_ _ | refine blk_drew ?_ | refine blk_alloc ?_ _)); exact BK119.out⟩, ⟨by (with_reducible repeat (first | refine blk_drewN ?_ _ | refine blk_drew ?_ | refine blk_alloc ?_ _)); refine blk_far ?_ NB125_130.out _; (with_reducible repeat (first | refine blk_drewN ?_ _ | refine blk_drew ?_ | refine blk_alloc ?_ _)); refine blk_far ?_ NB125_130.out _; (with_reducible repeat (first | refine blk_drewN ?_ _ | refine blk_drew ?_ | refine blk_alloc ?_ _)); refine blk_far ?_ NB125_130.out _; (with_reducible repeat (first | refine blk_drewN ?_ _ | refine blk_drew ?_ | refine blk_alloc ?_ _)); refine blk_far ?_ NB125_130.out _; (with_reducible repeat (first | refine blk_drewN ?_ _ | refine blk_drew ?_ | refine blk_alloc ?_ _)); exact BK125.out⟩, ⟨by (with_reducible repeat (first | refine blk_drewN ?_ _ | refine blk_drew ?_ | refine blk_alloc ?_ _)); refine blk_put (cs := #[.string t126, .string t127, .int .i64 t128, .bool false]) ?_ 3 _ rfl; (with_reducible repeat (first | refine blk_drewN ?_ _ | refine blk_drew ?_ | refine blk_alloc ?_ _)); refine blk_put (cs := #[.string t126, .string t127, .int .i64 0, .bool false]) ?_ 2 _ rfl; (with_reducible repeat (first | refine blk_drewN ?_ _ | refine blk_drew ?_ | refine blk_alloc ?_ _)); refine blk_put (cs := #[.string t126, .string (⟨#[]⟩ : ByteArray), .int .i64 0, .bool false]) ?_ 1 _ rfl; (with_reducible repeat (first | refine blk_drewN ?_ _ | refine blk_drew ?_ | refine blk_alloc ?_ _)); refine blk_put (cs := #[.string (⟨#[]⟩ : ByteArray), .string (⟨#[]⟩ : ByteArray), .int .i64 0, .bool false]) ?_ 0 _ rfl; (with_reducible repeat (first | refine blk_drewN ?_ _ | refine blk_drew ?_ | refine blk_alloc ?_ _)); exact BK130.out⟩, ⟨by repeat (first | (with_reducible first | exact HB.out | apply below_alloc | apply pw_below_drewN | apply below_drew1 | refine below_set ?_ GE107.out | refine below_set ?_ GE119.out | refine below_set ?_ GE125.out | refine below_set ?_ GE130.out) | exact HB.out)⟩⟩
                  · rw [if_neg c46] at H
                    have c46b0 : (t118 == 0) = false := beq_eq_false_iff_ne.mpr c46
                    have c46b1 : (t118 != 0) = true := bne_iff_ne.mpr c46
                    have H' := Aside0.mk H
                    clear H
                    have hnb54 := NB119_107.out
                    have hnc54 := NB107_119.out
                    have hnb55 := NB119_125.out
                    have hnc55 := NB125_119.out
                    have hnb56 := NB119_130.out
                    have hnc56 := NB130_119.out
                    have hcz57_0 : w35.cell? ⟨gb119, 0, none⟩ = some (.string t114) := (blk_cell BK119.out 0).trans rfl
                    have hcz57_1 : w35.cell? ⟨gb119, 1, none⟩ = some (.string t115) := (blk_cell BK119.out 1).trans rfl
                    have hcz57_2 : w35.cell? ⟨gb119, 2, none⟩ = some (.int .i64 t116) := (blk_cell BK119.out 2).trans rfl
                    have hcz57_3 : w35.cell? ⟨gb119, 3, none⟩ = some (.bool t117) := (blk_cell BK119.out 3).trans rfl
                    have hfz57_0 := blk_frozen BK119.out 0
                    have hfz57_1 := blk_frozen BK119.out 1
                    have hfz57_2 := blk_frozen BK119.out 2
                    have hfz57_3 := blk_frozen BK119.out 3
                    have hnb58 := NB107_125.out
                    have hnc58 := NB125_107.out
                    have hnb59 := NB107_130.out
                    have hnc59 := NB130_107.out
                    have hcz60_0 : w35.cell? ⟨gb107, 0, none⟩ = some (.string a0_0) := (blk_cell BK107.out 0).trans rfl
                    have hcz60_1 : w35.cell? ⟨gb107, 1, none⟩ = some (.string a0_1) := (blk_cell BK107.out 1).trans rfl
                    have hcz60_2 : w35.cell? ⟨gb107, 2, none⟩ = some (.int .i64 a0_2) := (blk_cell BK107.out 2).trans rfl
                    have hcz60_3 : w35.cell? ⟨gb107, 3, none⟩ = some (.bool a0_3) := (blk_cell BK107.out 3).trans rfl
                    have hfz60_0 := blk_frozen BK107.out 0
                    have hfz60_1 := blk_frozen BK107.out 1
                    have hfz60_2 := blk_frozen BK107.out 2
                    have hfz60_3 := blk_frozen BK107.out 3
                    go_wp2_with (first | (go_at_call 12; (with_reducible refine (trucelaw22_begins.calls t115 a0_1 true _ A41.out).mono ?_); rintro e w' ⟨rfl, ⟨nd, rfl⟩⟩) | (go_at_call 12; (with_reducible refine (trucelaw22_begins.calls (a0_1 ++ a1) t115 true _ A44.out).mono ?_); rintro e w' ⟨rfl, ⟨nd, rfl⟩⟩))
                    go_meet
                    case rel => exact ⟨_, (false), (by first | rfl | (simp; done) | (simp [*]; done)), H', ⟨by have := HJ4.out; first | omega | exact Nat.le_refl _⟩, ⟨by (with_reducible repeat (first | refine blk_drewN ?_ _ | refine blk_drew ?_ | refine blk_alloc ?_ _)); refine blk_far ?_ NB107_130.out _; (with_reducible repeat (first | refine blk_drewN ?_ _ | refine blk_drew ?_ | refine blk_alloc ?_ _)); refine blk_far ?_ NB107_130.out _; (with_reducible repeat (first | refine blk_drewN ?_ _ | refine blk_drew ?_ | refine blk_alloc ?_ _)); refine blk_far ?_ NB107_130.out _; (with_reducible repeat (first | refine blk_drewN ?_ _ | refine blk_drew ?_ | refine blk_alloc ?_ _)); refine blk_far ?_ NB107_130.out _; (with_reducible repeat (first | refine blk_drewN ?_ _ | refine blk_drew ?_ | refine blk_alloc ?_ _)); exact BK107.out⟩, ⟨by (with_reducible repeat (first | refine blk_drewN ?_ _ | refine blk_drew ?_ | refine blk_alloc ?_ _)); refine blk_far ?_ NB119_130.out _; (with_reducible repeat (first | refine blk_drewN ?_ _ | refine blk_drew ?_ | refine blk_alloc ?_ _)); refine blk_far ?_ NB119_130.out _; (with_reducible repeat (first | refine blk_drewN ?_ _ | refine blk_drew ?_ | refine blk_alloc ?_ _)); refine blk_far ?_ NB119_130.out _; (with_reducible repeat (first | refine blk_drewN ?_ _ | refine blk_drew ?_ | refine blk_alloc ?_ _)); refine blk_far ?_ NB119_130.out _; (with_reducible repeat (first | refine blk_drewN ?_ _ | refine blk_drew ?_ | refine blk_alloc ?_ _)); exact BK119.out⟩, ⟨by (with_reducible repeat (first | refine blk_drewN ?_ _ | refine blk_drew ?_ | refine blk_alloc ?_ _)); refine blk_far ?_ NB125_130.out _; (with_reducible repeat (first | refine blk_drewN ?_ _ | refine blk_drew ?_ | refine blk_alloc ?_ _)); refine blk_far ?_ NB125_130.out _; (with_reducible repeat (first | refine blk_drewN ?_ _ | refine blk_drew ?_ | refine blk_alloc ?_ _)); refine blk_far ?_ NB125_130.out _; (with_reducible repeat (first | refine blk_drewN ?_ _ | refine blk_drew ?_ | refine blk_alloc ?_ _)); refine blk_far ?_ NB125_130.out _; (with_reducible repeat (first | refine blk_drewN ?_ _ | refine blk_drew ?_ | refine blk_alloc ?_ _)); exact BK125.out⟩, ⟨by (with_reducible repeat (first | refine blk_drewN ?_ _ | refine blk_drew ?_ | refine blk_alloc ?_ _)); refine blk_put (cs := #[.string t126, .string t127, .int .i64 t128, .bool false]) ?_ 3 _ rfl; (with_reducible repeat (first | refine blk_drewN ?_ _ | refine blk_drew ?_ | refine blk_alloc ?_ _)); refine blk_put (cs := #[.string t126, .string t127, .int .i64 0, .bool false]) ?_ 2 _ rfl; (with_reducible repeat (first | refine blk_drewN ?_ _ | refine blk_drew ?_ | refine blk_alloc ?_ _)); refine blk_put (cs := #[.string t126, .string (⟨#[]⟩ : ByteArray), .int .i64 0, .bool false]) ?_ 1 _ rfl; (with_reducible repeat (first | refine blk_drewN ?_ _ | refine blk_drew ?_ | refine blk_alloc ?_ _)); refine blk_put (cs := #[.string (⟨#[]⟩ : ByteArray), .string (⟨#[]⟩ : ByteArray), .int .i64 0, .bool false]) ?_ 0 _ rfl; (with_reducible repeat (first | refine blk_drewN ?_ _ | refine blk_drew ?_ | refine blk_alloc ?_ _)); exact BK130.out⟩, ⟨by repeat (first | (with_reducible first | exact HB.out | apply below_alloc | apply pw_below_drewN | apply below_drew1 | refine below_set ?_ GE107.out | refine below_set ?_ GE119.out | refine below_set ?_ GE125.out | refine below_set ?_ GE130.out) | exact HB.out)⟩⟩
                · replace c45 := Bool.eq_false_iff.mpr c45
                  subst c45
                  have H1 : (trucelaw22_DiskLasts.j1 kj4 a1 true a0_0 a0_1 a0_2 a0_3 t120 t121 t122 t123 t126 t127 t128 t129) = some r := by rw [if_neg (show ¬ (false = true) by decide)] at H; exact H
                  clear H
                  have H := H1
                  clear H1
                  have H' := Aside0.mk H
                  clear H
                  have hnb61 := NB119_107.out
                  have hnc61 := NB107_119.out
                  have hnb62 := NB119_125.out
                  have hnc62 := NB125_119.out
                  have hnb63 := NB119_130.out
                  have hnc63 := NB130_119.out
                  have hcz64_0 : w35.cell? ⟨gb119, 0, none⟩ = some (.string t114) := (blk_cell BK119.out 0).trans rfl
                  have hcz64_1 : w35.cell? ⟨gb119, 1, none⟩ = some (.string t115) := (blk_cell BK119.out 1).trans rfl
                  have hcz64_2 : w35.cell? ⟨gb119, 2, none⟩ = some (.int .i64 t116) := (blk_cell BK119.out 2).trans rfl
                  have hcz64_3 : w35.cell? ⟨gb119, 3, none⟩ = some (.bool t117) := (blk_cell BK119.out 3).trans rfl
                  have hfz64_0 := blk_frozen BK119.out 0
                  have hfz64_1 := blk_frozen BK119.out 1
                  have hfz64_2 := blk_frozen BK119.out 2
                  have hfz64_3 := blk_frozen BK119.out 3
                  have hnb65 := NB107_125.out
                  have hnc65 := NB125_107.out
                  have hnb66 := NB107_130.out
                  have hnc66 := NB130_107.out
                  have hcz67_0 : w35.cell? ⟨gb107, 0, none⟩ = some (.string a0_0) := (blk_cell BK107.out 0).trans rfl
                  have hcz67_1 : w35.cell? ⟨gb107, 1, none⟩ = some (.string a0_1) := (blk_cell BK107.out 1).trans rfl
                  have hcz67_2 : w35.cell? ⟨gb107, 2, none⟩ = some (.int .i64 a0_2) := (blk_cell BK107.out 2).trans rfl
                  have hcz67_3 : w35.cell? ⟨gb107, 3, none⟩ = some (.bool a0_3) := (blk_cell BK107.out 3).trans rfl
                  have hfz67_0 := blk_frozen BK107.out 0
                  have hfz67_1 := blk_frozen BK107.out 1
                  have hfz67_2 := blk_frozen BK107.out 2
                  have hfz67_3 := blk_frozen BK107.out 3
                  go_wp2_with (first | (go_at_call 12; (with_reducible refine (trucelaw22_begins.calls t115 a0_1 true _ A41.out).mono ?_); rintro e w' ⟨rfl, ⟨nd, rfl⟩⟩) | (go_at_call 12; (with_reducible refine (trucelaw22_begins.calls (a0_1 ++ a1) t115 false _ A44.out).mono ?_); rintro e w' ⟨rfl, ⟨nd, rfl⟩⟩))
                  go_meet
                  case rel => exact ⟨_, (true), (by first | rfl | (simp; done) | (simp [*]; done)), H', ⟨by have := HJ4.out; first | omega | exact Nat.le_refl _⟩, ⟨by (with_reducible repeat (first | refine blk_drewN ?_ _ | refine blk_drew ?_ | refine blk_alloc ?_ _)); refine blk_far ?_ NB107_130.out _; (with_reducible repeat (first | refine blk_drewN ?_ _ | refine blk_drew ?_ | refine blk_alloc ?_ _)); refine blk_far ?_ NB107_130.out _; (with_reducible repeat (first | refine blk_drewN ?_ _ | refine blk_drew ?_ | refine blk_alloc ?_ _)); refine blk_far ?_ NB107_130.out _; (with_reducible repeat (first | refine blk_drewN ?_ _ | refine blk_drew ?_ | refine blk_alloc ?_ _)); refine blk_far ?_ NB107_130.out _; (with_reducible repeat (first | refine blk_drewN ?_ _ | refine blk_drew ?_ | refine blk_alloc ?_ _)); exact BK107.out⟩, ⟨by (with_reducible repeat (first | refine blk_drewN ?_ _ | refine blk_drew ?_ | refine blk_alloc ?_ _)); refine blk_far ?_ NB119_130.out _; (with_reducible repeat (first | refine blk_drewN ?_ _ | refine blk_drew ?_ | refine blk_alloc ?_ _)); refine blk_far ?_ NB119_130.out _; (with_reducible repeat (first | refine blk_drewN ?_ _ | refine blk_drew ?_ | refine blk_alloc ?_ _)); refine blk_far ?_ NB119_130.out _; (with_reducible repeat (first | refine blk_drewN ?_ _ | refine blk_drew ?_ | refine blk_alloc ?_ _)); refine blk_far ?_ NB119_130.out _; (with_reducible repeat (first | refine blk_drewN ?_ _ | refine blk_drew ?_ | refine blk_alloc ?_ _)); exact BK119.out⟩, ⟨by (with_reducible repeat (first | refine blk_drewN ?_ _ | refine blk_drew ?_ | refine blk_alloc ?_ _)); refine blk_far ?_ NB125_130.out _; (with_reducible repeat (first | refine blk_drewN ?_ _ | refine blk_drew ?_ | refine blk_alloc ?_ _)); refine blk_far ?_ NB125_130.out _; (with_reducible repeat (first | refine blk_drewN ?_ _ | refine blk_drew ?_ | refine blk_alloc ?_ _)); refine blk_far ?_ NB125_130.out _; (with_reducible repeat (first | refine blk_drewN ?_ _ | refine blk_drew ?_ | refine blk_alloc ?_ _)); refine blk_far ?_ NB125_130.out _; (with_reducible repeat (first | refine blk_drewN ?_ _ | refine blk_drew ?_ | refine blk_alloc ?_ _)); exact BK125.out⟩, ⟨by (with_reducible repeat (first | refine blk_drewN ?_ _ | refine blk_drew ?_ | refine blk_alloc ?_ _)); refine blk_put (cs := #[.string t126, .string t127, .int .i64 t128, .bool false]) ?_ 3 _ rfl; (with_reducible repeat (first | refine blk_drewN ?_ _ | refine blk_drew ?_ | refine blk_alloc ?_ _)); refine blk_put (cs := #[.string t126, .string t127, .int .i64 0, .bool false]) ?_ 2 _ rfl; (with_reducible repeat (first | refine blk_drewN ?_ _ | refine blk_drew ?_ | refine blk_alloc ?_ _)); refine blk_put (cs := #[.string t126, .string (⟨#[]⟩ : ByteArray), .int .i64 0, .bool false]) ?_ 1 _ rfl; (with_reducible repeat (first | refine blk_drewN ?_ _ | refine blk_drew ?_ | refine blk_alloc ?_ _)); refine blk_put (cs := #[.string (⟨#[]⟩ : ByteArray), .string (⟨#[]⟩ : ByteArray), .int .i64 0, .bool false]) ?_ 0 _ rfl; (with_reducible repeat (first | refine blk_drewN ?_ _ | refine blk_drew ?_ | refine blk_alloc ?_ _)); exact BK130.out⟩, ⟨by repeat (first | (with_reducible first | exact HB.out | apply below_alloc | apply pw_below_drewN | apply below_drew1 | refine below_set ?_ GE107.out | refine below_set ?_ GE119.out | refine below_set ?_ GE125.out | refine below_set ?_ GE130.out) | exact HB.out)⟩⟩
              · rw [if_neg c43] at H
                exact absurd H (by simp)
            · replace c42 := Bool.eq_false_iff.mpr c42
              subst c42
              have H1 : (trucelaw22_DiskLasts.j1 kj4 a1 true a0_0 a0_1 a0_2 a0_3 t120 t121 t122 t123 t126 t127 t128 t129) = some r := by rw [if_neg (show ¬ (false = true) by decide)] at H; exact H
              clear H
              have H := H1
              clear H1
              have H' := Aside0.mk H
              clear H
              have hnb68 := NB119_107.out
              have hnc68 := NB107_119.out
              have hnb69 := NB119_125.out
              have hnc69 := NB125_119.out
              have hnb70 := NB119_130.out
              have hnc70 := NB130_119.out
              have hcz71_0 : w35.cell? ⟨gb119, 0, none⟩ = some (.string t114) := (blk_cell BK119.out 0).trans rfl
              have hcz71_1 : w35.cell? ⟨gb119, 1, none⟩ = some (.string t115) := (blk_cell BK119.out 1).trans rfl
              have hcz71_2 : w35.cell? ⟨gb119, 2, none⟩ = some (.int .i64 t116) := (blk_cell BK119.out 2).trans rfl
              have hcz71_3 : w35.cell? ⟨gb119, 3, none⟩ = some (.bool t117) := (blk_cell BK119.out 3).trans rfl
              have hfz71_0 := blk_frozen BK119.out 0
              have hfz71_1 := blk_frozen BK119.out 1
              have hfz71_2 := blk_frozen BK119.out 2
              have hfz71_3 := blk_frozen BK119.out 3
              have hnb72 := NB107_125.out
              have hnc72 := NB125_107.out
              have hnb73 := NB107_130.out
              have hnc73 := NB130_107.out
              have hcz74_0 : w35.cell? ⟨gb107, 0, none⟩ = some (.string a0_0) := (blk_cell BK107.out 0).trans rfl
              have hcz74_1 : w35.cell? ⟨gb107, 1, none⟩ = some (.string a0_1) := (blk_cell BK107.out 1).trans rfl
              have hcz74_2 : w35.cell? ⟨gb107, 2, none⟩ = some (.int .i64 a0_2) := (blk_cell BK107.out 2).trans rfl
              have hcz74_3 : w35.cell? ⟨gb107, 3, none⟩ = some (.bool a0_3) := (blk_cell BK107.out 3).trans rfl
              have hfz74_0 := blk_frozen BK107.out 0
              have hfz74_1 := blk_frozen BK107.out 1
              have hfz74_2 := blk_frozen BK107.out 2
              have hfz74_3 := blk_frozen BK107.out 3
              go_wp2_with (first | (go_at_call 12; (with_reducible refine (trucelaw22_begins.calls t115 a0_1 false _ A41.out).mono ?_); rintro e w' ⟨rfl, ⟨nd, rfl⟩⟩))
              go_meet
              case rel => exact ⟨_, (true), (by first | rfl | (simp; done) | (simp [*]; done)), H', ⟨by have := HJ4.out; first | omega | exact Nat.le_refl _⟩, ⟨by (with_reducible repeat (first | refine blk_drewN ?_ _ | refine blk_drew ?_ | refine blk_alloc ?_ _)); refine blk_far ?_ NB107_130.out _; (with_reducible repeat (first | refine blk_drewN ?_ _ | refine blk_drew ?_ | refine blk_alloc ?_ _)); refine blk_far ?_ NB107_130.out _; (with_reducible repeat (first | refine blk_drewN ?_ _ | refine blk_drew ?_ | refine blk_alloc ?_ _)); refine blk_far ?_ NB107_130.out _; (with_reducible repeat (first | refine blk_drewN ?_ _ | refine blk_drew ?_ | refine blk_alloc ?_ _)); refine blk_far ?_ NB107_130.out _; (with_reducible repeat (first | refine blk_drewN ?_ _ | refine blk_drew ?_ | refine blk_alloc ?_ _)); exact BK107.out⟩, ⟨by (with_reducible repeat (first | refine blk_drewN ?_ _ | refine blk_drew ?_ | refine blk_alloc ?_ _)); refine blk_far ?_ NB119_130.out _; (with_reducible repeat (first | refine blk_drewN ?_ _ | refine blk_drew ?_ | refine blk_alloc ?_ _)); refine blk_far ?_ NB119_130.out _; (with_reducible repeat (first | refine blk_drewN ?_ _ | refine blk_drew ?_ | refine blk_alloc ?_ _)); refine blk_far ?_ NB119_130.out _; (with_reducible repeat (first | refine blk_drewN ?_ _ | refine blk_drew ?_ | refine blk_alloc ?_ _)); refine blk_far ?_ NB119_130.out _; (with_reducible repeat (first | refine blk_drewN ?_ _ | refine blk_drew ?_ | refine blk_alloc ?_ _)); exact BK119.out⟩, ⟨by (with_reducible repeat (first | refine blk_drewN ?_ _ | refine blk_drew ?_ | refine blk_alloc ?_ _)); refine blk_far ?_ NB125_130.out _; (with_reducible repeat (first | refine blk_drewN ?_ _ | refine blk_drew ?_ | refine blk_alloc ?_ _)); refine blk_far ?_ NB125_130.out _; (with_reducible repeat (first | refine blk_drewN ?_ _ | refine blk_drew ?_ | refine blk_alloc ?_ _)); refine blk_far ?_ NB125_130.out _; (with_reducible repeat (first | refine blk_drewN ?_ _ | refine blk_drew ?_ | refine blk_alloc ?_ _)); refine blk_far ?_ NB125_130.out _; (with_reducible repeat (first | refine blk_drewN ?_ _ | refine blk_drew ?_ | refine blk_alloc ?_ _)); exact BK125.out⟩, ⟨by (with_reducible repeat (first | refine blk_drewN ?_ _ | refine blk_drew ?_ | refine blk_alloc ?_ _)); refine blk_put (cs := #[.string t126, .string t127, .int .i64 t128, .bool false]) ?_ 3 _ rfl; (with_reducible repeat (first | refine blk_drewN ?_ _ | refine blk_drew ?_ | refine blk_alloc ?_ _)); refine blk_put (cs := #[.string t126, .string t127, .int .i64 0, .bool false]) ?_ 2 _ rfl; (with_reducible repeat (first | refine blk_drewN ?_ _ | refine blk_drew ?_ | refine blk_alloc ?_ _)); refine blk_put (cs := #[.string t126, .string (⟨#[]⟩ : ByteArray), .int .i64 0, .bool false]) ?_ 1 _ rfl; (with_reducible repeat (first | refine blk_drewN ?_ _ | refine blk_drew ?_ | refine blk_alloc ?_ _)); refine blk_put (cs := #[.string (⟨#[]⟩ : ByteArray), .string (⟨#[]⟩ : ByteArray), .int .i64 0, .bool false]) ?_ 0 _ rfl; (with_reducible repeat (first | refine blk_drewN ?_ _ | refine blk_drew ?_ | refine blk_alloc ?_ _)); exact BK130.out⟩, ⟨by repeat (first | (with_reducible first | exact HB.out | apply below_alloc | apply pw_below_drewN | apply below_drew1 | refine below_set ?_ GE107.out | refine below_set ?_ GE119.out | refine below_set ?_ GE125.out | refine below_set ?_ GE130.out) | exact HB.out)⟩⟩
          · rw [if_neg c40] at H
            have c40b0 : (t114.toList == a0_0.toList) = false := beq_eq_false_iff_ne.mpr c40
            have c40b1 : (t114.toList != a0_0.toList) = true := bne_iff_ne.mpr c40
            (first | rw [c40b0] | (simp only [i64_w, i32_w]; rw [c40b0]) | skip)
            have H' := Aside0.mk H
            clear H
            have hnb75 := NB119_107.out
            have hnc75 := NB107_119.out
            have hnb76 := NB119_125.out
            have hnc76 := NB125_119.out
            have hnb77 := NB119_130.out
            have hnc77 := NB130_119.out
            have hcz78_0 : w35.cell? ⟨gb119, 0, none⟩ = some (.string t114) := (blk_cell BK119.out 0).trans rfl
            have hcz78_1 : w35.cell? ⟨gb119, 1, none⟩ = some (.string t115) := (blk_cell BK119.out 1).trans rfl
            have hcz78_2 : w35.cell? ⟨gb119, 2, none⟩ = some (.int .i64 t116) := (blk_cell BK119.out 2).trans rfl
            have hcz78_3 : w35.cell? ⟨gb119, 3, none⟩ = some (.bool t117) := (blk_cell BK119.out 3).trans rfl
            have hfz78_0 := blk_frozen BK119.out 0
            have hfz78_1 := blk_frozen BK119.out 1
            have hfz78_2 := blk_frozen BK119.out 2
            have hfz78_3 := blk_frozen BK119.out 3
            have hnb79 := NB107_125.out
            have hnc79 := NB125_107.out
            have hnb80 := NB107_130.out
            have hnc80 := NB130_107.out
            have hcz81_0 : w35.cell? ⟨gb107, 0, none⟩ = some (.string a0_0) := (blk_cell BK107.out 0).trans rfl
            have hcz81_1 : w35.cell? ⟨gb107, 1, none⟩ = some (.string a0_1) := (blk_cell BK107.out 1).trans rfl
            have hcz81_2 : w35.cell? ⟨gb107, 2, none⟩ = some (.int .i64 a0_2) := (blk_cell BK107.out 2).trans rfl
            have hcz81_3 : w35.cell? ⟨gb107, 3, none⟩ = some (.bool a0_3) := (blk_cell BK107.out 3).trans rfl
            have hfz81_0 := blk_frozen BK107.out 0
            have hfz81_1 := blk_frozen BK107.out 1
            have hfz81_2 := blk_frozen BK107.out 2
            have hfz81_3 := blk_frozen BK107.out 3
            go_wp2
            go_meet
            case rel => exact ⟨_, (true), (by first | rfl | (simp; done) | (simp [*]; done)), H', ⟨by have := HJ4.out; first | omega | exact Nat.le_refl _⟩, ⟨by (with_reducible repeat (first | refine blk_drewN ?_ _ | refine blk_drew ?_ | refine blk_alloc ?_ _)); refine blk_far ?_ NB107_130.out _; (with_reducible repeat (first | refine blk_drewN ?_ _ | refine blk_drew ?_ | refine blk_alloc ?_ _)); refine blk_far ?_ NB107_130.out _; (with_reducible repeat (first | refine blk_drewN ?_ _ | refine blk_drew ?_ | refine blk_alloc ?_ _)); refine blk_far ?_ NB107_130.out _; (with_reducible repeat (first | refine blk_drewN ?_ _ | refine blk_drew ?_ | refine blk_alloc ?_ _)); refine blk_far ?_ NB107_130.out _; (with_reducible repeat (first | refine blk_drewN ?_ _ | refine blk_drew ?_ | refine blk_alloc ?_ _)); exact BK107.out⟩, ⟨by (with_reducible repeat (first | refine blk_drewN ?_ _ | refine blk_drew ?_ | refine blk_alloc ?_ _)); refine blk_far ?_ NB119_130.out _; (with_reducible repeat (first | refine blk_drewN ?_ _ | refine blk_drew ?_ | refine blk_alloc ?_ _)); refine blk_far ?_ NB119_130.out _; (with_reducible repeat (first | refine blk_drewN ?_ _ | refine blk_drew ?_ | refine blk_alloc ?_ _)); refine blk_far ?_ NB119_130.out _; (with_reducible repeat (first | refine blk_drewN ?_ _ | refine blk_drew ?_ | refine blk_alloc ?_ _)); refine blk_far ?_ NB119_130.out _; (with_reducible repeat (first | refine blk_drewN ?_ _ | refine blk_drew ?_ | refine blk_alloc ?_ _)); exact BK119.out⟩, ⟨by (with_reducible repeat (first | refine blk_drewN ?_ _ | refine blk_drew ?_ | refine blk_alloc ?_ _)); refine blk_far ?_ NB125_130.out _; (with_reducible repeat (first | refine blk_drewN ?_ _ | refine blk_drew ?_ | refine blk_alloc ?_ _)); refine blk_far ?_ NB125_130.out _; (with_reducible repeat (first | refine blk_drewN ?_ _ | refine blk_drew ?_ | refine blk_alloc ?_ _)); refine blk_far ?_ NB125_130.out _; (with_reducible repeat (first | refine blk_drewN ?_ _ | refine blk_drew ?_ | refine blk_alloc ?_ _)); refine blk_far ?_ NB125_130.out _; (with_reducible repeat (first | refine blk_drewN ?_ _ | refine blk_drew ?_ | refine blk_alloc ?_ _)); exact BK125.out⟩, ⟨by (with_reducible repeat (first | refine blk_drewN ?_ _ | refine blk_drew ?_ | refine blk_alloc ?_ _)); refine blk_put (cs := #[.string t126, .string t127, .int .i64 t128, .bool false]) ?_ 3 _ rfl; (with_reducible repeat (first | refine blk_drewN ?_ _ | refine blk_drew ?_ | refine blk_alloc ?_ _)); refine blk_put (cs := #[.string t126, .string t127, .int .i64 0, .bool false]) ?_ 2 _ rfl; (with_reducible repeat (first | refine blk_drewN ?_ _ | refine blk_drew ?_ | refine blk_alloc ?_ _)); refine blk_put (cs := #[.string t126, .string (⟨#[]⟩ : ByteArray), .int .i64 0, .bool false]) ?_ 1 _ rfl; (with_reducible repeat (first | refine blk_drewN ?_ _ | refine blk_drew ?_ | refine blk_alloc ?_ _)); refine blk_put (cs := #[.string (⟨#[]⟩ : ByteArray), .string (⟨#[]⟩ : ByteArray), .int .i64 0, .bool false]) ?_ 0 _ rfl; (with_reducible repeat (first | refine blk_drewN ?_ _ | refine blk_drew ?_ | refine blk_alloc ?_ _)); exact BK130.out⟩, ⟨by repeat (first | (with_reducible first | exact HB.out | apply below_alloc | apply pw_below_drewN | apply below_drew1 | refine below_set ?_ GE107.out | refine below_set ?_ GE119.out | refine below_set ?_ GE125.out | refine below_set ?_ GE130.out) | exact HB.out)⟩⟩
        case rest =>
          clear HC21
          try clear c1
          try clear c2
          try clear p2
          try clear c3
          try clear c4
          try clear c5
          try clear c6
          try clear c7
          try clear c7b0
          try clear c7b1
          try clear c8
          try clear c9
          try clear c9b0
          try clear c9b1
          try clear c10
          try clear c11
          try clear c14
          try clear c26
          try clear c30
          try clear c31
          try clear c36
          try clear c37
          try clear c38
          try clear c40
          try clear c40b0
          try clear c40b1
          try clear c42
          try clear c43
          try clear c43b0
          try clear c43b1
          try clear c43b2
          try clear c45
          try clear c46
          try clear c46b0
          try clear c46b1
          try clear c47
          try clear c48
          try clear c49
          try clear c51
          try clear c52
          try clear c54
          try clear c55
          try clear c56
          try clear c58
          try clear c59
          try clear c61
          try clear c62
          try clear c63
          try clear c65
          try clear c66
          try clear c68
          try clear c69
          try clear c70
          try clear c72
          try clear c73
          try clear c75
          try clear c76
          try clear c77
          try clear c79
          try clear c80
          try clear hcz10_0
          try clear hcz10_1
          try clear hcz10_2
          try clear hcz10_3
          try clear hcz12_0
          try clear hcz12_1
          try clear hcz12_2
          try clear hcz12_3
          try clear hcz22_0
          try clear hcz22_1
          try clear hcz22_2
          try clear hcz22_3
          try clear hcz27_0
          try clear hcz27_1
          try clear hcz27_2
          try clear hcz27_3
          try clear hcz32_0
          try clear hcz32_1
          try clear hcz32_2
          try clear hcz32_3
          try clear hcz33_0
          try clear hcz33_1
          try clear hcz33_2
          try clear hcz33_3
          try clear hcz39_0
          try clear hcz39_1
          try clear hcz39_2
          try clear hcz39_3
          try clear hcz50_0
          try clear hcz50_1
          try clear hcz50_2
          try clear hcz50_3
          try clear hcz53_0
          try clear hcz53_1
          try clear hcz53_2
          try clear hcz53_3
          try clear hcz57_0
          try clear hcz57_1
          try clear hcz57_2
          try clear hcz57_3
          try clear hcz60_0
          try clear hcz60_1
          try clear hcz60_2
          try clear hcz60_3
          try clear hcz64_0
          try clear hcz64_1
          try clear hcz64_2
          try clear hcz64_3
          try clear hcz67_0
          try clear hcz67_1
          try clear hcz67_2
          try clear hcz67_3
          try clear hcz71_0
          try clear hcz71_1
          try clear hcz71_2
          try clear hcz71_3
          try clear hcz74_0
          try clear hcz74_1
          try clear hcz74_2
          try clear hcz74_3
          try clear hcz78_0
          try clear hcz78_1
          try clear hcz78_2
          try clear hcz78_3
          try clear hcz81_0
          try clear hcz81_1
          try clear hcz81_2
          try clear hcz81_3
          try clear hcz8_0
          try clear hcz8_1
          try clear hcz8_2
          try clear hcz8_3
          try clear hfz10_0
          try clear hfz10_1
          try clear hfz10_2
          try clear hfz10_3
          try clear hfz12_0
          try clear hfz12_1
          try clear hfz12_2
          try clear hfz12_3
          try clear hfz22_0
          try clear hfz22_1
          try clear hfz22_2
          try clear hfz22_3
          try clear hfz27_0
          try clear hfz27_1
          try clear hfz27_2
          try clear hfz27_3
          try clear hfz32_0
          try clear hfz32_1
          try clear hfz32_2
          try clear hfz32_3
          try clear hfz33_0
          try clear hfz33_1
          try clear hfz33_2
          try clear hfz33_3
          try clear hfz39_0
          try clear hfz39_1
          try clear hfz39_2
          try clear hfz39_3
          try clear hfz50_0
          try clear hfz50_1
          try clear hfz50_2
          try clear hfz50_3
          try clear hfz53_0
          try clear hfz53_1
          try clear hfz53_2
          try clear hfz53_3
          try clear hfz57_0
          try clear hfz57_1
          try clear hfz57_2
          try clear hfz57_3
          try clear hfz60_0
          try clear hfz60_1
          try clear hfz60_2
          try clear hfz60_3
          try clear hfz64_0
          try clear hfz64_1
          try clear hfz64_2
          try clear hfz64_3
          try clear hfz67_0
          try clear hfz67_1
          try clear hfz67_2
          try clear hfz67_3
          try clear hfz71_0
          try clear hfz71_1
          try clear hfz71_2
          try clear hfz71_3
          try clear hfz74_0
          try clear hfz74_1
          try clear hfz74_2
          try clear hfz74_3
          try clear hfz78_0
          try clear hfz78_1
          try clear hfz78_2
          try clear hfz78_3
          try clear hfz81_0
          try clear hfz81_1
          try clear hfz81_2
          try clear hfz81_3
          try clear hfz8_0
          try clear hfz8_1
          try clear hfz8_2
          try clear hfz8_3
          try clear p2
          obtain ⟨kq, x80_20, rfl, HA, HJ20, BK107, BK119, BK125, BK130, HB⟩ := hcut
          cases kq with
          | zero => exact absurd HA.out (by simp [trucelaw22_DiskLasts.j1])
          | succ kj20 =>
            have H := HA.out
            clear HA
            simp only [trucelaw22_DiskLasts.j1] at H
            by_cases c82 : x80_20 = true
            · subst c82
              have H1 : (some false) = some r := by rw [if_pos rfl] at H; exact H
              clear H
              have H := H1
              clear H1
              exact absurd (hr_.out.symm.trans (Option.some.inj H).symm) (by simp)
            · replace c82 := Bool.eq_false_iff.mpr c82
              subst c82
              have H1 : ((trucelaw22_begins.f t120 a0_0).bind fun t133 => (if t133 = true then ((trucelaw22_begins.f t126 a0_0).bind fun t134 => (if t134 = true then (if a0_0.size + a0_1.size ≤ 9223372036854775807 then (if (a0_0 ++ a0_1).size + a1.size ≤ 9223372036854775807 then ((trucelaw22_begins.f ((a0_0 ++ a0_1) ++ a1) t126).bind fun t135 => (if t135 = true then (if t127.toList = ([] : List UInt8) then (if t129 = true then (some false) else (if t128 = (-1) then ((trucelaw22_awake.f).bind fun t136 => (some t136)) else (some false))) else (some false)) else (some false))) else (none)) else (none)) else (some false))) else (some false))) = some r := by rw [if_neg (show ¬ (false = true) by decide)] at H; exact H
              clear H
              have H := H1
              clear H1
              replace H := Option.bind_eq_some_iff.mp H
              obtain ⟨t133, A830, H⟩ := H
              replace H : (if t133 = true then ((trucelaw22_begins.f t126 a0_0).bind fun t134 => (if t134 = true then (if a0_0.size + a0_1.size ≤ 9223372036854775807 then (if (a0_0 ++ a0_1).size + a1.size ≤ 9223372036854775807 then ((trucelaw22_begins.f ((a0_0 ++ a0_1) ++ a1) t126).bind fun t135 => (if t135 = true then (if t127.toList = ([] : List UInt8) then (if t129 = true then (some false) else (if t128 = (-1) then ((trucelaw22_awake.f).bind fun t136 => (some t136)) else (some false))) else (some false)) else (some false))) else (none)) else (none)) else (some false))) else (some false)) = some r := H
              have A83 := Aside0.mk A830
              clear A830
              by_cases c84 : t133 = true
              · subst c84
                have H1 : ((trucelaw22_begins.f t126 a0_0).bind fun t134 => (if t134 = true then (if a0_0.size + a0_1.size ≤ 9223372036854775807 then (if (a0_0 ++ a0_1).size + a1.size ≤ 9223372036854775807 then ((trucelaw22_begins.f ((a0_0 ++ a0_1) ++ a1) t126).bind fun t135 => (if t135 = true then (if t127.toList = ([] : List UInt8) then (if t129 = true then (some false) else (if t128 = (-1) then ((trucelaw22_awake.f).bind fun t136 => (some t136)) else (some false))) else (some false)) else (some false))) else (none)) else (none)) else (some false))) = some r := by rw [if_pos rfl] at H; exact H
                clear H
                have H := H1
                clear H1
                replace H := Option.bind_eq_some_iff.mp H
                obtain ⟨t134, A850, H⟩ := H
                replace H : (if t134 = true then (if a0_0.size + a0_1.size ≤ 9223372036854775807 then (if (a0_0 ++ a0_1).size + a1.size ≤ 9223372036854775807 then ((trucelaw22_begins.f ((a0_0 ++ a0_1) ++ a1) t126).bind fun t135 => (if t135 = true then (if t127.toList = ([] : List UInt8) then (if t129 = true then (some false) else (if t128 = (-1) then ((trucelaw22_awake.f).bind fun t136 => (some t136)) else (some false))) else (some false)) else (some false))) else (none)) else (none)) else (some false)) = some r := H
                have A85 := Aside0.mk A850
                clear A850
                by_cases c86 : t134 = true
                · subst c86
                  have H1 : (if a0_0.size + a0_1.size ≤ 9223372036854775807 then (if (a0_0 ++ a0_1).size + a1.size ≤ 9223372036854775807 then ((trucelaw22_begins.f ((a0_0 ++ a0_1) ++ a1) t126).bind fun t135 => (if t135 = true then (if t127.toList = ([] : List UInt8) then (if t129 = true then (some false) else (if t128 = (-1) then ((trucelaw22_awake.f).bind fun t136 => (some t136)) else (some false))) else (some false)) else (some false))) else (none)) else (none)) = some r := by rw [if_pos rfl] at H; exact H
                  clear H
                  have H := H1
                  clear H1
                  by_cases c87 : a0_0.size + a0_1.size ≤ 9223372036854775807
                  · rw [if_pos c87] at H
                    have c87b0 := eq_true c87
                    have c87b1 : decide (a0_0.size + a0_1.size ≤ 9223372036854775807) = true := decide_eq_true c87
                    try have c87b2 : (9223372036854775807 < a0_0.size + a0_1.size) = False := eq_false (Nat.not_lt.2 c87)
                    by_cases c88 : (a0_0 ++ a0_1).size + a1.size ≤ 9223372036854775807
                    · rw [if_pos c88] at H
                      have c88b0 := eq_true c88
                      have c88b1 : decide ((a0_0 ++ a0_1).size + a1.size ≤ 9223372036854775807) = true := decide_eq_true c88
                      try have c88b2 : (9223372036854775807 < (a0_0 ++ a0_1).size + a1.size) = False := eq_false (Nat.not_lt.2 c88)
                      replace H := Option.bind_eq_some_iff.mp H
                      obtain ⟨t135, A890, H⟩ := H
                      replace H : (if t135 = true then (if t127.toList = ([] : List UInt8) then (if t129 = true then (some false) else (if t128 = (-1) then ((trucelaw22_awake.f).bind fun t136 => (some t136)) else (some false))) else (some false)) else (some false)) = some r := H
                      have A89 := Aside0.mk A890
                      clear A890
                      by_cases c90 : t135 = true
                      · subst c90
                        have H1 : (if t127.toList = ([] : List UInt8) then (if t129 = true then (some false) else (if t128 = (-1) then ((trucelaw22_awake.f).bind fun t136 => (some t136)) else (some false))) else (some false)) = some r := by rw [if_pos rfl] at H; exact H
                        clear H
                        have H := H1
                        clear H1
                        by_cases c91 : t127.toList = ([] : List UInt8)
                        · rw [if_pos c91] at H
                          have c91b0 : (t127.toList == ([] : List UInt8)) = true := beq_iff_eq.mpr c91
                          have c91b1 : (t127.toList != ([] : List UInt8)) = false := bne_eq_false_iff_eq.mpr c91
                          clear c91
                          by_cases c92 : t129 = true
                          · subst c92
                            have H1 : (some false) = some r := by rw [if_pos rfl] at H; exact H
                            clear H
                            have H := H1
                            clear H1
                            exact absurd (hr_.out.symm.trans (Option.some.inj H).symm) (by simp)
                          · replace c92 := Bool.eq_false_iff.mpr c92
                            subst c92
                            have H1 : (if t128 = (-1) then ((trucelaw22_awake.f).bind fun t136 => (some t136)) else (some false)) = some r := by rw [if_neg (show ¬ (false = true) by decide)] at H; exact H
                            clear H
                            have H := H1
                            clear H1
                            by_cases c93 : t128 = (-1)
                            · rw [if_pos c93] at H
                              have c93b0 : (t128 == (-1)) = true := beq_iff_eq.mpr c93
                              have c93b1 : (t128 != (-1)) = false := bne_eq_false_iff_eq.mpr c93
                              clear c93
                              replace H := Option.bind_eq_some_iff.mp H
                              obtain ⟨t136, A940, H⟩ := H
                              replace H : (some t136) = some r := H
                              have A94 := Aside0.mk A940
                              clear A940
                              obtain rfl := Option.some.inj H
                              have hnb95 := NB125_107.out
                              have hnc95 := NB107_125.out
                              have hnb96 := NB125_119.out
                              have hnc96 := NB119_125.out
                              have hnb97 := NB125_130.out
                              have hnc97 := NB130_125.out
                              have hcz98_0 : wc.cell? ⟨gb125, 0, none⟩ = some (.string t120) := (blk_cell BK125.out 0).trans rfl
                              have hcz98_1 : wc.cell? ⟨gb125, 1, none⟩ = some (.string t121) := (blk_cell BK125.out 1).trans rfl
                              have hcz98_2 : wc.cell? ⟨gb125, 2, none⟩ = some (.int .i64 t122) := (blk_cell BK125.out 2).trans rfl
                              have hcz98_3 : wc.cell? ⟨gb125, 3, none⟩ = some (.bool t123) := (blk_cell BK125.out 3).trans rfl
                              have hfz98_0 := blk_frozen BK125.out 0
                              have hfz98_1 := blk_frozen BK125.out 1
                              have hfz98_2 := blk_frozen BK125.out 2
                              have hfz98_3 := blk_frozen BK125.out 3
                              have hnb99 := NB107_119.out
                              have hnc99 := NB119_107.out
                              have hnb100 := NB107_130.out
                              have hnc100 := NB130_107.out
                              have hcz101_0 : wc.cell? ⟨gb107, 0, none⟩ = some (.string a0_0) := (blk_cell BK107.out 0).trans rfl
                              have hcz101_1 : wc.cell? ⟨gb107, 1, none⟩ = some (.string a0_1) := (blk_cell BK107.out 1).trans rfl
                              have hcz101_2 : wc.cell? ⟨gb107, 2, none⟩ = some (.int .i64 a0_2) := (blk_cell BK107.out 2).trans rfl
                              have hcz101_3 : wc.cell? ⟨gb107, 3, none⟩ = some (.bool a0_3) := (blk_cell BK107.out 3).trans rfl
                              have hfz101_0 := blk_frozen BK107.out 0
                              have hfz101_1 := blk_frozen BK107.out 1
                              have hfz101_2 := blk_frozen BK107.out 2
                              have hfz101_3 := blk_frozen BK107.out 3
                              go_wp2_with (first | ((with_reducible refine gate_callee (f := 12) rfl ?_); refine goesL_ (some 85) rfl rfl Try.func12 (by kernel_rfl) rfl #[.string t120, .string a0_0] rfl (by (try simp only [List.map_toArray, List.map_cons, List.map_nil]); first | done | rfl | (simp only [List.length_drop, List.length_take]; rfl)) ?_; (with_reducible refine (trucelaw22_begins.calls t120 a0_0 true _ A83.out).mono ?_); rintro e w' ⟨rfl, ⟨nd, rfl⟩⟩; refine ⟨_, rfl, ?_⟩; have hnb102 := NB130_119.out; have hnc102 := NB119_130.out; have hcz103_0 : wc.cell? ⟨gb130, 0, none⟩ = some (.string t126) := (blk_cell BK130.out 0).trans rfl; have hcz103_1 : wc.cell? ⟨gb130, 1, none⟩ = some (.string t127) := (blk_cell BK130.out 1).trans rfl; have hcz103_2 : wc.cell? ⟨gb130, 2, none⟩ = some (.int .i64 t128) := (blk_cell BK130.out 2).trans rfl; have hcz103_3 : wc.cell? ⟨gb130, 3, none⟩ = some (.bool false) := (blk_cell BK130.out 3).trans rfl; have hfz103_0 := blk_frozen BK130.out 0; have hfz103_1 := blk_frozen BK130.out 1; have hfz103_2 := blk_frozen BK130.out 2; have hfz103_3 := blk_frozen BK130.out 3) | (go_at_call 12; (with_reducible refine (trucelaw22_begins.calls t126 a0_0 true _ A85.out).mono ?_); rintro e w' ⟨rfl, ⟨nd, rfl⟩⟩) | (go_at_call 12; (with_reducible refine (trucelaw22_begins.calls ((a0_0 ++ a0_1) ++ a1) t126 true _ A89.out).mono ?_); rintro e w' ⟨rfl, ⟨nd, rfl⟩⟩) | (go_at_call 7; (with_reducible refine (trucelaw22_awake.calls  t136 _ A94.out).mono ?_); rintro e w104 ⟨rfl, hb⟩; have n0_ := Aside0.mk (blk_below (g := gb107) (o := .cells #[.string a0_0, .string a0_1, .int .i64 a0_2, .bool a0_3] 23 (0, 0)) (by (with_reducible repeat (first | refine blk_drewN ?_ _ | refine blk_drew ?_ | refine blk_alloc ?_ _)); exact BK107.out) hb); have n1_ := Aside0.mk (blk_below (g := gb119) (o := .cells #[.string t114, .string t115, .int .i64 t116, .bool t117] 23 (0, 0)) (by (with_reducible repeat (first | refine blk_drewN ?_ _ | refine blk_drew ?_ | refine blk_alloc ?_ _)); exact BK119.out) hb); have n2_ := Aside0.mk (blk_below (g := gb125) (o := .cells #[.string t120, .string t121, .int .i64 t122, .bool t123] 23 (0, 0)) (by (with_reducible repeat (first | refine blk_drewN ?_ _ | refine blk_drew ?_ | refine blk_alloc ?_ _)); exact BK125.out) hb); have n3_ := Aside0.mk (blk_below (g := gb130) (o := .cells #[.string t126, .string t127, .int .i64 t128, .bool false] 23 (0, 0)) (by (with_reducible repeat (first | refine blk_drewN ?_ _ | refine blk_drew ?_ | refine blk_alloc ?_ _)); exact BK130.out) hb); have n4_ := Aside0.mk (below_step (by repeat (first | (with_reducible first | exact HB.out | apply below_alloc | apply pw_below_drewN | apply below_drew1 | refine below_set ?_ GE107.out | refine below_set ?_ GE119.out | refine below_set ?_ GE125.out | refine below_set ?_ GE130.out) | exact HB.out)) hb); clear BK107; clear BK119; clear BK125; clear BK130; clear HB; have BK107 := n0_; have BK119 := n1_; have BK125 := n2_; have BK130 := n3_; have HB := n4_; clear n0_ n1_ n2_ n3_ n4_; (try clear hb); (try clear hb2); (try clear hk); (try clear hi)))
                              go_ret
                              exact ⟨by first | rfl | (simp [errW_none, errW_some] <;> rfl) | (simp [*, errW_none, errW_some] <;> rfl), by repeat (first | (with_reducible first | exact HB.out | apply below_alloc | apply pw_below_drewN | apply below_drew1 | refine below_set ?_ GE107.out | refine below_set ?_ GE119.out | refine below_set ?_ GE125.out | refine below_set ?_ GE130.out) | exact HB.out)⟩
                            · rw [if_neg c93] at H
                              have c93b0 : (t128 == (-1)) = false := beq_eq_false_iff_ne.mpr c93
                              have c93b1 : (t128 != (-1)) = true := bne_iff_ne.mpr c93
                              exact absurd (hr_.out.symm.trans (Option.some.inj H).symm) (by simp)
                        · rw [if_neg c91] at H
                          have c91b0 : (t127.toList == ([] : List UInt8)) = false := beq_eq_false_iff_ne.mpr c91
                          have c91b1 : (t127.toList != ([] : List UInt8)) = true := bne_iff_ne.mpr c91
                          exact absurd (hr_.out.symm.trans (Option.some.inj H).symm) (by simp)
                      · replace c90 := Bool.eq_false_iff.mpr c90
                        subst c90
                        have H1 : (some false) = some r := by rw [if_neg (show ¬ (false = true) by decide)] at H; exact H
                        clear H
                        have H := H1
                        clear H1
                        exact absurd (hr_.out.symm.trans (Option.some.inj H).symm) (by simp)
                    · rw [if_neg c88] at H
                      exact absurd H (by simp)
                  · rw [if_neg c87] at H
                    exact absurd H (by simp)
                · replace c86 := Bool.eq_false_iff.mpr c86
                  subst c86
                  have H1 : (some false) = some r := by rw [if_neg (show ¬ (false = true) by decide)] at H; exact H
                  clear H
                  have H := H1
                  clear H1
                  exact absurd (hr_.out.symm.trans (Option.some.inj H).symm) (by simp)
              · replace c84 := Bool.eq_false_iff.mpr c84
                subst c84
                have H1 : (some false) = some r := by rw [if_neg (show ¬ (false = true) by decide)] at H; exact H
                clear H
                have H := H1
                clear H1
                exact absurd (hr_.out.symm.trans (Option.some.inj H).symm) (by simp)

end Go.Proofs.Ytodojmgjjcgfpaa.P
