/- A function of the program as a Lean function, and the proof that the code comes to its answers; written by a program of this session, a changed copy of the print of the kit. -/
import Derived.Test.YtlkecihibmndbaaP0
import Derived.Test.YtlkecihibmndbaaPeqA25
import Derived.Test.YtlkecihibmndbaaPtrucelaw18few
import Derived.Test.YtlkecihibmndbaaPtrucelaw18awake
import Derived.Test.YtlkecihibmndbaaPtruceref17Same
import Derived.Test.YtlkecihibmndbaaPtrucelaw18total
import Derived.Test.YtlkecihibmndbaaGBind
import Derived.Test.YtlkecihibmndbaaGReclaim
namespace Go.Proofs.Ytlkecihibmndbaa.P
open Go.RowKit Go.Proofs.YtlkecihibmndbaaW.PrintWords Go.Proofs.YtlkecihibmndbaaW.PrintLast Go.Proofs.YtlkecihibmndbaaW.PrintMore
attribute [local go_sem] max2_int min2_int max_two min_two max_three min_three max_four min_four   -- for this text's walks alone
set_option linter.unusedVariables false
set_option linter.unusedSimpArgs false

attribute [local go_sem high] eqA25
/-! ### trucelaw18_ClaimKeeps: function 4 -/
mutual
def trucelaw18_ClaimKeeps.j0 : Nat → List (S39) → Int → List (S39) → ByteArray → Int → Int → Bool → Int → Int → Int → Int → Int → Int → Int → Int → Option (Bool)
  | 0, _, _, _, _, _, _, _, _, _, _, _, _, _, _, _ => none
  | k + 1, x0, x1, x2, x3, x4, x5, x28, x228000, x228001, x228002, x228003, x229000, x229001, x229002, x229003 => if x28 = true then ((trucelaw18_awake.f).bind fun t231 => (some t231)) else ((claim_Reclaim.f x0 x1 x2).bind fun bt232 => ((claim_Bind.f x0 x3 x4 x5 x228000 x228001 x228002 x228003 x229000 x229001 x229002 x229003).bind fun bt236 => (if bt232.2 = 0 then (if (bt232.1.length : Int) = (wrap64 ((x0.length : Int) - 1)) then (if bt236.2 = 0 then (trucelaw18_ClaimKeeps.j1 k x0 bt232.1 bt232.2 bt236.1 bt236.2 ((bt236.1.length : Int) != (wrap64 ((x0.length : Int) + 1)))) else (trucelaw18_ClaimKeeps.j1 k x0 bt232.1 bt232.2 bt236.1 bt236.2 false)) else (trucelaw18_ClaimKeeps.j1 k x0 bt232.1 bt232.2 bt236.1 bt236.2 true)) else (if bt236.2 = 0 then (trucelaw18_ClaimKeeps.j1 k x0 bt232.1 bt232.2 bt236.1 bt236.2 ((bt236.1.length : Int) != (wrap64 ((x0.length : Int) + 1)))) else (trucelaw18_ClaimKeeps.j1 k x0 bt232.1 bt232.2 bt236.1 bt236.2 false)))))
def trucelaw18_ClaimKeeps.j1 : Nat → List (S39) → List (S39) → Int → List (S39) → Int → Bool → Option (Bool)
  | 0, _, _, _, _, _, _ => none
  | k + 1, x0, x17, x18, x19, x20, x68 => if x68 = true then (some false) else ((trucelaw18_total.f k x17).bind fun bt240 => ((trucelaw18_total.f k x0).bind fun bt244 => (if (bt240.1 == bt244.1 && (bt240.2.1 == bt244.2.1 && (bt240.2.2.1 == bt244.2.2.1 && (bt240.2.2.2 == bt244.2.2.2)))) = true then ((trucelaw18_total.f k x19).bind fun bt248 => ((trucelaw18_total.f k x0).bind fun bt252 => (if (bt248.1 == bt252.1 && (bt248.2.1 == bt252.2.1 && (bt248.2.2.1 == bt252.2.2.1 && (bt248.2.2.2 == bt252.2.2.2)))) = true then (if x18 = 0 then (if x20 = 0 then ((trucelaw18_awake.f).bind fun t256 => (some t256)) else ((truceref17_Same.f k x19 x0).bind fun t257 => (if t257 = true then ((trucelaw18_awake.f).bind fun t258 => (some t258)) else (some false)))) else ((truceref17_Same.f k x17 x0).bind fun t259 => (if t259 = true then (if x20 = 0 then ((trucelaw18_awake.f).bind fun t260 => (some t260)) else ((truceref17_Same.f k x19 x0).bind fun t261 => (if t261 = true then ((trucelaw18_awake.f).bind fun t262 => (some t262)) else (some false)))) else (some false)))) else (some false)))) else (some false))))
end
def trucelaw18_ClaimKeeps.f (k : Nat) (l0 : List (S39)) (a1 : Int) (l2 : List (S39)) (a3 : ByteArray) (a4 : Int) (a5 : Int) (a6_0 : Int) (a6_1 : Int) (a6_2 : Int) (a6_3 : Int) (a7_0 : Int) (a7_1 : Int) (a7_2 : Int) (a7_3 : Int) : Option (Bool) := (trucelaw18_few.f l0).bind fun t229 => (if t229 = true then ((trucelaw18_few.f l2).bind fun t230 => (trucelaw18_ClaimKeeps.j0 k l0 a1 l2 a3 a4 a5 (!t230) a6_0 a6_1 a6_2 a6_3 a7_0 a7_1 a7_2 a7_3)) else (trucelaw18_ClaimKeeps.j0 k l0 a1 l2 a3 a4 a5 true a6_0 a6_1 a6_2 a6_3 a7_0 a7_1 a7_2 a7_3))
theorem trucelaw18_ClaimKeeps.mono_l : ∀ k, (∀ y0 y1 y2 y3 y4 y5 y6 y7 y8 y9 y10 y11 y12 y13 y14, LeO (trucelaw18_ClaimKeeps.j0 k y0 y1 y2 y3 y4 y5 y6 y7 y8 y9 y10 y11 y12 y13 y14) (trucelaw18_ClaimKeeps.j0 (k + 1) y0 y1 y2 y3 y4 y5 y6 y7 y8 y9 y10 y11 y12 y13 y14)) ∧ (∀ y0 y1 y2 y3 y4 y5, LeO (trucelaw18_ClaimKeeps.j1 k y0 y1 y2 y3 y4 y5) (trucelaw18_ClaimKeeps.j1 (k + 1) y0 y1 y2 y3 y4 y5))
  | 0 => ⟨fun _ _ _ _ _ _ _ _ _ _ _ _ _ _ _ r h => by simp [trucelaw18_ClaimKeeps.j0] at h, fun _ _ _ _ _ _ r h => by simp [trucelaw18_ClaimKeeps.j1] at h⟩
  | k + 1 => by
    obtain ⟨ih0, ih1⟩ := trucelaw18_ClaimKeeps.mono_l k
    refine ⟨?_, ?_⟩
    · intro y0 y1 y2 y3 y4 y5 y6 y7 y8 y9 y10 y11 y12 y13 y14
      unfold trucelaw18_ClaimKeeps.j0
      repeat' first
      | (with_reducible exact ih0 _ _ _ _ _ _ _ _ _ _ _ _ _ _ _)
      | (with_reducible exact ih1 _ _ _ _ _ _)
      | (with_reducible exact trucelaw18_total.mono _ _)
      | (with_reducible exact truceref17_Same.mono _ _ _)
      | (with_reducible exact LeO.refl _)
      | (with_reducible exact LeO.none _)
      | (with_reducible refine LeO.ite ?_ ?_)
      | (with_reducible refine LeO.bind ?_ (fun _ => ?_))
      | exact ih0 _ _ _ _ _ _ _ _ _ _ _ _ _ _ _
      | exact ih1 _ _ _ _ _ _
      | exact trucelaw18_total.mono _ _
      | exact truceref17_Same.mono _ _ _
      | exact LeO.none _
      | refine LeO.ite ?_ ?_
      | refine LeO.bind ?_ (fun _ => ?_)
    · intro y0 y1 y2 y3 y4 y5
      unfold trucelaw18_ClaimKeeps.j1
      repeat' first
      | (with_reducible exact ih0 _ _ _ _ _ _ _ _ _ _ _ _ _ _ _)
      | (with_reducible exact ih1 _ _ _ _ _ _)
      | (with_reducible exact trucelaw18_total.mono _ _)
      | (with_reducible exact truceref17_Same.mono _ _ _)
      | (with_reducible exact LeO.refl _)
      | (with_reducible exact LeO.none _)
      | (with_reducible refine LeO.ite ?_ ?_)
      | (with_reducible refine LeO.bind ?_ (fun _ => ?_))
      | exact ih0 _ _ _ _ _ _ _ _ _ _ _ _ _ _ _
      | exact ih1 _ _ _ _ _ _
      | exact trucelaw18_total.mono _ _
      | exact truceref17_Same.mono _ _ _
      | exact LeO.none _
      | refine LeO.ite ?_ ?_
      | refine LeO.bind ?_ (fun _ => ?_)
theorem trucelaw18_ClaimKeeps.mono : ∀ a0 a1 a2 a3 a4 a5 a6 a7 a8 a9 a10 a11 a12 a13 k, LeO (trucelaw18_ClaimKeeps.f k a0 a1 a2 a3 a4 a5 a6 a7 a8 a9 a10 a11 a12 a13) (trucelaw18_ClaimKeeps.f (k + 1) a0 a1 a2 a3 a4 a5 a6 a7 a8 a9 a10 a11 a12 a13) := by
  intro a0 a1 a2 a3 a4 a5 a6 a7 a8 a9 a10 a11 a12 a13 k
  obtain ⟨ih0, ih1⟩ := trucelaw18_ClaimKeeps.mono_l k
  unfold trucelaw18_ClaimKeeps.f
  repeat' first
      | (with_reducible exact ih0 _ _ _ _ _ _ _ _ _ _ _ _ _ _ _)
      | (with_reducible exact ih1 _ _ _ _ _ _)
      | (with_reducible exact trucelaw18_total.mono _ _)
      | (with_reducible exact truceref17_Same.mono _ _ _)
      | (with_reducible exact LeO.refl _)
      | (with_reducible exact LeO.none _)
      | (with_reducible refine LeO.ite ?_ ?_)
      | (with_reducible refine LeO.bind ?_ (fun _ => ?_))
      | exact ih0 _ _ _ _ _ _ _ _ _ _ _ _ _ _ _
      | exact ih1 _ _ _ _ _ _
      | exact trucelaw18_total.mono _ _
      | exact truceref17_Same.mono _ _ _
      | exact LeO.none _
      | refine LeO.ite ?_ ?_
      | refine LeO.bind ?_ (fun _ => ?_)
set_option maxHeartbeats 8000000 in
set_option maxRecDepth 100000 in
theorem trucelaw18_ClaimKeeps.callsT (k : Nat) (A0 : Option Addr) (c0 : Nat) (l0 : List (S39)) (a1 : Int) (A2 : Option Addr) (c2 : Nat) (l2 : List (S39)) (a3 : ByteArray) (a4 : Int) (a5 : Int) (a6_0 : Int) (a6_1 : Int) (a6_2 : Int) (a6_3 : Int) (a7_0 : Int) (a7_1 : Int) (a7_2 : Int) (a7_3 : Int) (r : Bool) (w : World) (hr0 : Kd.C k39 w A0 l0.length l0) (hc0 : l0.length ≤ c0) (hr2 : Kd.C k39 w A2 l2.length l2) (hc2 : l2.length ≤ c2) (hr_ : Aside0 (r = true)) (h : trucelaw18_ClaimKeeps.f k l0 a1 l2 a3 a4 a5 a6_0 a6_1 a6_2 a6_3 a7_0 a7_1 a7_2 a7_3 = some r) :
    Calls Try.prog 4 #[.slice A0 l0.length c0, .int .i64 a1, .slice A2 l2.length c2, .string a3, .int .i64 a4, .int .i64 a5, .agg #[.int .u64 a6_0, .int .u64 a6_1, .int .u64 a6_2, .int .u64 a6_3], .agg #[.int .u64 a7_0, .int .u64 a7_1, .int .u64 a7_2, .int .u64 a7_3]] w fun e w' => e = .returned (.bool r) ∧ Below w.heap.size w w' := by
  have hu25 := Try.underlying25
  have HR0 := Aside0.mk hr0
  have HC0 := Aside0.mk hc0
  clear hr0 hc0
  have HR2 := Aside0.mk hr2
  have HC2 := Aside0.mk hc2
  clear hr2 hc2
  have HB := Aside0.mk (Below.refl w.heap.size w)
  have H : ((trucelaw18_few.f l0).bind fun t229 => (if t229 = true then ((trucelaw18_few.f l2).bind fun t230 => (trucelaw18_ClaimKeeps.j0 k l0 a1 l2 a3 a4 a5 (!t230) a6_0 a6_1 a6_2 a6_3 a7_0 a7_1 a7_2 a7_3)) else (trucelaw18_ClaimKeeps.j0 k l0 a1 l2 a3 a4 a5 true a6_0 a6_1 a6_2 a6_3 a7_0 a7_1 a7_2 a7_3))) = some r := h
  clear h
  have HC9 := Aside0.mk H
  clear H
  go_enter Try.func4, Try.ntmps4
  go_upto_region 1 with (first | ((with_reducible refine gate_dst (N := 14) rfl ?_); (try (refine gate_guard (by rfl) ?_; dsimp only)); refine box_event ?hg (N := 14) ?hd (cs := #[.int .u64 a6_0, .int .u64 a6_1, .int .u64 a6_2, .int .u64 a6_3]) (t := 25) ?hr ?_; (case hd => rfl); (case hg => rfl); (case hr => first | (go_simp; done) | (go_simp; rfl)); intro gb227 hg w10 hbox hb; have n0_ := Aside0.mk (below_step (by repeat (first | (with_reducible first | exact HB.out | apply below_alloc | apply pw_below_drewN | apply below_drew1) | exact HB.out)) hb); have n1_ := Aside0.mk (hbox); have n2_ := Aside0.mk ((by rw [hg]; exact (below_size (by repeat (first | (with_reducible first | exact HB.out | apply below_alloc | apply pw_below_drewN | apply below_drew1) | exact HB.out))) : w.heap.size ≤ gb227)); have n3_ := Aside0.mk ((by rw [hg]; exact (below_size (by repeat (first | (with_reducible first | exact HB.out | apply below_alloc | apply pw_below_drewN | apply below_drew1) | exact HB.out))) : w.heap.size ≤ gb227)); clear HB; have HB := n0_; have BK227 := n1_; have GW227 := n2_; have GE227 := n3_; clear n0_ n1_ n2_ n3_; clear hb hbox hg) | ((with_reducible refine gate_dst (N := 15) rfl ?_); (try (refine gate_guard (by rfl) ?_; dsimp only)); refine box_event ?hg (N := 15) ?hd (cs := #[.int .u64 a7_0, .int .u64 a7_1, .int .u64 a7_2, .int .u64 a7_3]) (t := 25) ?hr ?_; (case hd => rfl); (case hg => rfl); (case hr => first | (go_simp; done) | (go_simp; rfl)); intro gb228 hg w11 hbox hb; have n0_ := Aside0.mk (blk_below (g := gb227) (o := .cells #[.int .u64 a6_0, .int .u64 a6_1, .int .u64 a6_2, .int .u64 a6_3] 25 (0, 0)) (by (with_reducible repeat (first | refine blk_drewN ?_ _ | refine blk_drew ?_ | refine blk_alloc ?_ _)); exact BK227.out) hb); have n1_ := Aside0.mk (below_step (by repeat (first | (with_reducible first | exact HB.out | apply below_alloc | apply pw_below_drewN | apply below_drew1 | refine below_set ?_ GE227.out) | exact HB.out)) hb); have n2_ := Aside0.mk (hbox); have n3_ := Aside0.mk ((by rw [hg]; exact (below_size (by repeat (first | (with_reducible first | exact HB.out | apply below_alloc | apply pw_below_drewN | apply below_drew1 | refine below_set ?_ GE227.out) | exact HB.out))) : w.heap.size ≤ gb228)); have n4_ := Aside0.mk ((by rw [hg]; exact (below_size (by repeat (first | (with_reducible first | exact HB.out | apply below_alloc | apply pw_below_drewN | apply below_drew1 | refine below_set ?_ GE227.out) | exact HB.out))) : w.heap.size ≤ gb228)); have n5_ := Aside0.mk ((by rw [hg]; exact Nat.ne_of_lt (blk_lt (g := gb227) (o := .cells #[.int .u64 a6_0, .int .u64 a6_1, .int .u64 a6_2, .int .u64 a6_3] 25 (0, 0)) (by (with_reducible repeat (first | refine blk_drewN ?_ _ | refine blk_drew ?_ | refine blk_alloc ?_ _)); exact BK227.out)) : gb227 ≠ gb228)); have n6_ := Aside0.mk ((by rw [hg]; exact Nat.ne_of_gt (blk_lt (g := gb227) (o := .cells #[.int .u64 a6_0, .int .u64 a6_1, .int .u64 a6_2, .int .u64 a6_3] 25 (0, 0)) (by (with_reducible repeat (first | refine blk_drewN ?_ _ | refine blk_drew ?_ | refine blk_alloc ?_ _)); exact BK227.out)) : gb228 ≠ gb227)); clear BK227; clear HB; have BK227 := n0_; have HB := n1_; have BK228 := n2_; have GW228 := n3_; have GE228 := n4_; have NB227_228 := n5_; have NB228_227 := n6_; clear n0_ n1_ n2_ n3_ n4_ n5_ n6_; clear hb hbox hg))
  (try simp only [Act.put, List.setIfInBounds_toArray, List.set_cons_zero, List.set_cons_succ])
  go_cut [28] (fun v28 wc => ∃ (kq : Nat) (x28_8 : Bool), v28 = .bool x28_8 ∧ Aside0 (trucelaw18_ClaimKeeps.j0 kq l0 a1 l2 a3 a4 a5 x28_8 a6_0 a6_1 a6_2 a6_3 a7_0 a7_1 a7_2 a7_3 = some r) ∧ Aside0 (kq ≤ k) ∧ Aside0 (wc.heap[gb227]? = some (.cells #[.int .u64 a6_0, .int .u64 a6_1, .int .u64 a6_2, .int .u64 a6_3] 25 (0, 0))) ∧ Aside0 (wc.heap[gb228]? = some (.cells #[.int .u64 a7_0, .int .u64 a7_1, .int .u64 a7_2, .int .u64 a7_3] 25 (0, 0))) ∧ Aside0 (Below w.heap.size w wc))
  case first =>
    have H := HC9.out
    clear HC9
    replace H := Option.bind_eq_some_iff.mp H
    obtain ⟨t229, A120, H⟩ := H
    replace H : (if t229 = true then ((trucelaw18_few.f l2).bind fun t230 => (trucelaw18_ClaimKeeps.j0 k l0 a1 l2 a3 a4 a5 (!t230) a6_0 a6_1 a6_2 a6_3 a7_0 a7_1 a7_2 a7_3)) else (trucelaw18_ClaimKeeps.j0 k l0 a1 l2 a3 a4 a5 true a6_0 a6_1 a6_2 a6_3 a7_0 a7_1 a7_2 a7_3)) = some r := H
    have A12 := Aside0.mk A120
    clear A120
    by_cases c13 : t229 = true
    · subst c13
      have H1 : ((trucelaw18_few.f l2).bind fun t230 => (trucelaw18_ClaimKeeps.j0 k l0 a1 l2 a3 a4 a5 (!t230) a6_0 a6_1 a6_2 a6_3 a7_0 a7_1 a7_2 a7_3)) = some r := by rw [if_pos rfl] at H; exact H
      clear H
      have H := H1
      clear H1
      replace H := Option.bind_eq_some_iff.mp H
      obtain ⟨t230, A140, H⟩ := H
      replace H : (trucelaw18_ClaimKeeps.j0 k l0 a1 l2 a3 a4 a5 (!t230) a6_0 a6_1 a6_2 a6_3 a7_0 a7_1 a7_2 a7_3) = some r := H
      have A14 := Aside0.mk A140
      clear A140
      have H' := Aside0.mk H
      clear H
      go_wp2_with (first | ((with_reducible refine gate_callee (f := 7) rfl ?_); refine goesL_ (some 22) rfl rfl Try.func7 (by kernel_rfl) rfl #[.slice A0 l0.length c0] rfl (by (try simp only [List.map_toArray, List.map_cons, List.map_nil]); first | done | rfl | (simp only [List.length_drop, List.length_take]; rfl)) ?_; (with_reducible refine (trucelaw18_few.calls _ _ l0 true _ ?side1 ?side2 A12.out).mono ?_); (case side1 => repeat (first | exact (Kd.C_below HR0.out HB.out) | (with_reducible refine Kd.C_alloc ?_ _) | (with_reducible refine Kd.C_drewN ?_ _) | (with_reducible refine Kd.C_drew ?_))); (case side2 => exact HC0.out); rintro e w' ⟨rfl, ⟨nd, rfl⟩⟩; refine ⟨_, rfl, ?_⟩) | (go_at_call 7; (with_reducible refine (trucelaw18_few.calls _ _ l2 t230 _ ?side1 ?side2 A14.out).mono ?_); (case side1 => repeat (first | exact (Kd.C_below HR2.out (by repeat (first | (with_reducible first | exact HB.out | apply below_alloc | apply pw_below_drewN | apply below_drew1 | refine below_set ?_ GE227.out | refine below_set ?_ GE228.out) | exact HB.out))) | (with_reducible refine Kd.C_alloc ?_ _) | (with_reducible refine Kd.C_drewN ?_ _) | (with_reducible refine Kd.C_drew ?_))); (case side2 => exact HC2.out); rintro e w' ⟨rfl, ⟨nd, rfl⟩⟩))
      go_meet
      case rel => exact ⟨_, (!t230), (by first | rfl | (simp; done) | (simp [*]; done)), H', ⟨by first | omega | exact Nat.le_refl _⟩, ⟨by (with_reducible repeat (first | refine blk_drewN ?_ _ | refine blk_drew ?_ | refine blk_alloc ?_ _)); exact BK227.out⟩, ⟨by (with_reducible repeat (first | refine blk_drewN ?_ _ | refine blk_drew ?_ | refine blk_alloc ?_ _)); exact BK228.out⟩, ⟨by repeat (first | (with_reducible first | exact HB.out | apply below_alloc | apply pw_below_drewN | apply below_drew1 | refine below_set ?_ GE227.out | refine below_set ?_ GE228.out) | exact HB.out)⟩⟩
    · replace c13 := Bool.eq_false_iff.mpr c13
      subst c13
      have H1 : (trucelaw18_ClaimKeeps.j0 k l0 a1 l2 a3 a4 a5 true a6_0 a6_1 a6_2 a6_3 a7_0 a7_1 a7_2 a7_3) = some r := by rw [if_neg (show ¬ (false = true) by decide)] at H; exact H
      clear H
      have H := H1
      clear H1
      have H' := Aside0.mk H
      clear H
      go_wp2_with (first | ((with_reducible refine gate_callee (f := 7) rfl ?_); refine goesL_ (some 22) rfl rfl Try.func7 (by kernel_rfl) rfl #[.slice A0 l0.length c0] rfl (by (try simp only [List.map_toArray, List.map_cons, List.map_nil]); first | done | rfl | (simp only [List.length_drop, List.length_take]; rfl)) ?_; (with_reducible refine (trucelaw18_few.calls _ _ l0 false _ ?side1 ?side2 A12.out).mono ?_); (case side1 => repeat (first | exact (Kd.C_below HR0.out HB.out) | (with_reducible refine Kd.C_alloc ?_ _) | (with_reducible refine Kd.C_drewN ?_ _) | (with_reducible refine Kd.C_drew ?_))); (case side2 => exact HC0.out); rintro e w' ⟨rfl, ⟨nd, rfl⟩⟩; refine ⟨_, rfl, ?_⟩))
      go_meet
      case rel => exact ⟨_, (true), (by first | rfl | (simp; done) | (simp [*]; done)), H', ⟨by first | omega | exact Nat.le_refl _⟩, ⟨by (with_reducible repeat (first | refine blk_drewN ?_ _ | refine blk_drew ?_ | refine blk_alloc ?_ _)); exact BK227.out⟩, ⟨by (with_reducible repeat (first | refine blk_drewN ?_ _ | refine blk_drew ?_ | refine blk_alloc ?_ _)); exact BK228.out⟩, ⟨by repeat (first | (with_reducible first | exact HB.out | apply below_alloc | apply pw_below_drewN | apply below_drew1 | refine below_set ?_ GE227.out | refine below_set ?_ GE228.out) | exact HB.out)⟩⟩
  case rest =>
    clear HC9
    try clear c1
    try clear c2
    try clear p2
    try clear c4
    try clear c7
    try clear c13
    obtain ⟨kq, x28_8, rfl, HA, HJ8, BK227, BK228, HB⟩ := hcut
    cases kq with
    | zero => exact absurd HA.out (by simp [trucelaw18_ClaimKeeps.j0])
    | succ kj8 =>
      have H := HA.out
      clear HA
      simp only [trucelaw18_ClaimKeeps.j0] at H
      by_cases c15 : x28_8 = true
      · subst c15
        have H1 : ((trucelaw18_awake.f).bind fun t231 => (some t231)) = some r := by rw [if_pos rfl] at H; exact H
        clear H
        have H := H1
        clear H1
        replace H := Option.bind_eq_some_iff.mp H
        obtain ⟨t231, A160, H⟩ := H
        replace H : (some t231) = some r := H
        have A16 := Aside0.mk A160
        clear A160
        obtain rfl := Option.some.inj H
        go_wp2_with (first | ((with_reducible refine gate_callee (f := 8) rfl ?_); refine goesL_ (some 29) rfl rfl Try.func8 (by kernel_rfl) rfl #[] rfl (by (try simp only [List.map_toArray, List.map_cons, List.map_nil]); first | done | rfl | (simp only [List.length_drop, List.length_take]; rfl)) ?_; (with_reducible refine (trucelaw18_awake.calls  t231 _ A16.out).mono ?_); rintro e w17 ⟨rfl, hb⟩; refine ⟨_, rfl, ?_⟩; have n0_ := Aside0.mk (blk_below (g := gb227) (o := .cells #[.int .u64 a6_0, .int .u64 a6_1, .int .u64 a6_2, .int .u64 a6_3] 25 (0, 0)) (by (with_reducible repeat (first | refine blk_drewN ?_ _ | refine blk_drew ?_ | refine blk_alloc ?_ _)); exact BK227.out) hb); have n1_ := Aside0.mk (blk_below (g := gb228) (o := .cells #[.int .u64 a7_0, .int .u64 a7_1, .int .u64 a7_2, .int .u64 a7_3] 25 (0, 0)) (by (with_reducible repeat (first | refine blk_drewN ?_ _ | refine blk_drew ?_ | refine blk_alloc ?_ _)); exact BK228.out) hb); have n2_ := Aside0.mk (below_step (by repeat (first | (with_reducible first | exact HB.out | apply below_alloc | apply pw_below_drewN | apply below_drew1 | refine below_set ?_ GE227.out | refine below_set ?_ GE228.out) | exact HB.out)) hb); clear BK227; clear BK228; clear HB; have BK227 := n0_; have BK228 := n1_; have HB := n2_; clear n0_ n1_ n2_; (try clear hb); (try clear hb2); (try clear hk); (try clear hi)))
        go_ret
        exact ⟨by first | rfl | (simp [errW_none, errW_some] <;> rfl) | (simp [*, errW_none, errW_some] <;> rfl), by repeat (first | (with_reducible first | exact HB.out | apply below_alloc | apply pw_below_drewN | apply below_drew1 | refine below_set ?_ GE227.out | refine below_set ?_ GE228.out) | exact HB.out)⟩
      · replace c15 := Bool.eq_false_iff.mpr c15
        subst c15
        have H1 : ((claim_Reclaim.f l0 a1 l2).bind fun bt232 => ((claim_Bind.f l0 a3 a4 a5 a6_0 a6_1 a6_2 a6_3 a7_0 a7_1 a7_2 a7_3).bind fun bt236 => (if bt232.2 = 0 then (if (bt232.1.length : Int) = (wrap64 ((l0.length : Int) - 1)) then (if bt236.2 = 0 then (trucelaw18_ClaimKeeps.j1 kj8 l0 bt232.1 bt232.2 bt236.1 bt236.2 ((bt236.1.length : Int) != (wrap64 ((l0.length : Int) + 1)))) else (trucelaw18_ClaimKeeps.j1 kj8 l0 bt232.1 bt232.2 bt236.1 bt236.2 false)) else (trucelaw18_ClaimKeeps.j1 kj8 l0 bt232.1 bt232.2 bt236.1 bt236.2 true)) else (if bt236.2 = 0 then (trucelaw18_ClaimKeeps.j1 kj8 l0 bt232.1 bt232.2 bt236.1 bt236.2 ((bt236.1.length : Int) != (wrap64 ((l0.length : Int) + 1)))) else (trucelaw18_ClaimKeeps.j1 kj8 l0 bt232.1 bt232.2 bt236.1 bt236.2 false))))) = some r := by rw [if_neg (show ¬ (false = true) by decide)] at H; exact H
        clear H
        have H := H1
        clear H1
        replace H := Option.bind_eq_some_iff.mp H
        obtain ⟨⟨t232, t235⟩, A180, H⟩ := H
        replace H : ((claim_Bind.f l0 a3 a4 a5 a6_0 a6_1 a6_2 a6_3 a7_0 a7_1 a7_2 a7_3).bind fun bt236 => (if t235 = 0 then (if (t232.length : Int) = (wrap64 ((l0.length : Int) - 1)) then (if bt236.2 = 0 then (trucelaw18_ClaimKeeps.j1 kj8 l0 t232 t235 bt236.1 bt236.2 ((bt236.1.length : Int) != (wrap64 ((l0.length : Int) + 1)))) else (trucelaw18_ClaimKeeps.j1 kj8 l0 t232 t235 bt236.1 bt236.2 false)) else (trucelaw18_ClaimKeeps.j1 kj8 l0 t232 t235 bt236.1 bt236.2 true)) else (if bt236.2 = 0 then (trucelaw18_ClaimKeeps.j1 kj8 l0 t232 t235 bt236.1 bt236.2 ((bt236.1.length : Int) != (wrap64 ((l0.length : Int) + 1)))) else (trucelaw18_ClaimKeeps.j1 kj8 l0 t232 t235 bt236.1 bt236.2 false)))) = some r := H
        have A18 := Aside0.mk A180
        clear A180
        replace H := Option.bind_eq_some_iff.mp H
        obtain ⟨⟨t236, t239⟩, A190, H⟩ := H
        replace H : (if t235 = 0 then (if (t232.length : Int) = (wrap64 ((l0.length : Int) - 1)) then (if t239 = 0 then (trucelaw18_ClaimKeeps.j1 kj8 l0 t232 t235 t236 t239 ((t236.length : Int) != (wrap64 ((l0.length : Int) + 1)))) else (trucelaw18_ClaimKeeps.j1 kj8 l0 t232 t235 t236 t239 false)) else (trucelaw18_ClaimKeeps.j1 kj8 l0 t232 t235 t236 t239 true)) else (if t239 = 0 then (trucelaw18_ClaimKeeps.j1 kj8 l0 t232 t235 t236 t239 ((t236.length : Int) != (wrap64 ((l0.length : Int) + 1)))) else (trucelaw18_ClaimKeeps.j1 kj8 l0 t232 t235 t236 t239 false))) = some r := H
        have A19 := Aside0.mk A190
        clear A190
        have HC20 := Aside0.mk H
        clear H
        go_upto_region 5 with (first | ((with_reducible refine gate_callee (f := 9) rfl ?_); refine goesL_ (some 34) rfl rfl Try.func9 (by kernel_rfl) rfl #[.slice A0 l0.length c0, .int .i64 a1, .slice A2 l2.length c2] rfl (by (try simp only [List.map_toArray, List.map_cons, List.map_nil]); first | done | rfl | (simp only [List.length_drop, List.length_take]; rfl)) ?_; (with_reducible refine (claim_Reclaim.calls (fun k_ => k_ < w.heap.size) _ _ l0 a1 _ _ l2 t232 t235 _ ?side1 ?side2 ?side3 A18.out).mono ?_); (case side1 => exact Kd.V_mk HC0.out (Kd.F_below (Kd.C_F k39_heap HR0.out) (by repeat (first | (with_reducible first | exact HB.out | apply below_alloc | apply pw_below_drewN | apply below_drew1 | refine below_set ?_ GE227.out | refine below_set ?_ GE228.out) | exact HB.out)))); (case side2 => repeat (first | exact (Kd.C_below HR2.out HB.out) | (with_reducible refine Kd.C_alloc ?_ _) | (with_reducible refine Kd.C_drewN ?_ _) | (with_reducible refine Kd.C_drew ?_))); (case side3 => exact HC2.out); rintro e w21 ⟨v233, rfl, ho0, hb⟩; refine ⟨_, rfl, ?_⟩; have n0_ := Aside0.mk (Kd.V_lower (Kd.V_mono (ok' := fun k_ => k_ ≠ gb227 ∧ k_ ≠ gb228) ho0 (fun k_ hk_ => ⟨Or.elim hk_ (fun hs_ => fun e_ => Nat.not_le.2 hs_ (by rw [e_]; exact GW227.out)) (fun hn_ => (Kd.freshB (g := gb227) (o := .cells #[.int .u64 a6_0, .int .u64 a6_1, .int .u64 a6_2, .int .u64 a6_3] 25 (0, 0)) (by (with_reducible repeat (first | refine blk_drewN ?_ _ | refine blk_drew ?_ | refine blk_alloc ?_ _)); exact BK227.out) k_ hn_)), Or.elim hk_ (fun hs_ => fun e_ => Nat.not_le.2 hs_ (by rw [e_]; exact GW228.out)) (fun hn_ => (Kd.freshB (g := gb228) (o := .cells #[.int .u64 a7_0, .int .u64 a7_1, .int .u64 a7_2, .int .u64 a7_3] 25 (0, 0)) (by (with_reducible repeat (first | refine blk_drewN ?_ _ | refine blk_drew ?_ | refine blk_alloc ?_ _)); exact BK228.out) k_ hn_))⟩)) (below_size (by repeat (first | (with_reducible first | exact HB.out | apply below_alloc | apply pw_below_drewN | apply below_drew1 | refine below_set ?_ GE227.out | refine below_set ?_ GE228.out) | exact HB.out)))); have n1_ := Aside0.mk (blk_below (g := gb227) (o := .cells #[.int .u64 a6_0, .int .u64 a6_1, .int .u64 a6_2, .int .u64 a6_3] 25 (0, 0)) (by (with_reducible repeat (first | refine blk_drewN ?_ _ | refine blk_drew ?_ | refine blk_alloc ?_ _)); exact BK227.out) hb); have n2_ := Aside0.mk (blk_below (g := gb228) (o := .cells #[.int .u64 a7_0, .int .u64 a7_1, .int .u64 a7_2, .int .u64 a7_3] 25 (0, 0)) (by (with_reducible repeat (first | refine blk_drewN ?_ _ | refine blk_drew ?_ | refine blk_alloc ?_ _)); exact BK228.out) hb); have n3_ := Aside0.mk (below_step (by repeat (first | (with_reducible first | exact HB.out | apply below_alloc | apply pw_below_drewN | apply below_drew1 | refine below_set ?_ GE227.out | refine below_set ?_ GE228.out) | exact HB.out)) hb); clear BK227; clear BK228; clear HB; have HO234 := n0_; have BK227 := n1_; have BK228 := n2_; have HB := n3_; clear n0_ n1_ n2_ n3_; (try clear hb); (try clear hb2); (try clear hk); (try clear hi); (try clear ho0); have hnb22 := NB227_228.out; have hnc22 := NB228_227.out; have hcz23_0 : w21.cell? ⟨gb227, 0, none⟩ = some (.int .u64 a6_0) := (blk_cell BK227.out 0).trans rfl; have hcz23_1 : w21.cell? ⟨gb227, 1, none⟩ = some (.int .u64 a6_1) := (blk_cell BK227.out 1).trans rfl; have hcz23_2 : w21.cell? ⟨gb227, 2, none⟩ = some (.int .u64 a6_2) := (blk_cell BK227.out 2).trans rfl; have hcz23_3 : w21.cell? ⟨gb227, 3, none⟩ = some (.int .u64 a6_3) := (blk_cell BK227.out 3).trans rfl; have hfz23_0 := blk_frozen BK227.out 0; have hfz23_1 := blk_frozen BK227.out 1; have hfz23_2 := blk_frozen BK227.out 2; have hfz23_3 := blk_frozen BK227.out 3; have hcz24_0 : w21.cell? ⟨gb228, 0, none⟩ = some (.int .u64 a7_0) := (blk_cell BK228.out 0).trans rfl; have hcz24_1 : w21.cell? ⟨gb228, 1, none⟩ = some (.int .u64 a7_1) := (blk_cell BK228.out 1).trans rfl; have hcz24_2 : w21.cell? ⟨gb228, 2, none⟩ = some (.int .u64 a7_2) := (blk_cell BK228.out 2).trans rfl; have hcz24_3 : w21.cell? ⟨gb228, 3, none⟩ = some (.int .u64 a7_3) := (blk_cell BK228.out 3).trans rfl; have hfz24_0 := blk_frozen BK228.out 0; have hfz24_1 := blk_frozen BK228.out 1; have hfz24_2 := blk_frozen BK228.out 2; have hfz24_3 := blk_frozen BK228.out 3) | ((with_reducible refine gate_callee (f := 11) rfl ?_); refine goesL_ (some 44) rfl rfl Try.func11 (by kernel_rfl) rfl #[.slice A0 l0.length c0, .string a3, .int .i64 a4, .int .i64 a5, .agg #[.int .u64 a6_0, .int .u64 a6_1, .int .u64 a6_2, .int .u64 a6_3], .agg #[.int .u64 a7_0, .int .u64 a7_1, .int .u64 a7_2, .int .u64 a7_3]] rfl (by (try simp only [List.map_toArray, List.map_cons, List.map_nil]); first | done | rfl | (simp only [List.length_drop, List.length_take]; rfl)) ?_; (with_reducible refine (claim_Bind.calls (fun k_ => k_ < w.heap.size) _ _ l0 a3 a4 a5 a6_0 a6_1 a6_2 a6_3 a7_0 a7_1 a7_2 a7_3 t236 t239 _ ?side1 A19.out).mono ?_); (case side1 => exact Kd.V_mk HC0.out (Kd.F_below (Kd.C_F k39_heap HR0.out) (by repeat (first | (with_reducible first | exact HB.out | apply below_alloc | apply pw_below_drewN | apply below_drew1 | refine below_set ?_ GE227.out | refine below_set ?_ GE228.out) | exact HB.out)))); rintro e w25 ⟨v237, rfl, ho0, hb⟩; refine ⟨_, rfl, ?_⟩; have n0_ := Aside0.mk (Kd.V_below (by (with_reducible repeat (first | apply Kd.V_alloc | apply Kd.V_drewN | apply Kd.V_drew)); exact HO234.out) hb); have n1_ := Aside0.mk (Kd.V_lower (Kd.V_mono (ok' := fun k_ => k_ ≠ gb227 ∧ k_ ≠ gb228) ho0 (fun k_ hk_ => ⟨Or.elim hk_ (fun hs_ => fun e_ => Nat.not_le.2 hs_ (by rw [e_]; exact GW227.out)) (fun hn_ => (Kd.freshB (g := gb227) (o := .cells #[.int .u64 a6_0, .int .u64 a6_1, .int .u64 a6_2, .int .u64 a6_3] 25 (0, 0)) (by (with_reducible repeat (first | refine blk_drewN ?_ _ | refine blk_drew ?_ | refine blk_alloc ?_ _)); exact BK227.out) k_ hn_)), Or.elim hk_ (fun hs_ => fun e_ => Nat.not_le.2 hs_ (by rw [e_]; exact GW228.out)) (fun hn_ => (Kd.freshB (g := gb228) (o := .cells #[.int .u64 a7_0, .int .u64 a7_1, .int .u64 a7_2, .int .u64 a7_3] 25 (0, 0)) (by (with_reducible repeat (first | refine blk_drewN ?_ _ | refine blk_drew ?_ | refine blk_alloc ?_ _)); exact BK228.out) k_ hn_))⟩)) (below_size (by repeat (first | (with_reducible first | exact HB.out | apply below_alloc | apply pw_below_drewN | apply below_drew1 | refine below_set ?_ GE227.out | refine below_set ?_ GE228.out) | exact HB.out)))); have n2_ := Aside0.mk (blk_below (g := gb227) (o := .cells #[.int .u64 a6_0, .int .u64 a6_1, .int .u64 a6_2, .int .u64 a6_3] 25 (0, 0)) (by (with_reducible repeat (first | refine blk_drewN ?_ _ | refine blk_drew ?_ | refine blk_alloc ?_ _)); exact BK227.out) hb); have n3_ := Aside0.mk (blk_below (g := gb228) (o := .cells #[.int .u64 a7_0, .int .u64 a7_1, .int .u64 a7_2, .int .u64 a7_3] 25 (0, 0)) (by (with_reducible repeat (first | refine blk_drewN ?_ _ | refine blk_drew ?_ | refine blk_alloc ?_ _)); exact BK228.out) hb); have n4_ := Aside0.mk (below_step (by repeat (first | (with_reducible first | exact HB.out | apply below_alloc | apply pw_below_drewN | apply below_drew1 | refine below_set ?_ GE227.out | refine below_set ?_ GE228.out) | exact HB.out)) hb); clear HO234; clear BK227; clear BK228; clear HB; have HO234 := n0_; have HO238 := n1_; have BK227 := n2_; have BK228 := n3_; have HB := n4_; clear n0_ n1_ n2_ n3_ n4_; (try clear hb); (try clear hb2); (try clear hk); (try clear hi); (try clear ho0)))
        (try simp only [Act.put, List.setIfInBounds_toArray, List.set_cons_zero, List.set_cons_succ])
        go_cut [68] (fun v68 wc => ∃ (kq : Nat) (x68_19 : Bool), v68 = .bool x68_19 ∧ Aside0 (trucelaw18_ClaimKeeps.j1 kq l0 t232 t235 t236 t239 x68_19 = some r) ∧ Aside0 (kq ≤ kj8) ∧ Aside0 (Kd.V k39 39 wc w.heap.size (fun k_ => k_ ≠ gb227 ∧ k_ ≠ gb228) v233 t232) ∧ Aside0 (Kd.V k39 39 wc w.heap.size (fun k_ => k_ ≠ gb227 ∧ k_ ≠ gb228) v237 t236) ∧ Aside0 (wc.heap[gb227]? = some (.cells #[.int .u64 a6_0, .int .u64 a6_1, .int .u64 a6_2, .int .u64 a6_3] 25 (0, 0))) ∧ Aside0 (wc.heap[gb228]? = some (.cells #[.int .u64 a7_0, .int .u64 a7_1, .int .u64 a7_2, .int .u64 a7_3] 25 (0, 0))) ∧ Aside0 (Below w.heap.size w wc))
        case first =>
          have H := HC20.out
          clear HC20
          by_cases c26 : t235 = 0
          · rw [if_pos c26] at H
            have c26b0 : (t235 == 0) = true := beq_iff_eq.mpr c26
            have c26b1 : (t235 != 0) = false := bne_eq_false_iff_eq.mpr c26
            clear c26
            (first | rw [c26b0] | (simp only [i64_w, i32_w]; rw [c26b0]) | skip)
            by_cases c27 : (t232.length : Int) = (wrap64 ((l0.length : Int) - 1))
            · rw [if_pos c27] at H
              have c27b0 : ((t232.length : Int) == (wrap64 ((l0.length : Int) - 1))) = true := beq_iff_eq.mpr c27
              have c27b1 : ((t232.length : Int) != (wrap64 ((l0.length : Int) - 1))) = false := bne_eq_false_iff_eq.mpr c27
              clear c27
              by_cases c28 : t239 = 0
              · rw [if_pos c28] at H
                have c28b0 : (t239 == 0) = true := beq_iff_eq.mpr c28
                have c28b1 : (t239 != 0) = false := bne_eq_false_iff_eq.mpr c28
                clear c28
                have H' := Aside0.mk H
                clear H
                obtain ⟨Ao29, co29, eo29⟩ := Kd.V_slice HO234.out
                subst eo29
                obtain ⟨Ao30, co30, eo30⟩ := Kd.V_slice HO238.out
                subst eo30
                go_wp2
                go_meet
                case rel => exact ⟨_, (((t236.length : Int) != (wrap64 ((l0.length : Int) + 1)))), (by first | rfl | (simp; done) | (simp [*]; done)), H', ⟨by have := HJ8.out; first | omega | exact Nat.le_refl _⟩, ⟨by (with_reducible repeat (first | apply Kd.V_alloc | apply Kd.V_drewN | apply Kd.V_drew)); exact HO234.out⟩, ⟨by (with_reducible repeat (first | apply Kd.V_alloc | apply Kd.V_drewN | apply Kd.V_drew)); exact HO238.out⟩, ⟨by (with_reducible repeat (first | refine blk_drewN ?_ _ | refine blk_drew ?_ | refine blk_alloc ?_ _)); exact BK227.out⟩, ⟨by (with_reducible repeat (first | refine blk_drewN ?_ _ | refine blk_drew ?_ | refine blk_alloc ?_ _)); exact BK228.out⟩, ⟨by repeat (first | (with_reducible first | exact HB.out | apply below_alloc | apply pw_below_drewN | apply below_drew1 | refine below_set ?_ GE227.out | refine below_set ?_ GE228.out) | exact HB.out)⟩⟩
              · rw [if_neg c28] at H
                have c28b0 : (t239 == 0) = false := beq_eq_false_iff_ne.mpr c28
                have c28b1 : (t239 != 0) = true := bne_iff_ne.mpr c28
                have H' := Aside0.mk H
                clear H
                obtain ⟨Ao31, co31, eo31⟩ := Kd.V_slice HO234.out
                subst eo31
                go_wp2
                go_meet
                case rel => exact ⟨_, (false), (by first | rfl | (simp; done) | (simp [*]; done)), H', ⟨by have := HJ8.out; first | omega | exact Nat.le_refl _⟩, ⟨by (with_reducible repeat (first | apply Kd.V_alloc | apply Kd.V_drewN | apply Kd.V_drew)); exact HO234.out⟩, ⟨by (with_reducible repeat (first | apply Kd.V_alloc | apply Kd.V_drewN | apply Kd.V_drew)); exact HO238.out⟩, ⟨by (with_reducible repeat (first | refine blk_drewN ?_ _ | refine blk_drew ?_ | refine blk_alloc ?_ _)); exact BK227.out⟩, ⟨by (with_reducible repeat (first | refine blk_drewN ?_ _ | refine blk_drew ?_ | refine blk_alloc ?_ _)); exact BK228.out⟩, ⟨by repeat (first | (with_reducible first | exact HB.out | apply below_alloc | apply pw_below_drewN | apply below_drew1 | refine below_set ?_ GE227.out | refine below_set ?_ GE228.out) | exact HB.out)⟩⟩
            · rw [if_neg c27] at H
              have c27b0 : ((t232.length : Int) == (wrap64 ((l0.length : Int) - 1))) = false := beq_eq_false_iff_ne.mpr c27
              have c27b1 : ((t232.length : Int) != (wrap64 ((l0.length : Int) - 1))) = true := bne_iff_ne.mpr c27
              have H' := Aside0.mk H
              clear H
              obtain ⟨Ao32, co32, eo32⟩ := Kd.V_slice HO234.out
              subst eo32
              go_wp2
              go_meet
              case rel => exact ⟨_, (true), (by first | rfl | (simp; done) | (simp [*]; done)), H', ⟨by have := HJ8.out; first | omega | exact Nat.le_refl _⟩, ⟨by (with_reducible repeat (first | apply Kd.V_alloc | apply Kd.V_drewN | apply Kd.V_drew)); exact HO234.out⟩, ⟨by (with_reducible repeat (first | apply Kd.V_alloc | apply Kd.V_drewN | apply Kd.V_drew)); exact HO238.out⟩, ⟨by (with_reducible repeat (first | refine blk_drewN ?_ _ | refine blk_drew ?_ | refine blk_alloc ?_ _)); exact BK227.out⟩, ⟨by (with_reducible repeat (first | refine blk_drewN ?_ _ | refine blk_drew ?_ | refine blk_alloc ?_ _)); exact BK228.out⟩, ⟨by repeat (first | (with_reducible first | exact HB.out | apply below_alloc | apply pw_below_drewN | apply below_drew1 | refine below_set ?_ GE227.out | refine below_set ?_ GE228.out) | exact HB.out)⟩⟩
          · rw [if_neg c26] at H
            have c26b0 : (t235 == 0) = false := beq_eq_false_iff_ne.mpr c26
            have c26b1 : (t235 != 0) = true := bne_iff_ne.mpr c26
            (first | rw [c26b0] | (simp only [i64_w, i32_w]; rw [c26b0]) | skip)
            by_cases c33 : t239 = 0
            · rw [if_pos c33] at H
              have c33b0 : (t239 == 0) = true := beq_iff_eq.mpr c33
              have c33b1 : (t239 != 0) = false := bne_eq_false_iff_eq.mpr c33
              clear c33
              have H' := Aside0.mk H
              clear H
              obtain ⟨Ao34, co34, eo34⟩ := Kd.V_slice HO238.out
              subst eo34
              go_wp2
              go_meet
              case rel => exact ⟨_, (((t236.length : Int) != (wrap64 ((l0.length : Int) + 1)))), (by first | rfl | (simp; done) | (simp [*]; done)), H', ⟨by have := HJ8.out; first | omega | exact Nat.le_refl _⟩, ⟨by (with_reducible repeat (first | apply Kd.V_alloc | apply Kd.V_drewN | apply Kd.V_drew)); exact HO234.out⟩, ⟨by (with_reducible repeat (first | apply Kd.V_alloc | apply Kd.V_drewN | apply Kd.V_drew)); exact HO238.out⟩, ⟨by (with_reducible repeat (first | refine blk_drewN ?_ _ | refine blk_drew ?_ | refine blk_alloc ?_ _)); exact BK227.out⟩, ⟨by (with_reducible repeat (first | refine blk_drewN ?_ _ | refine blk_drew ?_ | refine blk_alloc ?_ _)); exact BK228.out⟩, ⟨by repeat (first | (with_reducible first | exact HB.out | apply below_alloc | apply pw_below_drewN | apply below_drew1 | refine below_set ?_ GE227.out | refine below_set ?_ GE228.out) | exact HB.out)⟩⟩
            · rw [if_neg c33] at H
              have c33b0 : (t239 == 0) = false := beq_eq_false_iff_ne.mpr c33
              have c33b1 : (t239 != 0) = true := bne_iff_ne.mpr c33
              have H' := Aside0.mk H
              clear H
              go_wp2
              go_meet
              case rel => exact ⟨_, (false), (by first | rfl | (simp; done) | (simp [*]; done)), H', ⟨by have := HJ8.out; first | omega | exact Nat.le_refl _⟩, ⟨by (with_reducible repeat (first | apply Kd.V_alloc | apply Kd.V_drewN | apply Kd.V_drew)); exact HO234.out⟩, ⟨by (with_reducible repeat (first | apply Kd.V_alloc | apply Kd.V_drewN | apply Kd.V_drew)); exact HO238.out⟩, ⟨by (with_reducible repeat (first | refine blk_drewN ?_ _ | refine blk_drew ?_ | refine blk_alloc ?_ _)); exact BK227.out⟩, ⟨by (with_reducible repeat (first | refine blk_drewN ?_ _ | refine blk_drew ?_ | refine blk_alloc ?_ _)); exact BK228.out⟩, ⟨by repeat (first | (with_reducible first | exact HB.out | apply below_alloc | apply pw_below_drewN | apply below_drew1 | refine below_set ?_ GE227.out | refine below_set ?_ GE228.out) | exact HB.out)⟩⟩
        case rest =>
          clear HC20
          try clear c1
          try clear c2
          try clear p2
          try clear c3
          try clear c4
          try clear p6
          try clear c7
          try clear c8
          try clear c9
          try clear c11
          try clear c13
          try clear c15
          try clear c22
          try clear c26
          try clear c26b0
          try clear c26b1
          try clear c27
          try clear c27b0
          try clear c27b1
          try clear c28
          try clear c28b0
          try clear c28b1
          try clear c33
          try clear c33b0
          try clear c33b1
          try clear hcz23_0
          try clear hcz23_1
          try clear hcz23_2
          try clear hcz23_3
          try clear hcz24_0
          try clear hcz24_1
          try clear hcz24_2
          try clear hcz24_3
          try clear hfz23_0
          try clear hfz23_1
          try clear hfz23_2
          try clear hfz23_3
          try clear hfz24_0
          try clear hfz24_1
          try clear hfz24_2
          try clear hfz24_3
          try clear p2
          obtain ⟨kq, x68_19, rfl, HA, HJ19, HO_17, HO_19, BK227, BK228, HB⟩ := hcut
          cases kq with
          | zero => exact absurd HA.out (by simp [trucelaw18_ClaimKeeps.j1])
          | succ kj19 =>
            have H := HA.out
            clear HA
            simp only [trucelaw18_ClaimKeeps.j1] at H
            by_cases c35 : x68_19 = true
            · subst c35
              have H1 : (some false) = some r := by rw [if_pos rfl] at H; exact H
              clear H
              have H := H1
              clear H1
              exact absurd (hr_.out.symm.trans (Option.some.inj H).symm) (by simp)
            · replace c35 := Bool.eq_false_iff.mpr c35
              subst c35
              have H1 : ((trucelaw18_total.f kj19 t232).bind fun bt240 => ((trucelaw18_total.f kj19 l0).bind fun bt244 => (if (bt240.1 == bt244.1 && (bt240.2.1 == bt244.2.1 && (bt240.2.2.1 == bt244.2.2.1 && (bt240.2.2.2 == bt244.2.2.2)))) = true then ((trucelaw18_total.f kj19 t236).bind fun bt248 => ((trucelaw18_total.f kj19 l0).bind fun bt252 => (if (bt248.1 == bt252.1 && (bt248.2.1 == bt252.2.1 && (bt248.2.2.1 == bt252.2.2.1 && (bt248.2.2.2 == bt252.2.2.2)))) = true then (if t235 = 0 then (if t239 = 0 then ((trucelaw18_awake.f).bind fun t256 => (some t256)) else ((truceref17_Same.f kj19 t236 l0).bind fun t257 => (if t257 = true then ((trucelaw18_awake.f).bind fun t258 => (some t258)) else (some false)))) else ((truceref17_Same.f kj19 t232 l0).bind fun t259 => (if t259 = true then (if t239 = 0 then ((trucelaw18_awake.f).bind fun t260 => (some t260)) else ((truceref17_Same.f kj19 t236 l0).bind fun t261 => (if t261 = true then ((trucelaw18_awake.f).bind fun t262 => (some t262)) else (some false)))) else (some false)))) else (some false)))) else (some false)))) = some r := by rw [if_neg (show ¬ (false = true) by decide)] at H; exact H
              clear H
              have H := H1
              clear H1
              replace H := Option.bind_eq_some_iff.mp H
              obtain ⟨⟨t240, t241, t242, t243⟩, A360, H⟩ := H
              replace H : ((trucelaw18_total.f kj19 l0).bind fun bt244 => (if (t240 == bt244.1 && (t241 == bt244.2.1 && (t242 == bt244.2.2.1 && (t243 == bt244.2.2.2)))) = true then ((trucelaw18_total.f kj19 t236).bind fun bt248 => ((trucelaw18_total.f kj19 l0).bind fun bt252 => (if (bt248.1 == bt252.1 && (bt248.2.1 == bt252.2.1 && (bt248.2.2.1 == bt252.2.2.1 && (bt248.2.2.2 == bt252.2.2.2)))) = true then (if t235 = 0 then (if t239 = 0 then ((trucelaw18_awake.f).bind fun t256 => (some t256)) else ((truceref17_Same.f kj19 t236 l0).bind fun t257 => (if t257 = true then ((trucelaw18_awake.f).bind fun t258 => (some t258)) else (some false)))) else ((truceref17_Same.f kj19 t232 l0).bind fun t259 => (if t259 = true then (if t239 = 0 then ((trucelaw18_awake.f).bind fun t260 => (some t260)) else ((truceref17_Same.f kj19 t236 l0).bind fun t261 => (if t261 = true then ((trucelaw18_awake.f).bind fun t262 => (some t262)) else (some false)))) else (some false)))) else (some false)))) else (some false))) = some r := H
              have A36 := Aside0.mk A360
              clear A360
              replace H := Option.bind_eq_some_iff.mp H
              obtain ⟨⟨t244, t245, t246, t247⟩, A370, H⟩ := H
              replace H : (if (t240 == t244 && (t241 == t245 && (t242 == t246 && (t243 == t247)))) = true then ((trucelaw18_total.f kj19 t236).bind fun bt248 => ((trucelaw18_total.f kj19 l0).bind fun bt252 => (if (bt248.1 == bt252.1 && (bt248.2.1 == bt252.2.1 && (bt248.2.2.1 == bt252.2.2.1 && (bt248.2.2.2 == bt252.2.2.2)))) = true then (if t235 = 0 then (if t239 = 0 then ((trucelaw18_awake.f).bind fun t256 => (some t256)) else ((truceref17_Same.f kj19 t236 l0).bind fun t257 => (if t257 = true then ((trucelaw18_awake.f).bind fun t258 => (some t258)) else (some false)))) else ((truceref17_Same.f kj19 t232 l0).bind fun t259 => (if t259 = true then (if t239 = 0 then ((trucelaw18_awake.f).bind fun t260 => (some t260)) else ((truceref17_Same.f kj19 t236 l0).bind fun t261 => (if t261 = true then ((trucelaw18_awake.f).bind fun t262 => (some t262)) else (some false)))) else (some false)))) else (some false)))) else (some false)) = some r := H
              have A37 := Aside0.mk A370
              clear A370
              by_cases c38 : (t240 == t244 && (t241 == t245 && (t242 == t246 && (t243 == t247)))) = true
              · rw [if_pos c38] at H
                have c38b0 : (t240 == t244 && (t241 == t245 && (t242 == t246 && (t243 == t247)))) = true := c38
                (try (have c38b1 : decide (t240 = t244 && (t241 == t245 && (t242 == t246 && (t243 == t247)))) = true := by simpa using c38))
                (try (have c38b2 : (t240 == t244 && (t241 == t245 && (t242 == t246 && (t243 == t247)))) = true := by simpa using c38))
                clear c38
                replace H := Option.bind_eq_some_iff.mp H
                obtain ⟨⟨t248, t249, t250, t251⟩, A390, H⟩ := H
                replace H : ((trucelaw18_total.f kj19 l0).bind fun bt252 => (if (t248 == bt252.1 && (t249 == bt252.2.1 && (t250 == bt252.2.2.1 && (t251 == bt252.2.2.2)))) = true then (if t235 = 0 then (if t239 = 0 then ((trucelaw18_awake.f).bind fun t256 => (some t256)) else ((truceref17_Same.f kj19 t236 l0).bind fun t257 => (if t257 = true then ((trucelaw18_awake.f).bind fun t258 => (some t258)) else (some false)))) else ((truceref17_Same.f kj19 t232 l0).bind fun t259 => (if t259 = true then (if t239 = 0 then ((trucelaw18_awake.f).bind fun t260 => (some t260)) else ((truceref17_Same.f kj19 t236 l0).bind fun t261 => (if t261 = true then ((trucelaw18_awake.f).bind fun t262 => (some t262)) else (some false)))) else (some false)))) else (some false))) = some r := H
                have A39 := Aside0.mk A390
                clear A390
                replace H := Option.bind_eq_some_iff.mp H
                obtain ⟨⟨t252, t253, t254, t255⟩, A400, H⟩ := H
                replace H : (if (t248 == t252 && (t249 == t253 && (t250 == t254 && (t251 == t255)))) = true then (if t235 = 0 then (if t239 = 0 then ((trucelaw18_awake.f).bind fun t256 => (some t256)) else ((truceref17_Same.f kj19 t236 l0).bind fun t257 => (if t257 = true then ((trucelaw18_awake.f).bind fun t258 => (some t258)) else (some false)))) else ((truceref17_Same.f kj19 t232 l0).bind fun t259 => (if t259 = true then (if t239 = 0 then ((trucelaw18_awake.f).bind fun t260 => (some t260)) else ((truceref17_Same.f kj19 t236 l0).bind fun t261 => (if t261 = true then ((trucelaw18_awake.f).bind fun t262 => (some t262)) else (some false)))) else (some false)))) else (some false)) = some r := H
                have A40 := Aside0.mk A400
                clear A400
                by_cases c41 : (t248 == t252 && (t249 == t253 && (t250 == t254 && (t251 == t255)))) = true
                · rw [if_pos c41] at H
                  have c41b0 : (t248 == t252 && (t249 == t253 && (t250 == t254 && (t251 == t255)))) = true := c41
                  (try (have c41b1 : decide (t248 = t252 && (t249 == t253 && (t250 == t254 && (t251 == t255)))) = true := by simpa using c41))
                  (try (have c41b2 : (t248 == t252 && (t249 == t253 && (t250 == t254 && (t251 == t255)))) = true := by simpa using c41))
                  clear c41
                  by_cases c42 : t235 = 0
                  · rw [if_pos c42] at H
                    have c42b0 : (t235 == 0) = true := beq_iff_eq.mpr c42
                    have c42b1 : (t235 != 0) = false := bne_eq_false_iff_eq.mpr c42
                    clear c42
                    by_cases c43 : t239 = 0
                    · rw [if_pos c43] at H
                      have c43b0 : (t239 == 0) = true := beq_iff_eq.mpr c43
                      have c43b1 : (t239 != 0) = false := bne_eq_false_iff_eq.mpr c43
                      clear c43
                      replace H := Option.bind_eq_some_iff.mp H
                      obtain ⟨t256, A440, H⟩ := H
                      replace H : (some t256) = some r := H
                      have A44 := Aside0.mk A440
                      clear A440
                      obtain rfl := Option.some.inj H
                      obtain ⟨Ao45, co45, eo45⟩ := Kd.V_slice HO_17.out
                      subst eo45
                      go_wp2_with (first | ((with_reducible refine gate_callee (f := 14) rfl ?_); refine goesL_ (some 70) rfl rfl Try.func14 (by kernel_rfl) rfl #[.slice Ao45 t232.length co45] rfl (by (try simp only [List.map_toArray, List.map_cons, List.map_nil]); first | done | rfl | (simp only [List.length_drop, List.length_take]; rfl)) ?_; (with_reducible refine (trucelaw18_total.calls kj19 _ _ t232 t240 t241 t242 t243 _ ?side1 ?side2 A36.out).mono ?_); (case side1 => repeat (first | exact (Kd.V_reads' HO_17.out).2.2 | (with_reducible refine Kd.C_alloc ?_ _) | (with_reducible refine Kd.C_drewN ?_ _) | (with_reducible refine Kd.C_drew ?_))); (case side2 => exact (Kd.V_reads' HO_17.out).2.1); rintro e w46 ⟨rfl, hb⟩; refine ⟨_, rfl, ?_⟩; have n0_ := Aside0.mk (Kd.V_below (by (with_reducible repeat (first | apply Kd.V_alloc | apply Kd.V_drewN | apply Kd.V_drew)); exact HO_17.out) hb); have n1_ := Aside0.mk (Kd.V_below (by (with_reducible repeat (first | apply Kd.V_alloc | apply Kd.V_drewN | apply Kd.V_drew)); exact HO_19.out) hb); have n2_ := Aside0.mk (blk_below (g := gb227) (o := .cells #[.int .u64 a6_0, .int .u64 a6_1, .int .u64 a6_2, .int .u64 a6_3] 25 (0, 0)) (by (with_reducible repeat (first | refine blk_drewN ?_ _ | refine blk_drew ?_ | refine blk_alloc ?_ _)); exact BK227.out) hb); have n3_ := Aside0.mk (blk_below (g := gb228) (o := .cells #[.int .u64 a7_0, .int .u64 a7_1, .int .u64 a7_2, .int .u64 a7_3] 25 (0, 0)) (by (with_reducible repeat (first | refine blk_drewN ?_ _ | refine blk_drew ?_ | refine blk_alloc ?_ _)); exact BK228.out) hb); have n4_ := Aside0.mk (below_step (by repeat (first | (with_reducible first | exact HB.out | apply below_alloc | apply pw_below_drewN | apply below_drew1 | refine below_set ?_ GE227.out | refine below_set ?_ GE228.out) | exact HB.out)) hb); clear HO_17; clear HO_19; clear BK227; clear BK228; clear HB; have HO_17 := n0_; have HO_19 := n1_; have BK227 := n2_; have BK228 := n3_; have HB := n4_; clear n0_ n1_ n2_ n3_ n4_; (try clear hb); (try clear hb2); (try clear hk); (try clear hi)) | ((with_reducible refine gate_callee (f := 14) rfl ?_); refine goesL_ (some 72) rfl rfl Try.func14 (by kernel_rfl) rfl #[.slice A0 l0.length c0] rfl (by (try simp only [List.map_toArray, List.map_cons, List.map_nil]); first | done | rfl | (simp only [List.length_drop, List.length_take]; rfl)) ?_; (with_reducible refine (trucelaw18_total.calls kj19 _ _ l0 t244 t245 t246 t247 _ ?side1 ?side2 A37.out).mono ?_); (case side1 => repeat (first | exact (Kd.C_below HR0.out HB.out) | (with_reducible refine Kd.C_alloc ?_ _) | (with_reducible refine Kd.C_drewN ?_ _) | (with_reducible refine Kd.C_drew ?_))); (case side2 => exact HC0.out); rintro e w47 ⟨rfl, hb⟩; refine ⟨_, rfl, ?_⟩; have n0_ := Aside0.mk (Kd.V_below (by (with_reducible repeat (first | apply Kd.V_alloc | apply Kd.V_drewN | apply Kd.V_drew)); exact HO_17.out) hb); have n1_ := Aside0.mk (Kd.V_below (by (with_reducible repeat (first | apply Kd.V_alloc | apply Kd.V_drewN | apply Kd.V_drew)); exact HO_19.out) hb); have n2_ := Aside0.mk (blk_below (g := gb227) (o := .cells #[.int .u64 a6_0, .int .u64 a6_1, .int .u64 a6_2, .int .u64 a6_3] 25 (0, 0)) (by (with_reducible repeat (first | refine blk_drewN ?_ _ | refine blk_drew ?_ | refine blk_alloc ?_ _)); exact BK227.out) hb); have n3_ := Aside0.mk (blk_below (g := gb228) (o := .cells #[.int .u64 a7_0, .int .u64 a7_1, .int .u64 a7_2, .int .u64 a7_3] 25 (0, 0)) (by (with_reducible repeat (first | refine blk_drewN ?_ _ | refine blk_drew ?_ | refine blk_alloc ?_ _)); exact BK228.out) hb); have n4_ := Aside0.mk (below_step (by repeat (first | (with_reducible first | exact HB.out | apply below_alloc | apply pw_below_drewN | apply below_drew1 | refine below_set ?_ GE227.out | refine below_set ?_ GE228.out) | exact HB.out)) hb); clear HO_17; clear HO_19; clear BK227; clear BK228; clear HB; have HO_17 := n0_; have HO_19 := n1_; have BK227 := n2_; have BK228 := n3_; have HB := n4_; clear n0_ n1_ n2_ n3_ n4_; (try clear hb); (try clear hb2); (try clear hk); (try clear hi); obtain ⟨Ao48, co48, eo48⟩ := Kd.V_slice HO_19.out; subst eo48) | (go_at_call 14; (with_reducible refine (trucelaw18_total.calls kj19 _ _ t236 t248 t249 t250 t251 _ ?side1 ?side2 A39.out).mono ?_); (case side1 => repeat (first | exact (Kd.V_reads' HO_19.out).2.2 | (with_reducible refine Kd.C_alloc ?_ _) | (with_reducible refine Kd.C_drewN ?_ _) | (with_reducible refine Kd.C_drew ?_))); (case side2 => exact (Kd.V_reads' HO_19.out).2.1); rintro e w49 ⟨rfl, hb⟩; have n0_ := Aside0.mk (Kd.V_below (by (with_reducible repeat (first | apply Kd.V_alloc | apply Kd.V_drewN | apply Kd.V_drew)); exact HO_17.out) hb); have n1_ := Aside0.mk (Kd.V_below (by (with_reducible repeat (first | apply Kd.V_alloc | apply Kd.V_drewN | apply Kd.V_drew)); exact HO_19.out) hb); have n2_ := Aside0.mk (blk_below (g := gb227) (o := .cells #[.int .u64 a6_0, .int .u64 a6_1, .int .u64 a6_2, .int .u64 a6_3] 25 (0, 0)) (by (with_reducible repeat (first | refine blk_drewN ?_ _ | refine blk_drew ?_ | refine blk_alloc ?_ _)); exact BK227.out) hb); have n3_ := Aside0.mk (blk_below (g := gb228) (o := .cells #[.int .u64 a7_0, .int .u64 a7_1, .int .u64 a7_2, .int .u64 a7_3] 25 (0, 0)) (by (with_reducible repeat (first | refine blk_drewN ?_ _ | refine blk_drew ?_ | refine blk_alloc ?_ _)); exact BK228.out) hb); have n4_ := Aside0.mk (below_step (by repeat (first | (with_reducible first | exact HB.out | apply below_alloc | apply pw_below_drewN | apply below_drew1 | refine below_set ?_ GE227.out | refine below_set ?_ GE228.out) | exact HB.out)) hb); clear HO_17; clear HO_19; clear BK227; clear BK228; clear HB; have HO_17 := n0_; have HO_19 := n1_; have BK227 := n2_; have BK228 := n3_; have HB := n4_; clear n0_ n1_ n2_ n3_ n4_; (try clear hb); (try clear hb2); (try clear hk); (try clear hi)) | (go_at_call 14; (with_reducible refine (trucelaw18_total.calls kj19 _ _ l0 t252 t253 t254 t255 _ ?side1 ?side2 A40.out).mono ?_); (case side1 => repeat (first | exact (Kd.C_below HR0.out HB.out) | (with_reducible refine Kd.C_alloc ?_ _) | (with_reducible refine Kd.C_drewN ?_ _) | (with_reducible refine Kd.C_drew ?_))); (case side2 => exact HC0.out); rintro e w50 ⟨rfl, hb⟩; have n0_ := Aside0.mk (Kd.V_below (by (with_reducible repeat (first | apply Kd.V_alloc | apply Kd.V_drewN | apply Kd.V_drew)); exact HO_17.out) hb); have n1_ := Aside0.mk (Kd.V_below (by (with_reducible repeat (first | apply Kd.V_alloc | apply Kd.V_drewN | apply Kd.V_drew)); exact HO_19.out) hb); have n2_ := Aside0.mk (blk_below (g := gb227) (o := .cells #[.int .u64 a6_0, .int .u64 a6_1, .int .u64 a6_2, .int .u64 a6_3] 25 (0, 0)) (by (with_reducible repeat (first | refine blk_drewN ?_ _ | refine blk_drew ?_ | refine blk_alloc ?_ _)); exact BK227.out) hb); have n3_ := Aside0.mk (blk_below (g := gb228) (o := .cells #[.int .u64 a7_0, .int .u64 a7_1, .int .u64 a7_2, .int .u64 a7_3] 25 (0, 0)) (by (with_reducible repeat (first | refine blk_drewN ?_ _ | refine blk_drew ?_ | refine blk_alloc ?_ _)); exact BK228.out) hb); have n4_ := Aside0.mk (below_step (by repeat (first | (with_reducible first | exact HB.out | apply below_alloc | apply pw_below_drewN | apply below_drew1 | refine below_set ?_ GE227.out | refine below_set ?_ GE228.out) | exact HB.out)) hb); clear HO_17; clear HO_19; clear BK227; clear BK228; clear HB; have HO_17 := n0_; have HO_19 := n1_; have BK227 := n2_; have BK228 := n3_; have HB := n4_; clear n0_ n1_ n2_ n3_ n4_; (try clear hb); (try clear hb2); (try clear hk); (try clear hi)) | (go_at_call 8; (with_reducible refine (trucelaw18_awake.calls  t256 _ A44.out).mono ?_); rintro e w51 ⟨rfl, hb⟩; have n0_ := Aside0.mk (Kd.V_below (by (with_reducible repeat (first | apply Kd.V_alloc | apply Kd.V_drewN | apply Kd.V_drew)); exact HO_17.out) hb); have n1_ := Aside0.mk (Kd.V_below (by (with_reducible repeat (first | apply Kd.V_alloc | apply Kd.V_drewN | apply Kd.V_drew)); exact HO_19.out) hb); have n2_ := Aside0.mk (blk_below (g := gb227) (o := .cells #[.int .u64 a6_0, .int .u64 a6_1, .int .u64 a6_2, .int .u64 a6_3] 25 (0, 0)) (by (with_reducible repeat (first | refine blk_drewN ?_ _ | refine blk_drew ?_ | refine blk_alloc ?_ _)); exact BK227.out) hb); have n3_ := Aside0.mk (blk_below (g := gb228) (o := .cells #[.int .u64 a7_0, .int .u64 a7_1, .int .u64 a7_2, .int .u64 a7_3] 25 (0, 0)) (by (with_reducible repeat (first | refine blk_drewN ?_ _ | refine blk_drew ?_ | refine blk_alloc ?_ _)); exact BK228.out) hb); have n4_ := Aside0.mk (below_step (by repeat (first | (with_reducible first | exact HB.out | apply below_alloc | apply pw_below_drewN | apply below_drew1 | refine below_set ?_ GE227.out | refine below_set ?_ GE228.out) | exact HB.out)) hb); clear HO_17; clear HO_19; clear BK227; clear BK228; clear HB; have HO_17 := n0_; have HO_19 := n1_; have BK227 := n2_; have BK228 := n3_; have HB := n4_; clear n0_ n1_ n2_ n3_ n4_; (try clear hb); (try clear hb2); (try clear hk); (try clear hi)))
                      go_ret
                      exact ⟨by first | rfl | (simp [errW_none, errW_some] <;> rfl) | (simp [*, errW_none, errW_some] <;> rfl), by repeat (first | (with_reducible first | exact HB.out | apply below_alloc | apply pw_below_drewN | apply below_drew1 | refine below_set ?_ GE227.out | refine below_set ?_ GE228.out) | exact HB.out)⟩
                    · rw [if_neg c43] at H
                      have c43b0 : (t239 == 0) = false := beq_eq_false_iff_ne.mpr c43
                      have c43b1 : (t239 != 0) = true := bne_iff_ne.mpr c43
                      replace H := Option.bind_eq_some_iff.mp H
                      obtain ⟨t257, A520, H⟩ := H
                      replace H : (if t257 = true then ((trucelaw18_awake.f).bind fun t258 => (some t258)) else (some false)) = some r := H
                      have A52 := Aside0.mk A520
                      clear A520
                      by_cases c53 : t257 = true
                      · subst c53
                        have H1 : ((trucelaw18_awake.f).bind fun t258 => (some t258)) = some r := by rw [if_pos rfl] at H; exact H
                        clear H
                        have H := H1
                        clear H1
                        replace H := Option.bind_eq_some_iff.mp H
                        obtain ⟨t258, A540, H⟩ := H
                        replace H : (some t258) = some r := H
                        have A54 := Aside0.mk A540
                        clear A540
                        obtain rfl := Option.some.inj H
                        obtain ⟨Ao55, co55, eo55⟩ := Kd.V_slice HO_17.out
                        subst eo55
                        go_wp2_with (first | ((with_reducible refine gate_callee (f := 14) rfl ?_); refine goesL_ (some 70) rfl rfl Try.func14 (by kernel_rfl) rfl #[.slice Ao55 t232.length co55] rfl (by (try simp only [List.map_toArray, List.map_cons, List.map_nil]); first | done | rfl | (simp only [List.length_drop, List.length_take]; rfl)) ?_; (with_reducible refine (trucelaw18_total.calls kj19 _ _ t232 t240 t241 t242 t243 _ ?side1 ?side2 A36.out).mono ?_); (case side1 => repeat (first | exact (Kd.V_reads' HO_17.out).2.2 | (with_reducible refine Kd.C_alloc ?_ _) | (with_reducible refine Kd.C_drewN ?_ _) | (with_reducible refine Kd.C_drew ?_))); (case side2 => exact (Kd.V_reads' HO_17.out).2.1); rintro e w56 ⟨rfl, hb⟩; refine ⟨_, rfl, ?_⟩; have n0_ := Aside0.mk (Kd.V_below (by (with_reducible repeat (first | apply Kd.V_alloc | apply Kd.V_drewN | apply Kd.V_drew)); exact HO_17.out) hb); have n1_ := Aside0.mk (Kd.V_below (by (with_reducible repeat (first | apply Kd.V_alloc | apply Kd.V_drewN | apply Kd.V_drew)); exact HO_19.out) hb); have n2_ := Aside0.mk (blk_below (g := gb227) (o := .cells #[.int .u64 a6_0, .int .u64 a6_1, .int .u64 a6_2, .int .u64 a6_3] 25 (0, 0)) (by (with_reducible repeat (first | refine blk_drewN ?_ _ | refine blk_drew ?_ | refine blk_alloc ?_ _)); exact BK227.out) hb); have n3_ := Aside0.mk (blk_below (g := gb228) (o := .cells #[.int .u64 a7_0, .int .u64 a7_1, .int .u64 a7_2, .int .u64 a7_3] 25 (0, 0)) (by (with_reducible repeat (first | refine blk_drewN ?_ _ | refine blk_drew ?_ | refine blk_alloc ?_ _)); exact BK228.out) hb); have n4_ := Aside0.mk (below_step (by repeat (first | (with_reducible first | exact HB.out | apply below_alloc | apply pw_below_drewN | apply below_drew1 | refine below_set ?_ GE227.out | refine below_set ?_ GE228.out) | exact HB.out)) hb); clear HO_17; clear HO_19; clear BK227; clear BK228; clear HB; have HO_17 := n0_; have HO_19 := n1_; have BK227 := n2_; have BK228 := n3_; have HB := n4_; clear n0_ n1_ n2_ n3_ n4_; (try clear hb); (try clear hb2); (try clear hk); (try clear hi)) | ((with_reducible refine gate_callee (f := 14) rfl ?_); refine goesL_ (some 72) rfl rfl Try.func14 (by kernel_rfl) rfl #[.slice A0 l0.length c0] rfl (by (try simp only [List.map_toArray, List.map_cons, List.map_nil]); first | done | rfl | (simp only [List.length_drop, List.length_take]; rfl)) ?_; (with_reducible refine (trucelaw18_total.calls kj19 _ _ l0 t244 t245 t246 t247 _ ?side1 ?side2 A37.out).mono ?_); (case side1 => repeat (first | exact (Kd.C_below HR0.out HB.out) | (with_reducible refine Kd.C_alloc ?_ _) | (with_reducible refine Kd.C_drewN ?_ _) | (with_reducible refine Kd.C_drew ?_))); (case side2 => exact HC0.out); rintro e w57 ⟨rfl, hb⟩; refine ⟨_, rfl, ?_⟩; have n0_ := Aside0.mk (Kd.V_below (by (with_reducible repeat (first | apply Kd.V_alloc | apply Kd.V_drewN | apply Kd.V_drew)); exact HO_17.out) hb); have n1_ := Aside0.mk (Kd.V_below (by (with_reducible repeat (first | apply Kd.V_alloc | apply Kd.V_drewN | apply Kd.V_drew)); exact HO_19.out) hb); have n2_ := Aside0.mk (blk_below (g := gb227) (o := .cells #[.int .u64 a6_0, .int .u64 a6_1, .int .u64 a6_2, .int .u64 a6_3] 25 (0, 0)) (by (with_reducible repeat (first | refine blk_drewN ?_ _ | refine blk_drew ?_ | refine blk_alloc ?_ _)); exact BK227.out) hb); have n3_ := Aside0.mk (blk_below (g := gb228) (o := .cells #[.int .u64 a7_0, .int .u64 a7_1, .int .u64 a7_2, .int .u64 a7_3] 25 (0, 0)) (by (with_reducible repeat (first | refine blk_drewN ?_ _ | refine blk_drew ?_ | refine blk_alloc ?_ _)); exact BK228.out) hb); have n4_ := Aside0.mk (below_step (by repeat (first | (with_reducible first | exact HB.out | apply below_alloc | apply pw_below_drewN | apply below_drew1 | refine below_set ?_ GE227.out | refine below_set ?_ GE228.out) | exact HB.out)) hb); clear HO_17; clear HO_19; clear BK227; clear BK228; clear HB; have HO_17 := n0_; have HO_19 := n1_; have BK227 := n2_; have BK228 := n3_; have HB := n4_; clear n0_ n1_ n2_ n3_ n4_; (try clear hb); (try clear hb2); (try clear hk); (try clear hi); obtain ⟨Ao58, co58, eo58⟩ := Kd.V_slice HO_19.out; subst eo58) | (go_at_call 14; (with_reducible refine (trucelaw18_total.calls kj19 _ _ t236 t248 t249 t250 t251 _ ?side1 ?side2 A39.out).mono ?_); (case side1 => repeat (first | exact (Kd.V_reads' HO_19.out).2.2 | (with_reducible refine Kd.C_alloc ?_ _) | (with_reducible refine Kd.C_drewN ?_ _) | (with_reducible refine Kd.C_drew ?_))); (case side2 => exact (Kd.V_reads' HO_19.out).2.1); rintro e w59 ⟨rfl, hb⟩; have n0_ := Aside0.mk (Kd.V_below (by (with_reducible repeat (first | apply Kd.V_alloc | apply Kd.V_drewN | apply Kd.V_drew)); exact HO_17.out) hb); have n1_ := Aside0.mk (Kd.V_below (by (with_reducible repeat (first | apply Kd.V_alloc | apply Kd.V_drewN | apply Kd.V_drew)); exact HO_19.out) hb); have n2_ := Aside0.mk (blk_below (g := gb227) (o := .cells #[.int .u64 a6_0, .int .u64 a6_1, .int .u64 a6_2, .int .u64 a6_3] 25 (0, 0)) (by (with_reducible repeat (first | refine blk_drewN ?_ _ | refine blk_drew ?_ | refine blk_alloc ?_ _)); exact BK227.out) hb); have n3_ := Aside0.mk (blk_below (g := gb228) (o := .cells #[.int .u64 a7_0, .int .u64 a7_1, .int .u64 a7_2, .int .u64 a7_3] 25 (0, 0)) (by (with_reducible repeat (first | refine blk_drewN ?_ _ | refine blk_drew ?_ | refine blk_alloc ?_ _)); exact BK228.out) hb); have n4_ := Aside0.mk (below_step (by repeat (first | (with_reducible first | exact HB.out | apply below_alloc | apply pw_below_drewN | apply below_drew1 | refine below_set ?_ GE227.out | refine below_set ?_ GE228.out) | exact HB.out)) hb); clear HO_17; clear HO_19; clear BK227; clear BK228; clear HB; have HO_17 := n0_; have HO_19 := n1_; have BK227 := n2_; have BK228 := n3_; have HB := n4_; clear n0_ n1_ n2_ n3_ n4_; (try clear hb); (try clear hb2); (try clear hk); (try clear hi)) | (go_at_call 14; (with_reducible refine (trucelaw18_total.calls kj19 _ _ l0 t252 t253 t254 t255 _ ?side1 ?side2 A40.out).mono ?_); (case side1 => repeat (first | exact (Kd.C_below HR0.out HB.out) | (with_reducible refine Kd.C_alloc ?_ _) | (with_reducible refine Kd.C_drewN ?_ _) | (with_reducible refine Kd.C_drew ?_))); (case side2 => exact HC0.out); rintro e w60 ⟨rfl, hb⟩; have n0_ := Aside0.mk (Kd.V_below (by (with_reducible repeat (first | apply Kd.V_alloc | apply Kd.V_drewN | apply Kd.V_drew)); exact HO_17.out) hb); have n1_ := Aside0.mk (Kd.V_below (by (with_reducible repeat (first | apply Kd.V_alloc | apply Kd.V_drewN | apply Kd.V_drew)); exact HO_19.out) hb); have n2_ := Aside0.mk (blk_below (g := gb227) (o := .cells #[.int .u64 a6_0, .int .u64 a6_1, .int .u64 a6_2, .int .u64 a6_3] 25 (0, 0)) (by (with_reducible repeat (first | refine blk_drewN ?_ _ | refine blk_drew ?_ | refine blk_alloc ?_ _)); exact BK227.out) hb); have n3_ := Aside0.mk (blk_below (g := gb228) (o := .cells #[.int .u64 a7_0, .int .u64 a7_1, .int .u64 a7_2, .int .u64 a7_3] 25 (0, 0)) (by (with_reducible repeat (first | refine blk_drewN ?_ _ | refine blk_drew ?_ | refine blk_alloc ?_ _)); exact BK228.out) hb); have n4_ := Aside0.mk (below_step (by repeat (first | (with_reducible first | exact HB.out | apply below_alloc | apply pw_below_drewN | apply below_drew1 | refine below_set ?_ GE227.out | refine below_set ?_ GE228.out) | exact HB.out)) hb); clear HO_17; clear HO_19; clear BK227; clear BK228; clear HB; have HO_17 := n0_; have HO_19 := n1_; have BK227 := n2_; have BK228 := n3_; have HB := n4_; clear n0_ n1_ n2_ n3_ n4_; (try clear hb); (try clear hb2); (try clear hk); (try clear hi)) | (go_at_call 13; (with_reducible refine (truceref17_Same.calls kj19 _ _ t236 _ _ l0 true _ ?side1 ?side2 ?side3 ?side4 A52.out).mono ?_); (case side1 => repeat (first | exact (Kd.V_reads' HO_19.out).2.2 | (with_reducible refine Kd.C_alloc ?_ _) | (with_reducible refine Kd.C_drewN ?_ _) | (with_reducible refine Kd.C_drew ?_))); (case side2 => exact (Kd.V_reads' HO_19.out).2.1); (case side3 => repeat (first | exact (Kd.C_below HR0.out HB.out) | (with_reducible refine Kd.C_alloc ?_ _) | (with_reducible refine Kd.C_drewN ?_ _) | (with_reducible refine Kd.C_drew ?_))); (case side4 => exact HC0.out); rintro e w' ⟨rfl, ⟨nd, rfl⟩⟩) | (go_at_call 8; (with_reducible refine (trucelaw18_awake.calls  t258 _ A54.out).mono ?_); rintro e w61 ⟨rfl, hb⟩; have n0_ := Aside0.mk (Kd.V_below (by (with_reducible repeat (first | apply Kd.V_alloc | apply Kd.V_drewN | apply Kd.V_drew)); exact HO_17.out) hb); have n1_ := Aside0.mk (Kd.V_below (by (with_reducible repeat (first | apply Kd.V_alloc | apply Kd.V_drewN | apply Kd.V_drew)); exact HO_19.out) hb); have n2_ := Aside0.mk (blk_below (g := gb227) (o := .cells #[.int .u64 a6_0, .int .u64 a6_1, .int .u64 a6_2, .int .u64 a6_3] 25 (0, 0)) (by (with_reducible repeat (first | refine blk_drewN ?_ _ | refine blk_drew ?_ | refine blk_alloc ?_ _)); exact BK227.out) hb); have n3_ := Aside0.mk (blk_below (g := gb228) (o := .cells #[.int .u64 a7_0, .int .u64 a7_1, .int .u64 a7_2, .int .u64 a7_3] 25 (0, 0)) (by (with_reducible repeat (first | refine blk_drewN ?_ _ | refine blk_drew ?_ | refine blk_alloc ?_ _)); exact BK228.out) hb); have n4_ := Aside0.mk (below_step (by repeat (first | (with_reducible first | exact HB.out | apply below_alloc | apply pw_below_drewN | apply below_drew1 | refine below_set ?_ GE227.out | refine below_set ?_ GE228.out) | exact HB.out)) hb); clear HO_17; clear HO_19; clear BK227; clear BK228; clear HB; have HO_17 := n0_; have HO_19 := n1_; have BK227 := n2_; have BK228 := n3_; have HB := n4_; clear n0_ n1_ n2_ n3_ n4_; (try clear hb); (try clear hb2); (try clear hk); (try clear hi)))
                        go_ret
                        exact ⟨by first | rfl | (simp [errW_none, errW_some] <;> rfl) | (simp [*, errW_none, errW_some] <;> rfl), by repeat (first | (with_reducible first | exact HB.out | apply below_alloc | apply pw_below_drewN | apply below_drew1 | refine below_set ?_ GE227.out | refine below_set ?_ GE228.out) | exact HB.out)⟩
                      · replace c53 := Bool.eq_false_iff.mpr c53
                        subst c53
                        have H1 : (some false) = some r := by rw [if_neg (show ¬ (false = true) by decide)] at H; exact H
                        clear H
                        have H := H1
                        clear H1
                        exact absurd (hr_.out.symm.trans (Option.some.inj H).symm) (by simp)
                  · rw [if_neg c42] at H
                    have c42b0 : (t235 == 0) = false := beq_eq_false_iff_ne.mpr c42
                    have c42b1 : (t235 != 0) = true := bne_iff_ne.mpr c42
                    replace H := Option.bind_eq_some_iff.mp H
                    obtain ⟨t259, A620, H⟩ := H
                    replace H : (if t259 = true then (if t239 = 0 then ((trucelaw18_awake.f).bind fun t260 => (some t260)) else ((truceref17_Same.f kj19 t236 l0).bind fun t261 => (if t261 = true then ((trucelaw18_awake.f).bind fun t262 => (some t262)) else (some false)))) else (some false)) = some r := H
                    have A62 := Aside0.mk A620
                    clear A620
                    by_cases c63 : t259 = true
                    · subst c63
                      have H1 : (if t239 = 0 then ((trucelaw18_awake.f).bind fun t260 => (some t260)) else ((truceref17_Same.f kj19 t236 l0).bind fun t261 => (if t261 = true then ((trucelaw18_awake.f).bind fun t262 => (some t262)) else (some false)))) = some r := by rw [if_pos rfl] at H; exact H
                      clear H
                      have H := H1
                      clear H1
                      by_cases c64 : t239 = 0
                      · rw [if_pos c64] at H
                        have c64b0 : (t239 == 0) = true := beq_iff_eq.mpr c64
                        have c64b1 : (t239 != 0) = false := bne_eq_false_iff_eq.mpr c64
                        clear c64
                        replace H := Option.bind_eq_some_iff.mp H
                        obtain ⟨t260, A650, H⟩ := H
                        replace H : (some t260) = some r := H
                        have A65 := Aside0.mk A650
                        clear A650
                        obtain rfl := Option.some.inj H
                        obtain ⟨Ao66, co66, eo66⟩ := Kd.V_slice HO_17.out
                        subst eo66
                        go_wp2_with (first | ((with_reducible refine gate_callee (f := 14) rfl ?_); refine goesL_ (some 70) rfl rfl Try.func14 (by kernel_rfl) rfl #[.slice Ao66 t232.length co66] rfl (by (try simp only [List.map_toArray, List.map_cons, List.map_nil]); first | done | rfl | (simp only [List.length_drop, List.length_take]; rfl)) ?_; (with_reducible refine (trucelaw18_total.calls kj19 _ _ t232 t240 t241 t242 t243 _ ?side1 ?side2 A36.out).mono ?_); (case side1 => repeat (first | exact (Kd.V_reads' HO_17.out).2.2 | (with_reducible refine Kd.C_alloc ?_ _) | (with_reducible refine Kd.C_drewN ?_ _) | (with_reducible refine Kd.C_drew ?_))); (case side2 => exact (Kd.V_reads' HO_17.out).2.1); rintro e w67 ⟨rfl, hb⟩; refine ⟨_, rfl, ?_⟩; have n0_ := Aside0.mk (Kd.V_below (by (with_reducible repeat (first | apply Kd.V_alloc | apply Kd.V_drewN | apply Kd.V_drew)); exact HO_17.out) hb); have n1_ := Aside0.mk (Kd.V_below (by (with_reducible repeat (first | apply Kd.V_alloc | apply Kd.V_drewN | apply Kd.V_drew)); exact HO_19.out) hb); have n2_ := Aside0.mk (blk_below (g := gb227) (o := .cells #[.int .u64 a6_0, .int .u64 a6_1, .int .u64 a6_2, .int .u64 a6_3] 25 (0, 0)) (by (with_reducible repeat (first | refine blk_drewN ?_ _ | refine blk_drew ?_ | refine blk_alloc ?_ _)); exact BK227.out) hb); have n3_ := Aside0.mk (blk_below (g := gb228) (o := .cells #[.int .u64 a7_0, .int .u64 a7_1, .int .u64 a7_2, .int .u64 a7_3] 25 (0, 0)) (by (with_reducible repeat (first | refine blk_drewN ?_ _ | refine blk_drew ?_ | refine blk_alloc ?_ _)); exact BK228.out) hb); have n4_ := Aside0.mk (below_step (by repeat (first | (with_reducible first | exact HB.out | apply below_alloc | apply pw_below_drewN | apply below_drew1 | refine below_set ?_ GE227.out | refine below_set ?_ GE228.out) | exact HB.out)) hb); clear HO_17; clear HO_19; clear BK227; clear BK228; clear HB; have HO_17 := n0_; have HO_19 := n1_; have BK227 := n2_; have BK228 := n3_; have HB := n4_; clear n0_ n1_ n2_ n3_ n4_; (try clear hb); (try clear hb2); (try clear hk); (try clear hi)) | ((with_reducible refine gate_callee (f := 14) rfl ?_); refine goesL_ (some 72) rfl rfl Try.func14 (by kernel_rfl) rfl #[.slice A0 l0.length c0] rfl (by (try simp only [List.map_toArray, List.map_cons, List.map_nil]); first | done | rfl | (simp only [List.length_drop, List.length_take]; rfl)) ?_; (with_reducible refine (trucelaw18_total.calls kj19 _ _ l0 t244 t245 t246 t247 _ ?side1 ?side2 A37.out).mono ?_); (case side1 => repeat (first | exact (Kd.C_below HR0.out HB.out) | (with_reducible refine Kd.C_alloc ?_ _) | (with_reducible refine Kd.C_drewN ?_ _) | (with_reducible refine Kd.C_drew ?_))); (case side2 => exact HC0.out); rintro e w68 ⟨rfl, hb⟩; refine ⟨_, rfl, ?_⟩; have n0_ := Aside0.mk (Kd.V_below (by (with_reducible repeat (first | apply Kd.V_alloc | apply Kd.V_drewN | apply Kd.V_drew)); exact HO_17.out) hb); have n1_ := Aside0.mk (Kd.V_below (by (with_reducible repeat (first | apply Kd.V_alloc | apply Kd.V_drewN | apply Kd.V_drew)); exact HO_19.out) hb); have n2_ := Aside0.mk (blk_below (g := gb227) (o := .cells #[.int .u64 a6_0, .int .u64 a6_1, .int .u64 a6_2, .int .u64 a6_3] 25 (0, 0)) (by (with_reducible repeat (first | refine blk_drewN ?_ _ | refine blk_drew ?_ | refine blk_alloc ?_ _)); exact BK227.out) hb); have n3_ := Aside0.mk (blk_below (g := gb228) (o := .cells #[.int .u64 a7_0, .int .u64 a7_1, .int .u64 a7_2, .int .u64 a7_3] 25 (0, 0)) (by (with_reducible repeat (first | refine blk_drewN ?_ _ | refine blk_drew ?_ | refine blk_alloc ?_ _)); exact BK228.out) hb); have n4_ := Aside0.mk (below_step (by repeat (first | (with_reducible first | exact HB.out | apply below_alloc | apply pw_below_drewN | apply below_drew1 | refine below_set ?_ GE227.out | refine below_set ?_ GE228.out) | exact HB.out)) hb); clear HO_17; clear HO_19; clear BK227; clear BK228; clear HB; have HO_17 := n0_; have HO_19 := n1_; have BK227 := n2_; have BK228 := n3_; have HB := n4_; clear n0_ n1_ n2_ n3_ n4_; (try clear hb); (try clear hb2); (try clear hk); (try clear hi); obtain ⟨Ao69, co69, eo69⟩ := Kd.V_slice HO_19.out; subst eo69) | (go_at_call 14; (with_reducible refine (trucelaw18_total.calls kj19 _ _ t236 t248 t249 t250 t251 _ ?side1 ?side2 A39.out).mono ?_); (case side1 => repeat (first | exact (Kd.V_reads' HO_19.out).2.2 | (with_reducible refine Kd.C_alloc ?_ _) | (with_reducible refine Kd.C_drewN ?_ _) | (with_reducible refine Kd.C_drew ?_))); (case side2 => exact (Kd.V_reads' HO_19.out).2.1); rintro e w70 ⟨rfl, hb⟩; have n0_ := Aside0.mk (Kd.V_below (by (with_reducible repeat (first | apply Kd.V_alloc | apply Kd.V_drewN | apply Kd.V_drew)); exact HO_17.out) hb); have n1_ := Aside0.mk (Kd.V_below (by (with_reducible repeat (first | apply Kd.V_alloc | apply Kd.V_drewN | apply Kd.V_drew)); exact HO_19.out) hb); have n2_ := Aside0.mk (blk_below (g := gb227) (o := .cells #[.int .u64 a6_0, .int .u64 a6_1, .int .u64 a6_2, .int .u64 a6_3] 25 (0, 0)) (by (with_reducible repeat (first | refine blk_drewN ?_ _ | refine blk_drew ?_ | refine blk_alloc ?_ _)); exact BK227.out) hb); have n3_ := Aside0.mk (blk_below (g := gb228) (o := .cells #[.int .u64 a7_0, .int .u64 a7_1, .int .u64 a7_2, .int .u64 a7_3] 25 (0, 0)) (by (with_reducible repeat (first | refine blk_drewN ?_ _ | refine blk_drew ?_ | refine blk_alloc ?_ _)); exact BK228.out) hb); have n4_ := Aside0.mk (below_step (by repeat (first | (with_reducible first | exact HB.out | apply below_alloc | apply pw_below_drewN | apply below_drew1 | refine below_set ?_ GE227.out | refine below_set ?_ GE228.out) | exact HB.out)) hb); clear HO_17; clear HO_19; clear BK227; clear BK228; clear HB; have HO_17 := n0_; have HO_19 := n1_; have BK227 := n2_; have BK228 := n3_; have HB := n4_; clear n0_ n1_ n2_ n3_ n4_; (try clear hb); (try clear hb2); (try clear hk); (try clear hi)) | (go_at_call 14; (with_reducible refine (trucelaw18_total.calls kj19 _ _ l0 t252 t253 t254 t255 _ ?side1 ?side2 A40.out).mono ?_); (case side1 => repeat (first | exact (Kd.C_below HR0.out HB.out) | (with_reducible refine Kd.C_alloc ?_ _) | (with_reducible refine Kd.C_drewN ?_ _) | (with_reducible refine Kd.C_drew ?_))); (case side2 => exact HC0.out); rintro e w71 ⟨rfl, hb⟩; have n0_ := Aside0.mk (Kd.V_below (by (with_reducible repeat (first | apply Kd.V_alloc | apply Kd.V_drewN | apply Kd.V_drew)); exact HO_17.out) hb); have n1_ := Aside0.mk (Kd.V_below (by (with_reducible repeat (first | apply Kd.V_alloc | apply Kd.V_drewN | apply Kd.V_drew)); exact HO_19.out) hb); have n2_ := Aside0.mk (blk_below (g := gb227) (o := .cells #[.int .u64 a6_0, .int .u64 a6_1, .int .u64 a6_2, .int .u64 a6_3] 25 (0, 0)) (by (with_reducible repeat (first | refine blk_drewN ?_ _ | refine blk_drew ?_ | refine blk_alloc ?_ _)); exact BK227.out) hb); have n3_ := Aside0.mk (blk_below (g := gb228) (o := .cells #[.int .u64 a7_0, .int .u64 a7_1, .int .u64 a7_2, .int .u64 a7_3] 25 (0, 0)) (by (with_reducible repeat (first | refine blk_drewN ?_ _ | refine blk_drew ?_ | refine blk_alloc ?_ _)); exact BK228.out) hb); have n4_ := Aside0.mk (below_step (by repeat (first | (with_reducible first | exact HB.out | apply below_alloc | apply pw_below_drewN | apply below_drew1 | refine below_set ?_ GE227.out | refine below_set ?_ GE228.out) | exact HB.out)) hb); clear HO_17; clear HO_19; clear BK227; clear BK228; clear HB; have HO_17 := n0_; have HO_19 := n1_; have BK227 := n2_; have BK228 := n3_; have HB := n4_; clear n0_ n1_ n2_ n3_ n4_; (try clear hb); (try clear hb2); (try clear hk); (try clear hi)) | (go_at_call 13; (with_reducible refine (truceref17_Same.calls kj19 _ _ t232 _ _ l0 true _ ?side1 ?side2 ?side3 ?side4 A62.out).mono ?_); (case side1 => repeat (first | exact (Kd.V_reads' HO_17.out).2.2 | (with_reducible refine Kd.C_alloc ?_ _) | (with_reducible refine Kd.C_drewN ?_ _) | (with_reducible refine Kd.C_drew ?_))); (case side2 => exact (Kd.V_reads' HO_17.out).2.1); (case side3 => repeat (first | exact (Kd.C_below HR0.out HB.out) | (with_reducible refine Kd.C_alloc ?_ _) | (with_reducible refine Kd.C_drewN ?_ _) | (with_reducible refine Kd.C_drew ?_))); (case side4 => exact HC0.out); rintro e w' ⟨rfl, ⟨nd, rfl⟩⟩) | (go_at_call 8; (with_reducible refine (trucelaw18_awake.calls  t260 _ A65.out).mono ?_); rintro e w72 ⟨rfl, hb⟩; have n0_ := Aside0.mk (Kd.V_below (by (with_reducible repeat (first | apply Kd.V_alloc | apply Kd.V_drewN | apply Kd.V_drew)); exact HO_17.out) hb); have n1_ := Aside0.mk (Kd.V_below (by (with_reducible repeat (first | apply Kd.V_alloc | apply Kd.V_drewN | apply Kd.V_drew)); exact HO_19.out) hb); have n2_ := Aside0.mk (blk_below (g := gb227) (o := .cells #[.int .u64 a6_0, .int .u64 a6_1, .int .u64 a6_2, .int .u64 a6_3] 25 (0, 0)) (by (with_reducible repeat (first | refine blk_drewN ?_ _ | refine blk_drew ?_ | refine blk_alloc ?_ _)); exact BK227.out) hb); have n3_ := Aside0.mk (blk_below (g := gb228) (o := .cells #[.int .u64 a7_0, .int .u64 a7_1, .int .u64 a7_2, .int .u64 a7_3] 25 (0, 0)) (by (with_reducible repeat (first | refine blk_drewN ?_ _ | refine blk_drew ?_ | refine blk_alloc ?_ _)); exact BK228.out) hb); have n4_ := Aside0.mk (below_step (by repeat (first | (with_reducible first | exact HB.out | apply below_alloc | apply pw_below_drewN | apply below_drew1 | refine below_set ?_ GE227.out | refine below_set ?_ GE228.out) | exact HB.out)) hb); clear HO_17; clear HO_19; clear BK227; clear BK228; clear HB; have HO_17 := n0_; have HO_19 := n1_; have BK227 := n2_; have BK228 := n3_; have HB := n4_; clear n0_ n1_ n2_ n3_ n4_; (try clear hb); (try clear hb2); (try clear hk); (try clear hi)))
                        go_ret
                        exact ⟨by first | rfl | (simp [errW_none, errW_some] <;> rfl) | (simp [*, errW_none, errW_some] <;> rfl), by repeat (first | (with_reducible first | exact HB.out | apply below_alloc | apply pw_below_drewN | apply below_drew1 | refine below_set ?_ GE227.out | refine below_set ?_ GE228.out) | exact HB.out)⟩
                      · rw [if_neg c64] at H
                        have c64b0 : (t239 == 0) = false := beq_eq_false_iff_ne.mpr c64
                        have c64b1 : (t239 != 0) = true := bne_iff_ne.mpr c64
                        replace H := Option.bind_eq_some_iff.mp H
                        obtain ⟨t261, A730, H⟩ := H
                        replace H : (if t261 = true then ((trucelaw18_awake.f).bind fun t262 => (some t262)) else (some false)) = some r := H
                        have A73 := Aside0.mk A730
                        clear A730
                        by_cases c74 : t261 = true
                        · subst c74
                          have H1 : ((trucelaw18_awake.f).bind fun t262 => (some t262)) = some r := by rw [if_pos rfl] at H; exact H
                          clear H
                          have H := H1
                          clear H1
                          replace H := Option.bind_eq_some_iff.mp H
                          obtain ⟨t262, A750, H⟩ := H
                          replace H : (some t262) = some r := H
                          have A75 := Aside0.mk A750
                          clear A750
                          obtain rfl := Option.some.inj H
                          obtain ⟨Ao76, co76, eo76⟩ := Kd.V_slice HO_17.out
                          subst eo76
                          go_wp2_with (first | ((with_reducible refine gate_callee (f := 14) rfl ?_); refine goesL_ (some 70) rfl rfl Try.func14 (by kernel_rfl) rfl #[.slice Ao76 t232.length co76] rfl (by (try simp only [List.map_toArray, List.map_cons, List.map_nil]); first | done | rfl | (simp only [List.length_drop, List.length_take]; rfl)) ?_; (with_reducible refine (trucelaw18_total.calls kj19 _ _ t232 t240 t241 t242 t243 _ ?side1 ?side2 A36.out).mono ?_); (case side1 => repeat (first | exact (Kd.V_reads' HO_17.out).2.2 | (with_reducible refine Kd.C_alloc ?_ _) | (with_reducible refine Kd.C_drewN ?_ _) | (with_reducible refine Kd.C_drew ?_))); (case side2 => exact (Kd.V_reads' HO_17.out).2.1); rintro e w77 ⟨rfl, hb⟩; refine ⟨_, rfl, ?_⟩; have n0_ := Aside0.mk (Kd.V_below (by (with_reducible repeat (first | apply Kd.V_alloc | apply Kd.V_drewN | apply Kd.V_drew)); exact HO_17.out) hb); have n1_ := Aside0.mk (Kd.V_below (by (with_reducible repeat (first | apply Kd.V_alloc | apply Kd.V_drewN | apply Kd.V_drew)); exact HO_19.out) hb); have n2_ := Aside0.mk (blk_below (g := gb227) (o := .cells #[.int .u64 a6_0, .int .u64 a6_1, .int .u64 a6_2, .int .u64 a6_3] 25 (0, 0)) (by (with_reducible repeat (first | refine blk_drewN ?_ _ | refine blk_drew ?_ | refine blk_alloc ?_ _)); exact BK227.out) hb); have n3_ := Aside0.mk (blk_below (g := gb228) (o := .cells #[.int .u64 a7_0, .int .u64 a7_1, .int .u64 a7_2, .int .u64 a7_3] 25 (0, 0)) (by (with_reducible repeat (first | refine blk_drewN ?_ _ | refine blk_drew ?_ | refine blk_alloc ?_ _)); exact BK228.out) hb); have n4_ := Aside0.mk (below_step (by repeat (first | (with_reducible first | exact HB.out | apply below_alloc | apply pw_below_drewN | apply below_drew1 | refine below_set ?_ GE227.out | refine below_set ?_ GE228.out) | exact HB.out)) hb); clear HO_17; clear HO_19; clear BK227; clear BK228; clear HB; have HO_17 := n0_; have HO_19 := n1_; have BK227 := n2_; have BK228 := n3_; have HB := n4_; clear n0_ n1_ n2_ n3_ n4_; (try clear hb); (try clear hb2); (try clear hk); (try clear hi)) | ((with_reducible refine gate_callee (f := 14) rfl ?_); refine goesL_ (some 72) rfl rfl Try.func14 (by kernel_rfl) rfl #[.slice A0 l0.length c0] rfl (by (try simp only [List.map_toArray, List.map_cons, List.map_nil]); first | done | rfl | (simp only [List.length_drop, List.length_take]; rfl)) ?_; (with_reducible refine (trucelaw18_total.calls kj19 _ _ l0 t244 t245 t246 t247 _ ?side1 ?side2 A37.out).mono ?_); (case side1 => repeat (first | exact (Kd.C_below HR0.out HB.out) | (with_reducible refine Kd.C_alloc ?_ _) | (with_reducible refine Kd.C_drewN ?_ _) | (with_reducible refine Kd.C_drew ?_))); (case side2 => exact HC0.out); rintro e w78 ⟨rfl, hb⟩; refine ⟨_, rfl, ?_⟩; have n0_ := Aside0.mk (Kd.V_below (by (with_reducible repeat (first | apply Kd.V_alloc | apply Kd.V_drewN | apply Kd.V_drew)); exact HO_17.out) hb); have n1_ := Aside0.mk (Kd.V_below (by (with_reducible repeat (first | apply Kd.V_alloc | apply Kd.V_drewN | apply Kd.V_drew)); exact HO_19.out) hb); have n2_ := Aside0.mk (blk_below (g := gb227) (o := .cells #[.int .u64 a6_0, .int .u64 a6_1, .int .u64 a6_2, .int .u64 a6_3] 25 (0, 0)) (by (with_reducible repeat (first | refine blk_drewN ?_ _ | refine blk_drew ?_ | refine blk_alloc ?_ _)); exact BK227.out) hb); have n3_ := Aside0.mk (blk_below (g := gb228) (o := .cells #[.int .u64 a7_0, .int .u64 a7_1, .int .u64 a7_2, .int .u64 a7_3] 25 (0, 0)) (by (with_reducible repeat (first | refine blk_drewN ?_ _ | refine blk_drew ?_ | refine blk_alloc ?_ _)); exact BK228.out) hb); have n4_ := Aside0.mk (below_step (by repeat (first | (with_reducible first | exact HB.out | apply below_alloc | apply pw_below_drewN | apply below_drew1 | refine below_set ?_ GE227.out | refine below_set ?_ GE228.out) | exact HB.out)) hb); clear HO_17; clear HO_19; clear BK227; clear BK228; clear HB; have HO_17 := n0_; have HO_19 := n1_; have BK227 := n2_; have BK228 := n3_; have HB := n4_; clear n0_ n1_ n2_ n3_ n4_; (try clear hb); (try clear hb2); (try clear hk); (try clear hi); obtain ⟨Ao79, co79, eo79⟩ := Kd.V_slice HO_19.out; subst eo79) | (go_at_call 14; (with_reducible refine (trucelaw18_total.calls kj19 _ _ t236 t248 t249 t250 t251 _ ?side1 ?side2 A39.out).mono ?_); (case side1 => repeat (first | exact (Kd.V_reads' HO_19.out).2.2 | (with_reducible refine Kd.C_alloc ?_ _) | (with_reducible refine Kd.C_drewN ?_ _) | (with_reducible refine Kd.C_drew ?_))); (case side2 => exact (Kd.V_reads' HO_19.out).2.1); rintro e w80 ⟨rfl, hb⟩; have n0_ := Aside0.mk (Kd.V_below (by (with_reducible repeat (first | apply Kd.V_alloc | apply Kd.V_drewN | apply Kd.V_drew)); exact HO_17.out) hb); have n1_ := Aside0.mk (Kd.V_below (by (with_reducible repeat (first | apply Kd.V_alloc | apply Kd.V_drewN | apply Kd.V_drew)); exact HO_19.out) hb); have n2_ := Aside0.mk (blk_below (g := gb227) (o := .cells #[.int .u64 a6_0, .int .u64 a6_1, .int .u64 a6_2, .int .u64 a6_3] 25 (0, 0)) (by (with_reducible repeat (first | refine blk_drewN ?_ _ | refine blk_drew ?_ | refine blk_alloc ?_ _)); exact BK227.out) hb); have n3_ := Aside0.mk (blk_below (g := gb228) (o := .cells #[.int .u64 a7_0, .int .u64 a7_1, .int .u64 a7_2, .int .u64 a7_3] 25 (0, 0)) (by (with_reducible repeat (first | refine blk_drewN ?_ _ | refine blk_drew ?_ | refine blk_alloc ?_ _)); exact BK228.out) hb); have n4_ := Aside0.mk (below_step (by repeat (first | (with_reducible first | exact HB.out | apply below_alloc | apply pw_below_drewN | apply below_drew1 | refine below_set ?_ GE227.out | refine below_set ?_ GE228.out) | exact HB.out)) hb); clear HO_17; clear HO_19; clear BK227; clear BK228; clear HB; have HO_17 := n0_; have HO_19 := n1_; have BK227 := n2_; have BK228 := n3_; have HB := n4_; clear n0_ n1_ n2_ n3_ n4_; (try clear hb); (try clear hb2); (try clear hk); (try clear hi)) | (go_at_call 14; (with_reducible refine (trucelaw18_total.calls kj19 _ _ l0 t252 t253 t254 t255 _ ?side1 ?side2 A40.out).mono ?_); (case side1 => repeat (first | exact (Kd.C_below HR0.out HB.out) | (with_reducible refine Kd.C_alloc ?_ _) | (with_reducible refine Kd.C_drewN ?_ _) | (with_reducible refine Kd.C_drew ?_))); (case side2 => exact HC0.out); rintro e w81 ⟨rfl, hb⟩; have n0_ := Aside0.mk (Kd.V_below (by (with_reducible repeat (first | apply Kd.V_alloc | apply Kd.V_drewN | apply Kd.V_drew)); exact HO_17.out) hb); have n1_ := Aside0.mk (Kd.V_below (by (with_reducible repeat (first | apply Kd.V_alloc | apply Kd.V_drewN | apply Kd.V_drew)); exact HO_19.out) hb); have n2_ := Aside0.mk (blk_below (g := gb227) (o := .cells #[.int .u64 a6_0, .int .u64 a6_1, .int .u64 a6_2, .int .u64 a6_3] 25 (0, 0)) (by (with_reducible repeat (first | refine blk_drewN ?_ _ | refine blk_drew ?_ | refine blk_alloc ?_ _)); exact BK227.out) hb); have n3_ := Aside0.mk (blk_below (g := gb228) (o := .cells #[.int .u64 a7_0, .int .u64 a7_1, .int .u64 a7_2, .int .u64 a7_3] 25 (0, 0)) (by (with_reducible repeat (first | refine blk_drewN ?_ _ | refine blk_drew ?_ | refine blk_alloc ?_ _)); exact BK228.out) hb); have n4_ := Aside0.mk (below_step (by repeat (first | (with_reducible first | exact HB.out | apply below_alloc | apply pw_below_drewN | apply below_drew1 | refine below_set ?_ GE227.out | refine below_set ?_ GE228.out) | exact HB.out)) hb); clear HO_17; clear HO_19; clear BK227; clear BK228; clear HB; have HO_17 := n0_; have HO_19 := n1_; have BK227 := n2_; have BK228 := n3_; have HB := n4_; clear n0_ n1_ n2_ n3_ n4_; (try clear hb); (try clear hb2); (try clear hk); (try clear hi)) | (go_at_call 13; (with_reducible refine (truceref17_Same.calls kj19 _ _ t232 _ _ l0 true _ ?side1 ?side2 ?side3 ?side4 A62.out).mono ?_); (case side1 => repeat (first | exact (Kd.V_reads' HO_17.out).2.2 | (with_reducible refine Kd.C_alloc ?_ _) | (with_reducible refine Kd.C_drewN ?_ _) | (with_reducible refine Kd.C_drew ?_))); (case side2 => exact (Kd.V_reads' HO_17.out).2.1); (case side3 => repeat (first | exact (Kd.C_below HR0.out HB.out) | (with_reducible refine Kd.C_alloc ?_ _) | (with_reducible refine Kd.C_drewN ?_ _) | (with_reducible refine Kd.C_drew ?_))); (case side4 => exact HC0.out); rintro e w' ⟨rfl, ⟨nd, rfl⟩⟩) | (go_at_call 13; (with_reducible refine (truceref17_Same.calls kj19 _ _ t236 _ _ l0 true _ ?side1 ?side2 ?side3 ?side4 A73.out).mono ?_); (case side1 => repeat (first | exact (Kd.V_reads' HO_19.out).2.2 | (with_reducible refine Kd.C_alloc ?_ _) | (with_reducible refine Kd.C_drewN ?_ _) | (with_reducible refine Kd.C_drew ?_))); (case side2 => exact (Kd.V_reads' HO_19.out).2.1); (case side3 => repeat (first | exact (Kd.C_below HR0.out (by repeat (first | (with_reducible first | exact HB.out | apply below_alloc | apply pw_below_drewN | apply below_drew1 | refine below_set ?_ GE227.out | refine below_set ?_ GE228.out) | exact HB.out))) | (with_reducible refine Kd.C_alloc ?_ _) | (with_reducible refine Kd.C_drewN ?_ _) | (with_reducible refine Kd.C_drew ?_))); (case side4 => exact HC0.out); rintro e w' ⟨rfl, ⟨nd, rfl⟩⟩) | (go_at_call 8; (with_reducible refine (trucelaw18_awake.calls  t262 _ A75.out).mono ?_); rintro e w82 ⟨rfl, hb⟩; have n0_ := Aside0.mk (Kd.V_below (by (with_reducible repeat (first | apply Kd.V_alloc | apply Kd.V_drewN | apply Kd.V_drew)); exact HO_17.out) hb); have n1_ := Aside0.mk (Kd.V_below (by (with_reducible repeat (first | apply Kd.V_alloc | apply Kd.V_drewN | apply Kd.V_drew)); exact HO_19.out) hb); have n2_ := Aside0.mk (blk_below (g := gb227) (o := .cells #[.int .u64 a6_0, .int .u64 a6_1, .int .u64 a6_2, .int .u64 a6_3] 25 (0, 0)) (by (with_reducible repeat (first | refine blk_drewN ?_ _ | refine blk_drew ?_ | refine blk_alloc ?_ _)); exact BK227.out) hb); have n3_ := Aside0.mk (blk_below (g := gb228) (o := .cells #[.int .u64 a7_0, .int .u64 a7_1, .int .u64 a7_2, .int .u64 a7_3] 25 (0, 0)) (by (with_reducible repeat (first | refine blk_drewN ?_ _ | refine blk_drew ?_ | refine blk_alloc ?_ _)); exact BK228.out) hb); have n4_ := Aside0.mk (below_step (by repeat (first | (with_reducible first | exact HB.out | apply below_alloc | apply pw_below_drewN | apply below_drew1 | refine below_set ?_ GE227.out | refine below_set ?_ GE228.out) | exact HB.out)) hb); clear HO_17; clear HO_19; clear BK227; clear BK228; clear HB; have HO_17 := n0_; have HO_19 := n1_; have BK227 := n2_; have BK228 := n3_; have HB := n4_; clear n0_ n1_ n2_ n3_ n4_; (try clear hb); (try clear hb2); (try clear hk); (try clear hi)))
                          go_ret
                          exact ⟨by first | rfl | (simp [errW_none, errW_some] <;> rfl) | (simp [*, errW_none, errW_some] <;> rfl), by repeat (first | (with_reducible first | exact HB.out | apply below_alloc | apply pw_below_drewN | apply below_drew1 | refine below_set ?_ GE227.out | refine below_set ?_ GE228.out) | exact HB.out)⟩
                        · replace c74 := Bool.eq_false_iff.mpr c74
                          subst c74
                          have H1 : (some false) = some r := by rw [if_neg (show ¬ (false = true) by decide)] at H; exact H
                          clear H
                          have H := H1
                          clear H1
                          exact absurd (hr_.out.symm.trans (Option.some.inj H).symm) (by simp)
                    · replace c63 := Bool.eq_false_iff.mpr c63
                      subst c63
                      have H1 : (some false) = some r := by rw [if_neg (show ¬ (false = true) by decide)] at H; exact H
                      clear H
                      have H := H1
                      clear H1
                      exact absurd (hr_.out.symm.trans (Option.some.inj H).symm) (by simp)
                · rw [if_neg c41] at H
                  have c41b0 : (t248 == t252 && (t249 == t253 && (t250 == t254 && (t251 == t255)))) = false := by simpa using c41
                  (try (have c41b1 : decide (t248 = t252 && (t249 == t253 && (t250 == t254 && (t251 == t255)))) = false := by simpa using c41))
                  (try (have c41b2 : (t248 == t252 && (t249 == t253 && (t250 == t254 && (t251 == t255)))) = false := by simpa using c41))
                  (try (have c41b3 : ¬ (t248 = t252 && (t249 == t253 && (t250 == t254 && (t251 == t255)))) := by simpa using c41))
                  clear c41
                  exact absurd (hr_.out.symm.trans (Option.some.inj H).symm) (by simp)
              · rw [if_neg c38] at H
                have c38b0 : (t240 == t244 && (t241 == t245 && (t242 == t246 && (t243 == t247)))) = false := by simpa using c38
                (try (have c38b1 : decide (t240 = t244 && (t241 == t245 && (t242 == t246 && (t243 == t247)))) = false := by simpa using c38))
                (try (have c38b2 : (t240 == t244 && (t241 == t245 && (t242 == t246 && (t243 == t247)))) = false := by simpa using c38))
                (try (have c38b3 : ¬ (t240 = t244 && (t241 == t245 && (t242 == t246 && (t243 == t247)))) := by simpa using c38))
                clear c38
                exact absurd (hr_.out.symm.trans (Option.some.inj H).symm) (by simp)

end Go.Proofs.Ytlkecihibmndbaa.P
