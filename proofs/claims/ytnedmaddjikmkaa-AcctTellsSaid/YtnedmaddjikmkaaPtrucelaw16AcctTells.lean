/- A function of the program as a Lean function, and the proof that the code comes to its answers; written by a program of this session, a changed copy of the print of the kit. -/
import Derived.Test.YtnedmaddjikmkaaP0
import Derived.Test.YtnedmaddjikmkaaPeqA25
import Derived.Test.YtnedmaddjikmkaaPacctSum
import Derived.Test.YtnedmaddjikmkaaPtrucelaw16few
import Derived.Test.YtnedmaddjikmkaaPtruceref16Sum
import Derived.Test.YtnedmaddjikmkaaPtruceref16Fit
import Derived.Test.YtnedmaddjikmkaaPtruceref16Get
import Derived.Test.YtnedmaddjikmkaaPtrucelaw16awake
import Derived.Test.YtnedmaddjikmkaaGFitF
import Derived.Test.YtnedmaddjikmkaaGSetF
namespace Go.Proofs.Ytnedmaddjikmkaa.P
open Go.RowKit Go.Proofs.YtnedmaddjikmkaaW.PrintWords Go.Proofs.YtnedmaddjikmkaaW.PrintLast Go.Proofs.YtnedmaddjikmkaaW.PrintMore
attribute [local go_sem] max2_int min2_int max_two min_two max_three min_three max_four min_four   -- for this text's walks alone
set_option linter.unusedVariables false
set_option linter.unusedSimpArgs false

attribute [local go_sem high] eqA25
/-! ### trucelaw16_AcctTells: function 6 -/
def trucelaw16_AcctTells.j0 : Nat → List (S39) → ByteArray → ByteArray → Bool → Option (Bool)
  | 0, _, _, _, _ => none
  | k + 1, x0, x1, x2, x41 => if x41 = true then (some false) else ((truceref16_Fit.f k x0).bind fun t366 => (if t366 = true then ((acct_Get.f x0 x1 x2).bind fun bt367 => ((truceref16_Get.f k x0 x1 x2).bind fun bt371 => (if (bt367.1 == bt371.1 && (bt367.2.1 == bt371.2.1 && (bt367.2.2.1 == bt371.2.2.1 && (bt367.2.2.2 == bt371.2.2.2)))) = true then ((trucelaw16_awake.f k).bind fun t375 => (some t375)) else (some false)))) else ((trucelaw16_awake.f k).bind fun t376 => (some t376))))
def trucelaw16_AcctTells.f (k : Nat) (l0 : List (S39)) (a1 : ByteArray) (a2 : ByteArray) : Option (Bool) := (trucelaw16_few.f l0).bind fun t350 => (if t350 = true then ((acct_Sum.f k l0 a2).bind fun bt352 => ((truceref16_Sum.f k l0 a2).bind fun bt358 => ((acct_Fit.f l0).bind fun t364 => ((truceref16_Fit.f k l0).bind fun t365 => (if (t364 != t365) = true then (trucelaw16_AcctTells.j0 k l0 a1 a2 true) else (if (!(bt352.1 == bt358.1) || (!(bt352.2.1 == bt358.2.1) || (!(bt352.2.2.1 == bt358.2.2.1) || (!(bt352.2.2.2.1 == bt358.2.2.2.1))))) = true then (trucelaw16_AcctTells.j0 k l0 a1 a2 true) else (trucelaw16_AcctTells.j0 k l0 a1 a2 (bt352.2.2.2.2 != bt358.2.2.2.2)))))))) else ((trucelaw16_awake.f k).bind fun t351 => (some t351)))
theorem trucelaw16_AcctTells.mono_l : ∀ k, (∀ y0 y1 y2 y3, LeO (trucelaw16_AcctTells.j0 k y0 y1 y2 y3) (trucelaw16_AcctTells.j0 (k + 1) y0 y1 y2 y3))
  | 0 => fun _ _ _ _ r h => by simp [trucelaw16_AcctTells.j0] at h
  | k + 1 => by
    have ih0 := trucelaw16_AcctTells.mono_l k
    · intro y0 y1 y2 y3
      unfold trucelaw16_AcctTells.j0
      repeat' first
      | (with_reducible exact ih0 _ _ _ _)
      | (with_reducible exact acct_Sum.mono _ _ _)
      | (with_reducible exact trucelaw16_awake.mono _)
      | (with_reducible exact truceref16_Fit.mono _ _)
      | (with_reducible exact truceref16_Get.mono _ _ _ _)
      | (with_reducible exact truceref16_Sum.mono _ _ _)
      | (with_reducible exact LeO.refl _)
      | (with_reducible exact LeO.none _)
      | (with_reducible refine LeO.ite ?_ ?_)
      | (with_reducible refine LeO.bind ?_ (fun _ => ?_))
      | exact ih0 _ _ _ _
      | exact acct_Sum.mono _ _ _
      | exact trucelaw16_awake.mono _
      | exact truceref16_Fit.mono _ _
      | exact truceref16_Get.mono _ _ _ _
      | exact truceref16_Sum.mono _ _ _
      | exact LeO.none _
      | refine LeO.ite ?_ ?_
      | refine LeO.bind ?_ (fun _ => ?_)
theorem trucelaw16_AcctTells.mono : ∀ a0 a1 a2 k, LeO (trucelaw16_AcctTells.f k a0 a1 a2) (trucelaw16_AcctTells.f (k + 1) a0 a1 a2) := by
  intro a0 a1 a2 k
  have ih0 := trucelaw16_AcctTells.mono_l k
  unfold trucelaw16_AcctTells.f
  repeat' first
      | (with_reducible exact ih0 _ _ _ _)
      | (with_reducible exact acct_Sum.mono _ _ _)
      | (with_reducible exact trucelaw16_awake.mono _)
      | (with_reducible exact truceref16_Fit.mono _ _)
      | (with_reducible exact truceref16_Get.mono _ _ _ _)
      | (with_reducible exact truceref16_Sum.mono _ _ _)
      | (with_reducible exact LeO.refl _)
      | (with_reducible exact LeO.none _)
      | (with_reducible refine LeO.ite ?_ ?_)
      | (with_reducible refine LeO.bind ?_ (fun _ => ?_))
      | exact ih0 _ _ _ _
      | exact acct_Sum.mono _ _ _
      | exact trucelaw16_awake.mono _
      | exact truceref16_Fit.mono _ _
      | exact truceref16_Get.mono _ _ _ _
      | exact truceref16_Sum.mono _ _ _
      | exact LeO.none _
      | refine LeO.ite ?_ ?_
      | refine LeO.bind ?_ (fun _ => ?_)
set_option maxHeartbeats 8000000 in
set_option maxRecDepth 100000 in
theorem trucelaw16_AcctTells.callsT (k : Nat) (A0 : Option Addr) (c0 : Nat) (l0 : List (S39)) (a1 : ByteArray) (a2 : ByteArray) (r : Bool) (w : World) (hr0 : Kd.C k39 w A0 l0.length l0) (hc0 : l0.length ≤ c0) (hr_ : Aside0 (r = true)) (h : trucelaw16_AcctTells.f k l0 a1 a2 = some r) :
    Calls Try.prog 6 #[.slice A0 l0.length c0, .string a1, .string a2] w fun e w' => e = .returned (.bool r) ∧ Below w.heap.size w w' := by
  have hu25 := Try.underlying25
  have HR0 := Aside0.mk hr0
  have HC0 := Aside0.mk hc0
  clear hr0 hc0
  have HB := Aside0.mk (Below.refl w.heap.size w)
  have H : ((trucelaw16_few.f l0).bind fun t350 => (if t350 = true then ((acct_Sum.f k l0 a2).bind fun bt352 => ((truceref16_Sum.f k l0 a2).bind fun bt358 => ((acct_Fit.f l0).bind fun t364 => ((truceref16_Fit.f k l0).bind fun t365 => (if (t364 != t365) = true then (trucelaw16_AcctTells.j0 k l0 a1 a2 true) else (if (!(bt352.1 == bt358.1) || (!(bt352.2.1 == bt358.2.1) || (!(bt352.2.2.1 == bt358.2.2.1) || (!(bt352.2.2.2.1 == bt358.2.2.2.1))))) = true then (trucelaw16_AcctTells.j0 k l0 a1 a2 true) else (trucelaw16_AcctTells.j0 k l0 a1 a2 (bt352.2.2.2.2 != bt358.2.2.2.2)))))))) else ((trucelaw16_awake.f k).bind fun t351 => (some t351)))) = some r := h
  clear h
  replace H := Option.bind_eq_some_iff.mp H
  obtain ⟨t350, A40, H⟩ := H
  replace H : (if t350 = true then ((acct_Sum.f k l0 a2).bind fun bt352 => ((truceref16_Sum.f k l0 a2).bind fun bt358 => ((acct_Fit.f l0).bind fun t364 => ((truceref16_Fit.f k l0).bind fun t365 => (if (t364 != t365) = true then (trucelaw16_AcctTells.j0 k l0 a1 a2 true) else (if (!(bt352.1 == bt358.1) || (!(bt352.2.1 == bt358.2.1) || (!(bt352.2.2.1 == bt358.2.2.1) || (!(bt352.2.2.2.1 == bt358.2.2.2.1))))) = true then (trucelaw16_AcctTells.j0 k l0 a1 a2 true) else (trucelaw16_AcctTells.j0 k l0 a1 a2 (bt352.2.2.2.2 != bt358.2.2.2.2)))))))) else ((trucelaw16_awake.f k).bind fun t351 => (some t351))) = some r := H
  have A4 := Aside0.mk A40
  clear A40
  by_cases c5 : t350 = true
  · subst c5
    have H1 : ((acct_Sum.f k l0 a2).bind fun bt352 => ((truceref16_Sum.f k l0 a2).bind fun bt358 => ((acct_Fit.f l0).bind fun t364 => ((truceref16_Fit.f k l0).bind fun t365 => (if (t364 != t365) = true then (trucelaw16_AcctTells.j0 k l0 a1 a2 true) else (if (!(bt352.1 == bt358.1) || (!(bt352.2.1 == bt358.2.1) || (!(bt352.2.2.1 == bt358.2.2.1) || (!(bt352.2.2.2.1 == bt358.2.2.2.1))))) = true then (trucelaw16_AcctTells.j0 k l0 a1 a2 true) else (trucelaw16_AcctTells.j0 k l0 a1 a2 (bt352.2.2.2.2 != bt358.2.2.2.2)))))))) = some r := by rw [if_pos rfl] at H; exact H
    clear H
    have H := H1
    clear H1
    replace H := Option.bind_eq_some_iff.mp H
    obtain ⟨⟨t352, t353, t354, t355, t356⟩, A60, H⟩ := H
    replace H : ((truceref16_Sum.f k l0 a2).bind fun bt358 => ((acct_Fit.f l0).bind fun t364 => ((truceref16_Fit.f k l0).bind fun t365 => (if (t364 != t365) = true then (trucelaw16_AcctTells.j0 k l0 a1 a2 true) else (if (!(t352 == bt358.1) || (!(t353 == bt358.2.1) || (!(t354 == bt358.2.2.1) || (!(t355 == bt358.2.2.2.1))))) = true then (trucelaw16_AcctTells.j0 k l0 a1 a2 true) else (trucelaw16_AcctTells.j0 k l0 a1 a2 (t356 != bt358.2.2.2.2))))))) = some r := H
    have A6 := Aside0.mk A60
    clear A60
    replace H := Option.bind_eq_some_iff.mp H
    obtain ⟨⟨t358, t359, t360, t361, t362⟩, A70, H⟩ := H
    replace H : ((acct_Fit.f l0).bind fun t364 => ((truceref16_Fit.f k l0).bind fun t365 => (if (t364 != t365) = true then (trucelaw16_AcctTells.j0 k l0 a1 a2 true) else (if (!(t352 == t358) || (!(t353 == t359) || (!(t354 == t360) || (!(t355 == t361))))) = true then (trucelaw16_AcctTells.j0 k l0 a1 a2 true) else (trucelaw16_AcctTells.j0 k l0 a1 a2 (t356 != t362)))))) = some r := H
    have A7 := Aside0.mk A70
    clear A70
    have HC8 := Aside0.mk H
    clear H
    go_enter Try.func6, Try.ntmps6
    go_upto_region 5 with (first | ((with_reducible refine gate_callee (f := 7) rfl ?_); refine goesL_ (some 12) rfl rfl Try.func7 (by kernel_rfl) rfl #[.slice A0 l0.length c0] rfl (by (try simp only [List.map_toArray, List.map_cons, List.map_nil]); first | done | rfl | (simp only [List.length_drop, List.length_take]; rfl)) ?_; (with_reducible refine (trucelaw16_few.calls _ _ l0 true _ ?side1 ?side2 A4.out).mono ?_); (case side1 => repeat (first | exact HR0.out | (with_reducible refine Kd.C_alloc ?_ _) | (with_reducible refine Kd.C_drewN ?_ _) | (with_reducible refine Kd.C_drew ?_))); (case side2 => exact HC0.out); rintro e w' ⟨rfl, ⟨nd, rfl⟩⟩; refine ⟨_, rfl, ?_⟩) | ((with_reducible refine gate_callee (f := 19) rfl ?_); refine goesL_ (some 18) rfl rfl Try.func19 (by kernel_rfl) rfl #[.slice A0 l0.length c0, .string a2] rfl (by (try simp only [List.map_toArray, List.map_cons, List.map_nil]); first | done | rfl | (simp only [List.length_drop, List.length_take]; rfl)) ?_; (with_reducible refine (acct_Sum.calls k _ _ l0 a2 t352 t353 t354 t355 t356 _ ?side1 ?side2 A6.out).mono ?_); (case side1 => repeat (first | exact HR0.out | (with_reducible refine Kd.C_alloc ?_ _) | (with_reducible refine Kd.C_drewN ?_ _) | (with_reducible refine Kd.C_drew ?_))); (case side2 => exact HC0.out); rintro e w9 ⟨rfl, hb⟩; refine ⟨_, rfl, ?_⟩; have n0_ := Aside0.mk (below_step (by repeat (first | (with_reducible first | exact HB.out | apply below_alloc | apply pw_below_drewN | apply below_drew1) | exact HB.out)) hb); clear HB; have HB := n0_; clear n0_; (try clear hb); (try clear hb2); (try clear hk); (try clear hi)) | ((with_reducible refine gate_dst (N := 7) rfl ?_); refine box_event ?hg (N := 7) ?hd (cs := #[.int .u64 0, .int .u64 0, .int .u64 0, .int .u64 0]) (t := 25) ?hr ?_; (case hd => rfl); (case hg => rfl); (case hr => first | (go_simp; done) | (go_simp; rfl)); intro gb357 hg w10 hbox hb; have n0_ := Aside0.mk (below_step (by repeat (first | (with_reducible first | exact HB.out | apply below_alloc | apply pw_below_drewN | apply below_drew1) | exact HB.out)) hb); have n1_ := Aside0.mk (hbox); have n2_ := Aside0.mk ((by rw [hg]; exact (below_size (by repeat (first | (with_reducible first | exact HB.out | apply below_alloc | apply pw_below_drewN | apply below_drew1) | exact HB.out))) : w.heap.size ≤ gb357)); have n3_ := Aside0.mk ((by rw [hg]; exact (below_size (by repeat (first | (with_reducible first | exact HB.out | apply below_alloc | apply pw_below_drewN | apply below_drew1) | exact HB.out))) : w.heap.size ≤ gb357)); clear HB; have HB := n0_; have BK357 := n1_; have GW357 := n2_; have GE357 := n3_; clear n0_ n1_ n2_ n3_; clear hb hbox hg; have hcz11_0 : w10.cell? ⟨gb357, 0, none⟩ = some (.int .u64 0) := (blk_cell BK357.out 0).trans rfl; have hcz11_1 : w10.cell? ⟨gb357, 1, none⟩ = some (.int .u64 0) := (blk_cell BK357.out 1).trans rfl; have hcz11_2 : w10.cell? ⟨gb357, 2, none⟩ = some (.int .u64 0) := (blk_cell BK357.out 2).trans rfl; have hcz11_3 : w10.cell? ⟨gb357, 3, none⟩ = some (.int .u64 0) := (blk_cell BK357.out 3).trans rfl; have hfz11_0 := blk_frozen BK357.out 0; have hfz11_1 := blk_frozen BK357.out 1; have hfz11_2 := blk_frozen BK357.out 2; have hfz11_3 := blk_frozen BK357.out 3) | ((with_reducible refine gate_callee (f := 15) rfl ?_); refine goesL_ (some 24) rfl rfl Try.func15 (by kernel_rfl) rfl #[.slice A0 l0.length c0, .string a2] rfl (by (try simp only [List.map_toArray, List.map_cons, List.map_nil]); first | done | rfl | (simp only [List.length_drop, List.length_take]; rfl)) ?_; (with_reducible refine (truceref16_Sum.calls k _ _ l0 a2 t358 t359 t360 t361 t362 _ ?side1 ?side2 A7.out).mono ?_); (case side1 => exact Kd.C_below HR0.out (by repeat (first | (with_reducible first | exact HB.out | apply below_alloc | apply pw_below_drewN | apply below_drew1 | refine below_set ?_ GE357.out) | exact HB.out))); (case side2 => exact HC0.out); rintro e w12 ⟨rfl, hb⟩; refine ⟨_, rfl, ?_⟩; have n0_ := Aside0.mk (blk_below (g := gb357) (o := .cells #[.int .u64 t352, .int .u64 t353, .int .u64 t354, .int .u64 t355] 25 (0, 0)) (by (with_reducible repeat (first | refine blk_drewN ?_ _ | refine blk_drew ?_ | refine blk_alloc ?_ _)); refine blk_put (cs := #[.int .u64 t352, .int .u64 t353, .int .u64 t354, .int .u64 0]) ?_ 3 _ rfl; (with_reducible repeat (first | refine blk_drewN ?_ _ | refine blk_drew ?_ | refine blk_alloc ?_ _)); refine blk_put (cs := #[.int .u64 t352, .int .u64 t353, .int .u64 0, .int .u64 0]) ?_ 2 _ rfl; (with_reducible repeat (first | refine blk_drewN ?_ _ | refine blk_drew ?_ | refine blk_alloc ?_ _)); refine blk_put (cs := #[.int .u64 t352, .int .u64 0, .int .u64 0, .int .u64 0]) ?_ 1 _ rfl; (with_reducible repeat (first | refine blk_drewN ?_ _ | refine blk_drew ?_ | refine blk_alloc ?_ _)); refine blk_put (cs := #[.int .u64 0, .int .u64 0, .int .u64 0, .int .u64 0]) ?_ 0 _ rfl; (with_reducible repeat (first | refine blk_drewN ?_ _ | refine blk_drew ?_ | refine blk_alloc ?_ _)); exact BK357.out) hb); have n1_ := Aside0.mk (below_step (by repeat (first | (with_reducible first | exact HB.out | apply below_alloc | apply pw_below_drewN | apply below_drew1 | refine below_set ?_ GE357.out) | exact HB.out)) hb); clear BK357; clear HB; have BK357 := n0_; have HB := n1_; clear n0_ n1_; (try clear hb); (try clear hb2); (try clear hk); (try clear hi)) | ((with_reducible refine gate_dst (N := 9) rfl ?_); refine box_event ?hg (N := 9) ?hd (cs := #[.int .u64 0, .int .u64 0, .int .u64 0, .int .u64 0]) (t := 25) ?hr ?_; (case hd => rfl); (case hg => rfl); (case hr => first | (go_simp; done) | (go_simp; rfl)); intro gb363 hg w13 hbox hb; have n0_ := Aside0.mk (blk_below (g := gb357) (o := .cells #[.int .u64 t352, .int .u64 t353, .int .u64 t354, .int .u64 t355] 25 (0, 0)) (by (with_reducible repeat (first | refine blk_drewN ?_ _ | refine blk_drew ?_ | refine blk_alloc ?_ _)); exact BK357.out) hb); have n1_ := Aside0.mk (below_step (by repeat (first | (with_reducible first | exact HB.out | apply below_alloc | apply pw_below_drewN | apply below_drew1 | refine below_set ?_ GE357.out) | exact HB.out)) hb); have n2_ := Aside0.mk (hbox); have n3_ := Aside0.mk ((by rw [hg]; exact (below_size (by repeat (first | (with_reducible first | exact HB.out | apply below_alloc | apply pw_below_drewN | apply below_drew1 | refine below_set ?_ GE357.out) | exact HB.out))) : w.heap.size ≤ gb363)); have n4_ := Aside0.mk ((by rw [hg]; exact (below_size (by repeat (first | (with_reducible first | exact HB.out | apply below_alloc | apply pw_below_drewN | apply below_drew1 | refine below_set ?_ GE357.out) | exact HB.out))) : w.heap.size ≤ gb363)); have n5_ := Aside0.mk ((by rw [hg]; exact Nat.ne_of_lt (blk_lt (g := gb357) (o := .cells #[.int .u64 t352, .int .u64 t353, .int .u64 t354, .int .u64 t355] 25 (0, 0)) (by (with_reducible repeat (first | refine blk_drewN ?_ _ | refine blk_drew ?_ | refine blk_alloc ?_ _)); exact BK357.out)) : gb357 ≠ gb363)); have n6_ := Aside0.mk ((by rw [hg]; exact Nat.ne_of_gt (blk_lt (g := gb357) (o := .cells #[.int .u64 t352, .int .u64 t353, .int .u64 t354, .int .u64 t355] 25 (0, 0)) (by (with_reducible repeat (first | refine blk_drewN ?_ _ | refine blk_drew ?_ | refine blk_alloc ?_ _)); exact BK357.out)) : gb363 ≠ gb357)); clear BK357; clear HB; have BK357 := n0_; have HB := n1_; have BK363 := n2_; have GW363 := n3_; have GE363 := n4_; have NB357_363 := n5_; have NB363_357 := n6_; clear n0_ n1_ n2_ n3_ n4_ n5_ n6_; clear hb hbox hg; have hnb14 := NB363_357.out; have hnc14 := NB357_363.out; have hcz15_0 : w13.cell? ⟨gb363, 0, none⟩ = some (.int .u64 0) := (blk_cell BK363.out 0).trans rfl; have hcz15_1 : w13.cell? ⟨gb363, 1, none⟩ = some (.int .u64 0) := (blk_cell BK363.out 1).trans rfl; have hcz15_2 : w13.cell? ⟨gb363, 2, none⟩ = some (.int .u64 0) := (blk_cell BK363.out 2).trans rfl; have hcz15_3 : w13.cell? ⟨gb363, 3, none⟩ = some (.int .u64 0) := (blk_cell BK363.out 3).trans rfl; have hfz15_0 := blk_frozen BK363.out 0; have hfz15_1 := blk_frozen BK363.out 1; have hfz15_2 := blk_frozen BK363.out 2; have hfz15_3 := blk_frozen BK363.out 3))
    (try simp only [Act.put, List.setIfInBounds_toArray, List.set_cons_zero, List.set_cons_succ])
    go_cut [41] (fun v41 wc => ∃ (kq : Nat) (x41_7 : Bool), v41 = .bool x41_7 ∧ Aside0 (trucelaw16_AcctTells.j0 kq l0 a1 a2 x41_7 = some r) ∧ Aside0 (kq ≤ k) ∧ Aside0 (wc.heap[gb357]? = some (.cells #[.int .u64 t352, .int .u64 t353, .int .u64 t354, .int .u64 t355] 25 (0, 0))) ∧ Aside0 (wc.heap[gb363]? = some (.cells #[.int .u64 t358, .int .u64 t359, .int .u64 t360, .int .u64 t361] 25 (0, 0))) ∧ Aside0 (Below w.heap.size w wc))
    case first =>
      have H := HC8.out
      clear HC8
      replace H := Option.bind_eq_some_iff.mp H
      obtain ⟨t364, A160, H⟩ := H
      replace H : ((truceref16_Fit.f k l0).bind fun t365 => (if (t364 != t365) = true then (trucelaw16_AcctTells.j0 k l0 a1 a2 true) else (if (!(t352 == t358) || (!(t353 == t359) || (!(t354 == t360) || (!(t355 == t361))))) = true then (trucelaw16_AcctTells.j0 k l0 a1 a2 true) else (trucelaw16_AcctTells.j0 k l0 a1 a2 (t356 != t362))))) = some r := H
      have A16 := Aside0.mk A160
      clear A160
      replace H := Option.bind_eq_some_iff.mp H
      obtain ⟨t365, A170, H⟩ := H
      replace H : (if (t364 != t365) = true then (trucelaw16_AcctTells.j0 k l0 a1 a2 true) else (if (!(t352 == t358) || (!(t353 == t359) || (!(t354 == t360) || (!(t355 == t361))))) = true then (trucelaw16_AcctTells.j0 k l0 a1 a2 true) else (trucelaw16_AcctTells.j0 k l0 a1 a2 (t356 != t362)))) = some r := H
      have A17 := Aside0.mk A170
      clear A170
      by_cases c18 : (t364 != t365) = true
      · rw [if_pos c18] at H
        have c18b0 : (t364 != t365) = true := c18
        (try (have c18b1 : decide (t364 = t365) = false := by simpa using c18))
        (try (have c18b2 : (t364 == t365) = false := by simpa using c18))
        (try (have c18b3 : ¬ (t364 = t365) := by simpa using c18))
        clear c18
        (first | rw [c18b0] | (simp only [i64_w, i32_w]; rw [c18b0]) | skip)
        have H' := Aside0.mk H
        clear H
        go_wp2_with (first | ((with_reducible refine gate_callee (f := 20) rfl ?_); refine goesL_ (some 28) rfl rfl Try.func20 (by kernel_rfl) rfl #[.slice A0 l0.length c0] rfl (by (try simp only [List.map_toArray, List.map_cons, List.map_nil]); first | done | rfl | (simp only [List.length_drop, List.length_take]; rfl)) ?_; (with_reducible refine (acct_Fit.calls _ _ l0 t364 _ ?side1 ?side2 A16.out).mono ?_); (case side1 => exact Kd.C_below HR0.out (by repeat (first | (with_reducible first | exact HB.out | apply below_alloc | apply pw_below_drewN | apply below_drew1 | refine below_set ?_ GE357.out | refine below_set ?_ GE363.out) | exact HB.out))); (case side2 => exact HC0.out); rintro e w19 ⟨rfl, hb⟩; refine ⟨_, rfl, ?_⟩; have n0_ := Aside0.mk (blk_below (g := gb357) (o := .cells #[.int .u64 t352, .int .u64 t353, .int .u64 t354, .int .u64 t355] 25 (0, 0)) (by (with_reducible repeat (first | refine blk_drewN ?_ _ | refine blk_drew ?_ | refine blk_alloc ?_ _)); refine blk_far ?_ NB357_363.out _; (with_reducible repeat (first | refine blk_drewN ?_ _ | refine blk_drew ?_ | refine blk_alloc ?_ _)); refine blk_far ?_ NB357_363.out _; (with_reducible repeat (first | refine blk_drewN ?_ _ | refine blk_drew ?_ | refine blk_alloc ?_ _)); refine blk_far ?_ NB357_363.out _; (with_reducible repeat (first | refine blk_drewN ?_ _ | refine blk_drew ?_ | refine blk_alloc ?_ _)); refine blk_far ?_ NB357_363.out _; (with_reducible repeat (first | refine blk_drewN ?_ _ | refine blk_drew ?_ | refine blk_alloc ?_ _)); exact BK357.out) hb); have n1_ := Aside0.mk (blk_below (g := gb363) (o := .cells #[.int .u64 t358, .int .u64 t359, .int .u64 t360, .int .u64 t361] 25 (0, 0)) (by (with_reducible repeat (first | refine blk_drewN ?_ _ | refine blk_drew ?_ | refine blk_alloc ?_ _)); refine blk_put (cs := #[.int .u64 t358, .int .u64 t359, .int .u64 t360, .int .u64 0]) ?_ 3 _ rfl; (with_reducible repeat (first | refine blk_drewN ?_ _ | refine blk_drew ?_ | refine blk_alloc ?_ _)); refine blk_put (cs := #[.int .u64 t358, .int .u64 t359, .int .u64 0, .int .u64 0]) ?_ 2 _ rfl; (with_reducible repeat (first | refine blk_drewN ?_ _ | refine blk_drew ?_ | refine blk_alloc ?_ _)); refine blk_put (cs := #[.int .u64 t358, .int .u64 0, .int .u64 0, .int .u64 0]) ?_ 1 _ rfl; (with_reducible repeat (first | refine blk_drewN ?_ _ | refine blk_drew ?_ | refine blk_alloc ?_ _)); refine blk_put (cs := #[.int .u64 0, .int .u64 0, .int .u64 0, .int .u64 0]) ?_ 0 _ rfl; (with_reducible repeat (first | refine blk_drewN ?_ _ | refine blk_drew ?_ | refine blk_alloc ?_ _)); exact BK363.out) hb); have n2_ := Aside0.mk (below_step (by repeat (first | (with_reducible first | exact HB.out | apply below_alloc | apply pw_below_drewN | apply below_drew1 | refine below_set ?_ GE357.out | refine below_set ?_ GE363.out) | exact HB.out)) hb); clear BK357; clear BK363; clear HB; have BK357 := n0_; have BK363 := n1_; have HB := n2_; clear n0_ n1_ n2_; (try clear hb); (try clear hb2); (try clear hk); (try clear hi)) | ((with_reducible refine gate_callee (f := 8) rfl ?_); refine goesL_ (some 30) rfl rfl Try.func8 (by kernel_rfl) rfl #[.slice A0 l0.length c0] rfl (by (try simp only [List.map_toArray, List.map_cons, List.map_nil]); first | done | rfl | (simp only [List.length_drop, List.length_take]; rfl)) ?_; (with_reducible refine (truceref16_Fit.calls k _ _ l0 t365 _ ?side1 ?side2 A17.out).mono ?_); (case side1 => repeat (first | exact (Kd.C_below HR0.out HB.out) | (with_reducible refine Kd.C_alloc ?_ _) | (with_reducible refine Kd.C_drewN ?_ _) | (with_reducible refine Kd.C_drew ?_))); (case side2 => exact HC0.out); rintro e w20 ⟨rfl, hb⟩; refine ⟨_, rfl, ?_⟩; have n0_ := Aside0.mk (blk_below (g := gb357) (o := .cells #[.int .u64 t352, .int .u64 t353, .int .u64 t354, .int .u64 t355] 25 (0, 0)) (by (with_reducible repeat (first | refine blk_drewN ?_ _ | refine blk_drew ?_ | refine blk_alloc ?_ _)); exact BK357.out) hb); have n1_ := Aside0.mk (blk_below (g := gb363) (o := .cells #[.int .u64 t358, .int .u64 t359, .int .u64 t360, .int .u64 t361] 25 (0, 0)) (by (with_reducible repeat (first | refine blk_drewN ?_ _ | refine blk_drew ?_ | refine blk_alloc ?_ _)); exact BK363.out) hb); have n2_ := Aside0.mk (below_step (by repeat (first | (with_reducible first | exact HB.out | apply below_alloc | apply pw_below_drewN | apply below_drew1 | refine below_set ?_ GE357.out | refine below_set ?_ GE363.out) | exact HB.out)) hb); clear BK357; clear BK363; clear HB; have BK357 := n0_; have BK363 := n1_; have HB := n2_; clear n0_ n1_ n2_; (try clear hb); (try clear hb2); (try clear hk); (try clear hi)))
        go_meet
        case rel => exact ⟨_, (true), (by first | rfl | (simp; done) | (simp [*]; done)), H', ⟨by first | omega | exact Nat.le_refl _⟩, ⟨by (with_reducible repeat (first | refine blk_drewN ?_ _ | refine blk_drew ?_ | refine blk_alloc ?_ _)); exact BK357.out⟩, ⟨by (with_reducible repeat (first | refine blk_drewN ?_ _ | refine blk_drew ?_ | refine blk_alloc ?_ _)); exact BK363.out⟩, ⟨by repeat (first | (with_reducible first | exact HB.out | apply below_alloc | apply pw_below_drewN | apply below_drew1 | refine below_set ?_ GE357.out | refine below_set ?_ GE363.out) | exact HB.out)⟩⟩
      · rw [if_neg c18] at H
        have c18b0 : (t364 != t365) = false := by simpa using c18
        (try (have c18b1 : decide (t364 = t365) = true := by simpa using c18))
        (try (have c18b2 : (t364 == t365) = true := by simpa using c18))
        clear c18
        (first | rw [c18b0] | (simp only [i64_w, i32_w]; rw [c18b0]) | skip)
        by_cases c21 : (!(t352 == t358) || (!(t353 == t359) || (!(t354 == t360) || (!(t355 == t361))))) = true
        · rw [if_pos c21] at H
          have c21b0 : (!(t352 == t358) || (!(t353 == t359) || (!(t354 == t360) || (!(t355 == t361))))) = true := c21
          clear c21
          have H' := Aside0.mk H
          clear H
          go_wp2_with (first | ((with_reducible refine gate_callee (f := 20) rfl ?_); refine goesL_ (some 28) rfl rfl Try.func20 (by kernel_rfl) rfl #[.slice A0 l0.length c0] rfl (by (try simp only [List.map_toArray, List.map_cons, List.map_nil]); first | done | rfl | (simp only [List.length_drop, List.length_take]; rfl)) ?_; (with_reducible refine (acct_Fit.calls _ _ l0 t364 _ ?side1 ?side2 A16.out).mono ?_); (case side1 => exact Kd.C_below HR0.out (by repeat (first | (with_reducible first | exact HB.out | apply below_alloc | apply pw_below_drewN | apply below_drew1 | refine below_set ?_ GE357.out | refine below_set ?_ GE363.out) | exact HB.out))); (case side2 => exact HC0.out); rintro e w22 ⟨rfl, hb⟩; refine ⟨_, rfl, ?_⟩; have n0_ := Aside0.mk (blk_below (g := gb357) (o := .cells #[.int .u64 t352, .int .u64 t353, .int .u64 t354, .int .u64 t355] 25 (0, 0)) (by (with_reducible repeat (first | refine blk_drewN ?_ _ | refine blk_drew ?_ | refine blk_alloc ?_ _)); refine blk_far ?_ NB357_363.out _; (with_reducible repeat (first | refine blk_drewN ?_ _ | refine blk_drew ?_ | refine blk_alloc ?_ _)); refine blk_far ?_ NB357_363.out _; (with_reducible repeat (first | refine blk_drewN ?_ _ | refine blk_drew ?_ | refine blk_alloc ?_ _)); refine blk_far ?_ NB357_363.out _; (with_reducible repeat (first | refine blk_drewN ?_ _ | refine blk_drew ?_ | refine blk_alloc ?_ _)); refine blk_far ?_ NB357_363.out _; (with_reducible repeat (first | refine blk_drewN ?_ _ | refine blk_drew ?_ | refine blk_alloc ?_ _)); exact BK357.out) hb); have n1_ := Aside0.mk (blk_below (g := gb363) (o := .cells #[.int .u64 t358, .int .u64 t359, .int .u64 t360, .int .u64 t361] 25 (0, 0)) (by (with_reducible repeat (first | refine blk_drewN ?_ _ | refine blk_drew ?_ | refine blk_alloc ?_ _)); refine blk_put (cs := #[.int .u64 t358, .int .u64 t359, .int .u64 t360, .int .u64 0]) ?_ 3 _ rfl; (with_reducible repeat (first | refine blk_drewN ?_ _ | refine blk_drew ?_ | refine blk_alloc ?_ _)); refine blk_put (cs := #[.int .u64 t358, .int .u64 t359, .int .u64 0, .int .u64 0]) ?_ 2 _ rfl; (with_reducible repeat (first | refine blk_drewN ?_ _ | refine blk_drew ?_ | refine blk_alloc ?_ _)); refine blk_put (cs := #[.int .u64 t358, .int .u64 0, .int .u64 0, .int .u64 0]) ?_ 1 _ rfl; (with_reducible repeat (first | refine blk_drewN ?_ _ | refine blk_drew ?_ | refine blk_alloc ?_ _)); refine blk_put (cs := #[.int .u64 0, .int .u64 0, .int .u64 0, .int .u64 0]) ?_ 0 _ rfl; (with_reducible repeat (first | refine blk_drewN ?_ _ | refine blk_drew ?_ | refine blk_alloc ?_ _)); exact BK363.out) hb); have n2_ := Aside0.mk (below_step (by repeat (first | (with_reducible first | exact HB.out | apply below_alloc | apply pw_below_drewN | apply below_drew1 | refine below_set ?_ GE357.out | refine below_set ?_ GE363.out) | exact HB.out)) hb); clear BK357; clear BK363; clear HB; have BK357 := n0_; have BK363 := n1_; have HB := n2_; clear n0_ n1_ n2_; (try clear hb); (try clear hb2); (try clear hk); (try clear hi)) | ((with_reducible refine gate_callee (f := 8) rfl ?_); refine goesL_ (some 30) rfl rfl Try.func8 (by kernel_rfl) rfl #[.slice A0 l0.length c0] rfl (by (try simp only [List.map_toArray, List.map_cons, List.map_nil]); first | done | rfl | (simp only [List.length_drop, List.length_take]; rfl)) ?_; (with_reducible refine (truceref16_Fit.calls k _ _ l0 t365 _ ?side1 ?side2 A17.out).mono ?_); (case side1 => repeat (first | exact (Kd.C_below HR0.out HB.out) | (with_reducible refine Kd.C_alloc ?_ _) | (with_reducible refine Kd.C_drewN ?_ _) | (with_reducible refine Kd.C_drew ?_))); (case side2 => exact HC0.out); rintro e w23 ⟨rfl, hb⟩; refine ⟨_, rfl, ?_⟩; have n0_ := Aside0.mk (blk_below (g := gb357) (o := .cells #[.int .u64 t352, .int .u64 t353, .int .u64 t354, .int .u64 t355] 25 (0, 0)) (by (with_reducible repeat (first | refine blk_drewN ?_ _ | refine blk_drew ?_ | refine blk_alloc ?_ _)); exact BK357.out) hb); have n1_ := Aside0.mk (blk_below (g := gb363) (o := .cells #[.int .u64 t358, .int .u64 t359, .int .u64 t360, .int .u64 t361] 25 (0, 0)) (by (with_reducible repeat (first | refine blk_drewN ?_ _ | refine blk_drew ?_ | refine blk_alloc ?_ _)); exact BK363.out) hb); have n2_ := Aside0.mk (below_step (by repeat (first | (with_reducible first | exact HB.out | apply below_alloc | apply pw_below_drewN | apply below_drew1 | refine below_set ?_ GE357.out | refine below_set ?_ GE363.out) | exact HB.out)) hb); clear BK357; clear BK363; clear HB; have BK357 := n0_; have BK363 := n1_; have HB := n2_; clear n0_ n1_ n2_; (try clear hb); (try clear hb2); (try clear hk); (try clear hi); have hnb24 := NB357_363.out; have hnc24 := NB363_357.out; have hcz25_0 : w23.cell? ⟨gb357, 0, none⟩ = some (.int .u64 t352) := (blk_cell BK357.out 0).trans rfl; have hcz25_1 : w23.cell? ⟨gb357, 1, none⟩ = some (.int .u64 t353) := (blk_cell BK357.out 1).trans rfl; have hcz25_2 : w23.cell? ⟨gb357, 2, none⟩ = some (.int .u64 t354) := (blk_cell BK357.out 2).trans rfl; have hcz25_3 : w23.cell? ⟨gb357, 3, none⟩ = some (.int .u64 t355) := (blk_cell BK357.out 3).trans rfl; have hfz25_0 := blk_frozen BK357.out 0; have hfz25_1 := blk_frozen BK357.out 1; have hfz25_2 := blk_frozen BK357.out 2; have hfz25_3 := blk_frozen BK357.out 3; have hcz26_0 : w23.cell? ⟨gb363, 0, none⟩ = some (.int .u64 t358) := (blk_cell BK363.out 0).trans rfl; have hcz26_1 : w23.cell? ⟨gb363, 1, none⟩ = some (.int .u64 t359) := (blk_cell BK363.out 1).trans rfl; have hcz26_2 : w23.cell? ⟨gb363, 2, none⟩ = some (.int .u64 t360) := (blk_cell BK363.out 2).trans rfl; have hcz26_3 : w23.cell? ⟨gb363, 3, none⟩ = some (.int .u64 t361) := (blk_cell BK363.out 3).trans rfl; have hfz26_0 := blk_frozen BK363.out 0; have hfz26_1 := blk_frozen BK363.out 1; have hfz26_2 := blk_frozen BK363.out 2; have hfz26_3 := blk_frozen BK363.out 3))
          go_meet
          case rel => exact ⟨_, (true), (by first | rfl | (simp; done) | (simp [*]; done)), H', ⟨by first | omega | exact Nat.le_refl _⟩, ⟨by (with_reducible repeat (first | refine blk_drewN ?_ _ | refine blk_drew ?_ | refine blk_alloc ?_ _)); exact BK357.out⟩, ⟨by (with_reducible repeat (first | refine blk_drewN ?_ _ | refine blk_drew ?_ | refine blk_alloc ?_ _)); exact BK363.out⟩, ⟨by repeat (first | (with_reducible first | exact HB.out | apply below_alloc | apply pw_below_drewN | apply below_drew1 | refine below_set ?_ GE357.out | refine below_set ?_ GE363.out) | exact HB.out)⟩⟩
        · rw [if_neg c21] at H
          have c21b0 : (!(t352 == t358) || (!(t353 == t359) || (!(t354 == t360) || (!(t355 == t361))))) = false := by simpa using c21
          clear c21
          have H' := Aside0.mk H
          clear H
          go_wp2_with (first | ((with_reducible refine gate_callee (f := 20) rfl ?_); refine goesL_ (some 28) rfl rfl Try.func20 (by kernel_rfl) rfl #[.slice A0 l0.length c0] rfl (by (try simp only [List.map_toArray, List.map_cons, List.map_nil]); first | done | rfl | (simp only [List.length_drop, List.length_take]; rfl)) ?_; (with_reducible refine (acct_Fit.calls _ _ l0 t364 _ ?side1 ?side2 A16.out).mono ?_); (case side1 => exact Kd.C_below HR0.out (by repeat (first | (with_reducible first | exact HB.out | apply below_alloc | apply pw_below_drewN | apply below_drew1 | refine below_set ?_ GE357.out | refine below_set ?_ GE363.out) | exact HB.out))); (case side2 => exact HC0.out); rintro e w27 ⟨rfl, hb⟩; refine ⟨_, rfl, ?_⟩; have n0_ := Aside0.mk (blk_below (g := gb357) (o := .cells #[.int .u64 t352, .int .u64 t353, .int .u64 t354, .int .u64 t355] 25 (0, 0)) (by (with_reducible repeat (first | refine blk_drewN ?_ _ | refine blk_drew ?_ | refine blk_alloc ?_ _)); refine blk_far ?_ NB357_363.out _; (with_reducible repeat (first | refine blk_drewN ?_ _ | refine blk_drew ?_ | refine blk_alloc ?_ _)); refine blk_far ?_ NB357_363.out _; (with_reducible repeat (first | refine blk_drewN ?_ _ | refine blk_drew ?_ | refine blk_alloc ?_ _)); refine blk_far ?_ NB357_363.out _; (with_reducible repeat (first | refine blk_drewN ?_ _ | refine blk_drew ?_ | refine blk_alloc ?_ _)); refine blk_far ?_ NB357_363.out _; (with_reducible repeat (first | refine blk_drewN ?_ _ | refine blk_drew ?_ | refine blk_alloc ?_ _)); exact BK357.out) hb); have n1_ := Aside0.mk (blk_below (g := gb363) (o := .cells #[.int .u64 t358, .int .u64 t359, .int .u64 t360, .int .u64 t361] 25 (0, 0)) (by (with_reducible repeat (first | refine blk_drewN ?_ _ | refine blk_drew ?_ | refine blk_alloc ?_ _)); refine blk_put (cs := #[.int .u64 t358, .int .u64 t359, .int .u64 t360, .int .u64 0]) ?_ 3 _ rfl; (with_reducible repeat (first | refine blk_drewN ?_ _ | refine blk_drew ?_ | refine blk_alloc ?_ _)); refine blk_put (cs := #[.int .u64 t358, .int .u64 t359, .int .u64 0, .int .u64 0]) ?_ 2 _ rfl; (with_reducible repeat (first | refine blk_drewN ?_ _ | refine blk_drew ?_ | refine blk_alloc ?_ _)); refine blk_put (cs := #[.int .u64 t358, .int .u64 0, .int .u64 0, .int .u64 0]) ?_ 1 _ rfl; (with_reducible repeat (first | refine blk_drewN ?_ _ | refine blk_drew ?_ | refine blk_alloc ?_ _)); refine blk_put (cs := #[.int .u64 0, .int .u64 0, .int .u64 0, .int .u64 0]) ?_ 0 _ rfl; (with_reducible repeat (first | refine blk_drewN ?_ _ | refine blk_drew ?_ | refine blk_alloc ?_ _)); exact BK363.out) hb); have n2_ := Aside0.mk (below_step (by repeat (first | (with_reducible first | exact HB.out | apply below_alloc | apply pw_below_drewN | apply below_drew1 | refine below_set ?_ GE357.out | refine below_set ?_ GE363.out) | exact HB.out)) hb); clear BK357; clear BK363; clear HB; have BK357 := n0_; have BK363 := n1_; have HB := n2_; clear n0_ n1_ n2_; (try clear hb); (try clear hb2); (try clear hk); (try clear hi)) | ((with_reducible refine gate_callee (f := 8) rfl ?_); refine goesL_ (some 30) rfl rfl Try.func8 (by kernel_rfl) rfl #[.slice A0 l0.length c0] rfl (by (try simp only [List.map_toArray, List.map_cons, List.map_nil]); first | done | rfl | (simp only [List.length_drop, List.length_take]; rfl)) ?_; (with_reducible refine (truceref16_Fit.calls k _ _ l0 t365 _ ?side1 ?side2 A17.out).mono ?_); (case side1 => repeat (first | exact (Kd.C_below HR0.out HB.out) | (with_reducible refine Kd.C_alloc ?_ _) | (with_reducible refine Kd.C_drewN ?_ _) | (with_reducible refine Kd.C_drew ?_))); (case side2 => exact HC0.out); rintro e w28 ⟨rfl, hb⟩; refine ⟨_, rfl, ?_⟩; have n0_ := Aside0.mk (blk_below (g := gb357) (o := .cells #[.int .u64 t352, .int .u64 t353, .int .u64 t354, .int .u64 t355] 25 (0, 0)) (by (with_reducible repeat (first | refine blk_drewN ?_ _ | refine blk_drew ?_ | refine blk_alloc ?_ _)); exact BK357.out) hb); have n1_ := Aside0.mk (blk_below (g := gb363) (o := .cells #[.int .u64 t358, .int .u64 t359, .int .u64 t360, .int .u64 t361] 25 (0, 0)) (by (with_reducible repeat (first | refine blk_drewN ?_ _ | refine blk_drew ?_ | refine blk_alloc ?_ _)); exact BK363.out) hb); have n2_ := Aside0.mk (below_step (by repeat (first | (with_reducible first | exact HB.out | apply below_alloc | apply pw_below_drewN | apply below_drew1 | refine below_set ?_ GE357.out | refine below_set ?_ GE363.out) | exact HB.out)) hb); clear BK357; clear BK363; clear HB; have BK357 := n0_; have BK363 := n1_; have HB := n2_; clear n0_ n1_ n2_; (try clear hb); (try clear hb2); (try clear hk); (try clear hi); have hnb29 := NB357_363.out; have hnc29 := NB363_357.out; have hcz30_0 : w28.cell? ⟨gb357, 0, none⟩ = some (.int .u64 t352) := (blk_cell BK357.out 0).trans rfl; have hcz30_1 : w28.cell? ⟨gb357, 1, none⟩ = some (.int .u64 t353) := (blk_cell BK357.out 1).trans rfl; have hcz30_2 : w28.cell? ⟨gb357, 2, none⟩ = some (.int .u64 t354) := (blk_cell BK357.out 2).trans rfl; have hcz30_3 : w28.cell? ⟨gb357, 3, none⟩ = some (.int .u64 t355) := (blk_cell BK357.out 3).trans rfl; have hfz30_0 := blk_frozen BK357.out 0; have hfz30_1 := blk_frozen BK357.out 1; have hfz30_2 := blk_frozen BK357.out 2; have hfz30_3 := blk_frozen BK357.out 3; have hcz31_0 : w28.cell? ⟨gb363, 0, none⟩ = some (.int .u64 t358) := (blk_cell BK363.out 0).trans rfl; have hcz31_1 : w28.cell? ⟨gb363, 1, none⟩ = some (.int .u64 t359) := (blk_cell BK363.out 1).trans rfl; have hcz31_2 : w28.cell? ⟨gb363, 2, none⟩ = some (.int .u64 t360) := (blk_cell BK363.out 2).trans rfl; have hcz31_3 : w28.cell? ⟨gb363, 3, none⟩ = some (.int .u64 t361) := (blk_cell BK363.out 3).trans rfl; have hfz31_0 := blk_frozen BK363.out 0; have hfz31_1 := blk_frozen BK363.out 1; have hfz31_2 := blk_frozen BK363.out 2; have hfz31_3 := blk_frozen BK363.out 3))
          go_meet
          case rel => exact ⟨_, ((t356 != t362)), (by first | rfl | (simp; done) | (simp [*]; done)), H', ⟨by first | omega | exact Nat.le_refl _⟩, ⟨by (with_reducible repeat (first | refine blk_drewN ?_ _ | refine blk_drew ?_ | refine blk_alloc ?_ _)); exact BK357.out⟩, ⟨by (with_reducible repeat (first | refine blk_drewN ?_ _ | refine blk_drew ?_ | refine blk_alloc ?_ _)); exact BK363.out⟩, ⟨by repeat (first | (with_reducible first | exact HB.out | apply below_alloc | apply pw_below_drewN | apply below_drew1 | refine below_set ?_ GE357.out | refine below_set ?_ GE363.out) | exact HB.out)⟩⟩
    case rest =>
      clear HC8
      try clear c1
      try clear c2
      try clear p2
      try clear c5
      try clear c6
      try clear c7
      try clear c8
      try clear c14
      try clear c15
      try clear c18
      try clear c18b0
      try clear c18b1
      try clear c18b2
      try clear c19
      try clear c20
      try clear c21
      try clear c21b0
      try clear c24
      try clear c29
      try clear hcz11_0
      try clear hcz11_1
      try clear hcz11_2
      try clear hcz11_3
      try clear hcz15_0
      try clear hcz15_1
      try clear hcz15_2
      try clear hcz15_3
      try clear hcz25_0
      try clear hcz25_1
      try clear hcz25_2
      try clear hcz25_3
      try clear hcz26_0
      try clear hcz26_1
      try clear hcz26_2
      try clear hcz26_3
      try clear hcz30_0
      try clear hcz30_1
      try clear hcz30_2
      try clear hcz30_3
      try clear hcz31_0
      try clear hcz31_1
      try clear hcz31_2
      try clear hcz31_3
      try clear hfz11_0
      try clear hfz11_1
      try clear hfz11_2
      try clear hfz11_3
      try clear hfz15_0
      try clear hfz15_1
      try clear hfz15_2
      try clear hfz15_3
      try clear hfz25_0
      try clear hfz25_1
      try clear hfz25_2
      try clear hfz25_3
      try clear hfz26_0
      try clear hfz26_1
      try clear hfz26_2
      try clear hfz26_3
      try clear hfz30_0
      try clear hfz30_1
      try clear hfz30_2
      try clear hfz30_3
      try clear hfz31_0
      try clear hfz31_1
      try clear hfz31_2
      try clear hfz31_3
      obtain ⟨kq, x41_7, rfl, HA, HJ7, BK357, BK363, HB⟩ := hcut
      cases kq with
      | zero => exact absurd HA.out (by simp [trucelaw16_AcctTells.j0])
      | succ kj7 =>
        have H := HA.out
        clear HA
        simp only [trucelaw16_AcctTells.j0] at H
        by_cases c32 : x41_7 = true
        · subst c32
          have H1 : (some false) = some r := by rw [if_pos rfl] at H; exact H
          clear H
          have H := H1
          clear H1
          exact absurd (hr_.out.symm.trans (Option.some.inj H).symm) (by simp)
        · replace c32 := Bool.eq_false_iff.mpr c32
          subst c32
          have H1 : ((truceref16_Fit.f kj7 l0).bind fun t366 => (if t366 = true then ((acct_Get.f l0 a1 a2).bind fun bt367 => ((truceref16_Get.f kj7 l0 a1 a2).bind fun bt371 => (if (bt367.1 == bt371.1 && (bt367.2.1 == bt371.2.1 && (bt367.2.2.1 == bt371.2.2.1 && (bt367.2.2.2 == bt371.2.2.2)))) = true then ((trucelaw16_awake.f kj7).bind fun t375 => (some t375)) else (some false)))) else ((trucelaw16_awake.f kj7).bind fun t376 => (some t376)))) = some r := by rw [if_neg (show ¬ (false = true) by decide)] at H; exact H
          clear H
          have H := H1
          clear H1
          replace H := Option.bind_eq_some_iff.mp H
          obtain ⟨t366, A330, H⟩ := H
          replace H : (if t366 = true then ((acct_Get.f l0 a1 a2).bind fun bt367 => ((truceref16_Get.f kj7 l0 a1 a2).bind fun bt371 => (if (bt367.1 == bt371.1 && (bt367.2.1 == bt371.2.1 && (bt367.2.2.1 == bt371.2.2.1 && (bt367.2.2.2 == bt371.2.2.2)))) = true then ((trucelaw16_awake.f kj7).bind fun t375 => (some t375)) else (some false)))) else ((trucelaw16_awake.f kj7).bind fun t376 => (some t376))) = some r := H
          have A33 := Aside0.mk A330
          clear A330
          by_cases c34 : t366 = true
          · subst c34
            have H1 : ((acct_Get.f l0 a1 a2).bind fun bt367 => ((truceref16_Get.f kj7 l0 a1 a2).bind fun bt371 => (if (bt367.1 == bt371.1 && (bt367.2.1 == bt371.2.1 && (bt367.2.2.1 == bt371.2.2.1 && (bt367.2.2.2 == bt371.2.2.2)))) = true then ((trucelaw16_awake.f kj7).bind fun t375 => (some t375)) else (some false)))) = some r := by rw [if_pos rfl] at H; exact H
            clear H
            have H := H1
            clear H1
            replace H := Option.bind_eq_some_iff.mp H
            obtain ⟨⟨t367, t368, t369, t370⟩, A350, H⟩ := H
            replace H : ((truceref16_Get.f kj7 l0 a1 a2).bind fun bt371 => (if (t367 == bt371.1 && (t368 == bt371.2.1 && (t369 == bt371.2.2.1 && (t370 == bt371.2.2.2)))) = true then ((trucelaw16_awake.f kj7).bind fun t375 => (some t375)) else (some false))) = some r := H
            have A35 := Aside0.mk A350
            clear A350
            replace H := Option.bind_eq_some_iff.mp H
            obtain ⟨⟨t371, t372, t373, t374⟩, A360, H⟩ := H
            replace H : (if (t367 == t371 && (t368 == t372 && (t369 == t373 && (t370 == t374)))) = true then ((trucelaw16_awake.f kj7).bind fun t375 => (some t375)) else (some false)) = some r := H
            have A36 := Aside0.mk A360
            clear A360
            by_cases c37 : (t367 == t371 && (t368 == t372 && (t369 == t373 && (t370 == t374)))) = true
            · rw [if_pos c37] at H
              have c37b0 : (t367 == t371 && (t368 == t372 && (t369 == t373 && (t370 == t374)))) = true := c37
              (try (have c37b1 : decide (t367 = t371 && (t368 == t372 && (t369 == t373 && (t370 == t374)))) = true := by simpa using c37))
              (try (have c37b2 : (t367 == t371 && (t368 == t372 && (t369 == t373 && (t370 == t374)))) = true := by simpa using c37))
              clear c37
              replace H := Option.bind_eq_some_iff.mp H
              obtain ⟨t375, A380, H⟩ := H
              replace H : (some t375) = some r := H
              have A38 := Aside0.mk A380
              clear A380
              obtain rfl := Option.some.inj H
              go_wp2_with (first | ((with_reducible refine gate_callee (f := 8) rfl ?_); refine goesL_ (some 43) rfl rfl Try.func8 (by kernel_rfl) rfl #[.slice A0 l0.length c0] rfl (by (try simp only [List.map_toArray, List.map_cons, List.map_nil]); first | done | rfl | (simp only [List.length_drop, List.length_take]; rfl)) ?_; (with_reducible refine (truceref16_Fit.calls kj7 _ _ l0 true _ ?side1 ?side2 A33.out).mono ?_); (case side1 => repeat (first | exact (Kd.C_below HR0.out HB.out) | (with_reducible refine Kd.C_alloc ?_ _) | (with_reducible refine Kd.C_drewN ?_ _) | (with_reducible refine Kd.C_drew ?_))); (case side2 => exact HC0.out); rintro e w39 ⟨rfl, hb⟩; refine ⟨_, rfl, ?_⟩; have n0_ := Aside0.mk (blk_below (g := gb357) (o := .cells #[.int .u64 t352, .int .u64 t353, .int .u64 t354, .int .u64 t355] 25 (0, 0)) (by (with_reducible repeat (first | refine blk_drewN ?_ _ | refine blk_drew ?_ | refine blk_alloc ?_ _)); exact BK357.out) hb); have n1_ := Aside0.mk (blk_below (g := gb363) (o := .cells #[.int .u64 t358, .int .u64 t359, .int .u64 t360, .int .u64 t361] 25 (0, 0)) (by (with_reducible repeat (first | refine blk_drewN ?_ _ | refine blk_drew ?_ | refine blk_alloc ?_ _)); exact BK363.out) hb); have n2_ := Aside0.mk (below_step (by repeat (first | (with_reducible first | exact HB.out | apply below_alloc | apply pw_below_drewN | apply below_drew1 | refine below_set ?_ GE357.out | refine below_set ?_ GE363.out) | exact HB.out)) hb); clear BK357; clear BK363; clear HB; have BK357 := n0_; have BK363 := n1_; have HB := n2_; clear n0_ n1_ n2_; (try clear hb); (try clear hb2); (try clear hk); (try clear hi)) | (go_at_call 21; (with_reducible refine (acct_Get.calls _ _ l0 a1 a2 t367 t368 t369 t370 _ ?side1 ?side2 A35.out).mono ?_); (case side1 => repeat (first | exact (Kd.C_below HR0.out HB.out) | (with_reducible refine Kd.C_alloc ?_ _) | (with_reducible refine Kd.C_drewN ?_ _) | (with_reducible refine Kd.C_drew ?_))); (case side2 => exact HC0.out); rintro e w40 ⟨rfl, hb⟩; have n0_ := Aside0.mk (blk_below (g := gb357) (o := .cells #[.int .u64 t352, .int .u64 t353, .int .u64 t354, .int .u64 t355] 25 (0, 0)) (by (with_reducible repeat (first | refine blk_drewN ?_ _ | refine blk_drew ?_ | refine blk_alloc ?_ _)); exact BK357.out) hb); have n1_ := Aside0.mk (blk_below (g := gb363) (o := .cells #[.int .u64 t358, .int .u64 t359, .int .u64 t360, .int .u64 t361] 25 (0, 0)) (by (with_reducible repeat (first | refine blk_drewN ?_ _ | refine blk_drew ?_ | refine blk_alloc ?_ _)); exact BK363.out) hb); have n2_ := Aside0.mk (below_step (by repeat (first | (with_reducible first | exact HB.out | apply below_alloc | apply pw_below_drewN | apply below_drew1 | refine below_set ?_ GE357.out | refine below_set ?_ GE363.out) | exact HB.out)) hb); clear BK357; clear BK363; clear HB; have BK357 := n0_; have BK363 := n1_; have HB := n2_; clear n0_ n1_ n2_; (try clear hb); (try clear hb2); (try clear hk); (try clear hi)) | (go_at_call 17; (with_reducible refine (truceref16_Get.calls kj7 _ _ l0 a1 a2 t371 t372 t373 t374 _ ?side1 ?side2 A36.out).mono ?_); (case side1 => repeat (first | exact (Kd.C_below HR0.out HB.out) | (with_reducible refine Kd.C_alloc ?_ _) | (with_reducible refine Kd.C_drewN ?_ _) | (with_reducible refine Kd.C_drew ?_))); (case side2 => exact HC0.out); rintro e w41 ⟨rfl, hb⟩; have n0_ := Aside0.mk (blk_below (g := gb357) (o := .cells #[.int .u64 t352, .int .u64 t353, .int .u64 t354, .int .u64 t355] 25 (0, 0)) (by (with_reducible repeat (first | refine blk_drewN ?_ _ | refine blk_drew ?_ | refine blk_alloc ?_ _)); exact BK357.out) hb); have n1_ := Aside0.mk (blk_below (g := gb363) (o := .cells #[.int .u64 t358, .int .u64 t359, .int .u64 t360, .int .u64 t361] 25 (0, 0)) (by (with_reducible repeat (first | refine blk_drewN ?_ _ | refine blk_drew ?_ | refine blk_alloc ?_ _)); exact BK363.out) hb); have n2_ := Aside0.mk (below_step (by repeat (first | (with_reducible first | exact HB.out | apply below_alloc | apply pw_below_drewN | apply below_drew1 | refine below_set ?_ GE357.out | refine below_set ?_ GE363.out) | exact HB.out)) hb); clear BK357; clear BK363; clear HB; have BK357 := n0_; have BK363 := n1_; have HB := n2_; clear n0_ n1_ n2_; (try clear hb); (try clear hb2); (try clear hk); (try clear hi)) | (go_at_call 9; (with_reducible refine (trucelaw16_awake.calls kj7  t375 _ A38.out).mono ?_); rintro e w42 ⟨rfl, hb⟩; have n0_ := Aside0.mk (blk_below (g := gb357) (o := .cells #[.int .u64 t352, .int .u64 t353, .int .u64 t354, .int .u64 t355] 25 (0, 0)) (by (with_reducible repeat (first | refine blk_drewN ?_ _ | refine blk_drew ?_ | refine blk_alloc ?_ _)); exact BK357.out) hb); have n1_ := Aside0.mk (blk_below (g := gb363) (o := .cells #[.int .u64 t358, .int .u64 t359, .int .u64 t360, .int .u64 t361] 25 (0, 0)) (by (with_reducible repeat (first | refine blk_drewN ?_ _ | refine blk_drew ?_ | refine blk_alloc ?_ _)); exact BK363.out) hb); have n2_ := Aside0.mk (below_step (by repeat (first | (with_reducible first | exact HB.out | apply below_alloc | apply pw_below_drewN | apply below_drew1 | refine below_set ?_ GE357.out | refine below_set ?_ GE363.out) | exact HB.out)) hb); clear BK357; clear BK363; clear HB; have BK357 := n0_; have BK363 := n1_; have HB := n2_; clear n0_ n1_ n2_; (try clear hb); (try clear hb2); (try clear hk); (try clear hi)))
              go_ret
              exact ⟨by first | rfl | (simp [errW_none, errW_some] <;> rfl) | (simp [*, errW_none, errW_some] <;> rfl), by repeat (first | (with_reducible first | exact HB.out | apply below_alloc | apply pw_below_drewN | apply below_drew1 | refine below_set ?_ GE357.out | refine below_set ?_ GE363.out) | exact HB.out)⟩
            · rw [if_neg c37] at H
              have c37b0 : (t367 == t371 && (t368 == t372 && (t369 == t373 && (t370 == t374)))) = false := by simpa using c37
              (try (have c37b1 : decide (t367 = t371 && (t368 == t372 && (t369 == t373 && (t370 == t374)))) = false := by simpa using c37))
              (try (have c37b2 : (t367 == t371 && (t368 == t372 && (t369 == t373 && (t370 == t374)))) = false := by simpa using c37))
              (try (have c37b3 : ¬ (t367 = t371 && (t368 == t372 && (t369 == t373 && (t370 == t374)))) := by simpa using c37))
              clear c37
              exact absurd (hr_.out.symm.trans (Option.some.inj H).symm) (by simp)
          · replace c34 := Bool.eq_false_iff.mpr c34
            subst c34
            have H1 : ((trucelaw16_awake.f kj7).bind fun t376 => (some t376)) = some r := by rw [if_neg (show ¬ (false = true) by decide)] at H; exact H
            clear H
            have H := H1
            clear H1
            replace H := Option.bind_eq_some_iff.mp H
            obtain ⟨t376, A430, H⟩ := H
            replace H : (some t376) = some r := H
            have A43 := Aside0.mk A430
            clear A430
            obtain rfl := Option.some.inj H
            go_wp2_with (first | ((with_reducible refine gate_callee (f := 8) rfl ?_); refine goesL_ (some 43) rfl rfl Try.func8 (by kernel_rfl) rfl #[.slice A0 l0.length c0] rfl (by (try simp only [List.map_toArray, List.map_cons, List.map_nil]); first | done | rfl | (simp only [List.length_drop, List.length_take]; rfl)) ?_; (with_reducible refine (truceref16_Fit.calls kj7 _ _ l0 false _ ?side1 ?side2 A33.out).mono ?_); (case side1 => repeat (first | exact (Kd.C_below HR0.out HB.out) | (with_reducible refine Kd.C_alloc ?_ _) | (with_reducible refine Kd.C_drewN ?_ _) | (with_reducible refine Kd.C_drew ?_))); (case side2 => exact HC0.out); rintro e w44 ⟨rfl, hb⟩; refine ⟨_, rfl, ?_⟩; have n0_ := Aside0.mk (blk_below (g := gb357) (o := .cells #[.int .u64 t352, .int .u64 t353, .int .u64 t354, .int .u64 t355] 25 (0, 0)) (by (with_reducible repeat (first | refine blk_drewN ?_ _ | refine blk_drew ?_ | refine blk_alloc ?_ _)); exact BK357.out) hb); have n1_ := Aside0.mk (blk_below (g := gb363) (o := .cells #[.int .u64 t358, .int .u64 t359, .int .u64 t360, .int .u64 t361] 25 (0, 0)) (by (with_reducible repeat (first | refine blk_drewN ?_ _ | refine blk_drew ?_ | refine blk_alloc ?_ _)); exact BK363.out) hb); have n2_ := Aside0.mk (below_step (by repeat (first | (with_reducible first | exact HB.out | apply below_alloc | apply pw_below_drewN | apply below_drew1 | refine below_set ?_ GE357.out | refine below_set ?_ GE363.out) | exact HB.out)) hb); clear BK357; clear BK363; clear HB; have BK357 := n0_; have BK363 := n1_; have HB := n2_; clear n0_ n1_ n2_; (try clear hb); (try clear hb2); (try clear hk); (try clear hi)) | (go_at_call 9; (with_reducible refine (trucelaw16_awake.calls kj7  t376 _ A43.out).mono ?_); rintro e w45 ⟨rfl, hb⟩; have n0_ := Aside0.mk (blk_below (g := gb357) (o := .cells #[.int .u64 t352, .int .u64 t353, .int .u64 t354, .int .u64 t355] 25 (0, 0)) (by (with_reducible repeat (first | refine blk_drewN ?_ _ | refine blk_drew ?_ | refine blk_alloc ?_ _)); exact BK357.out) hb); have n1_ := Aside0.mk (blk_below (g := gb363) (o := .cells #[.int .u64 t358, .int .u64 t359, .int .u64 t360, .int .u64 t361] 25 (0, 0)) (by (with_reducible repeat (first | refine blk_drewN ?_ _ | refine blk_drew ?_ | refine blk_alloc ?_ _)); exact BK363.out) hb); have n2_ := Aside0.mk (below_step (by repeat (first | (with_reducible first | exact HB.out | apply below_alloc | apply pw_below_drewN | apply below_drew1 | refine below_set ?_ GE357.out | refine below_set ?_ GE363.out) | exact HB.out)) hb); clear BK357; clear BK363; clear HB; have BK357 := n0_; have BK363 := n1_; have HB := n2_; clear n0_ n1_ n2_; (try clear hb); (try clear hb2); (try clear hk); (try clear hi)))
            go_ret
            exact ⟨by first | rfl | (simp [errW_none, errW_some] <;> rfl) | (simp [*, errW_none, errW_some] <;> rfl), by repeat (first | (with_reducible first | exact HB.out | apply below_alloc | apply pw_below_drewN | apply below_drew1 | refine below_set ?_ GE357.out | refine below_set ?_ GE363.out) | exact HB.out)⟩
  · replace c5 := Bool.eq_false_iff.mpr c5
    subst c5
    have H1 : ((trucelaw16_awake.f k).bind fun t351 => (some t351)) = some r := by rw [if_neg (show ¬ (false = true) by decide)] at H; exact H
    clear H
    have H := H1
    clear H1
    replace H := Option.bind_eq_some_iff.mp H
    obtain ⟨t351, A460, H⟩ := H
    replace H : (some t351) = some r := H
    have A46 := Aside0.mk A460
    clear A460
    obtain rfl := Option.some.inj H
    go_enter Try.func6, Try.ntmps6
    go_wp2_with (first | ((with_reducible refine gate_callee (f := 7) rfl ?_); refine goesL_ (some 12) rfl rfl Try.func7 (by kernel_rfl) rfl #[.slice A0 l0.length c0] rfl (by (try simp only [List.map_toArray, List.map_cons, List.map_nil]); first | done | rfl | (simp only [List.length_drop, List.length_take]; rfl)) ?_; (with_reducible refine (trucelaw16_few.calls _ _ l0 false _ ?side1 ?side2 A4.out).mono ?_); (case side1 => repeat (first | exact HR0.out | (with_reducible refine Kd.C_alloc ?_ _) | (with_reducible refine Kd.C_drewN ?_ _) | (with_reducible refine Kd.C_drew ?_))); (case side2 => exact HC0.out); rintro e w' ⟨rfl, ⟨nd, rfl⟩⟩; refine ⟨_, rfl, ?_⟩) | ((with_reducible refine gate_callee (f := 9) rfl ?_); refine goesL_ (some 14) rfl rfl Try.func9 (by kernel_rfl) rfl #[] rfl (by (try simp only [List.map_toArray, List.map_cons, List.map_nil]); first | done | rfl | (simp only [List.length_drop, List.length_take]; rfl)) ?_; (with_reducible refine (trucelaw16_awake.calls k  t351 _ A46.out).mono ?_); rintro e w47 ⟨rfl, hb⟩; refine ⟨_, rfl, ?_⟩; have n0_ := Aside0.mk (below_step (by repeat (first | (with_reducible first | exact HB.out | apply below_alloc | apply pw_below_drewN | apply below_drew1) | exact HB.out)) hb); clear HB; have HB := n0_; clear n0_; (try clear hb); (try clear hb2); (try clear hk); (try clear hi)))
    go_ret
    exact ⟨by first | rfl | (simp [errW_none, errW_some] <;> rfl) | (simp [*, errW_none, errW_some] <;> rfl), by repeat (first | (with_reducible first | exact HB.out | apply below_alloc | apply pw_below_drewN | apply below_drew1) | exact HB.out)⟩

end Go.Proofs.Ytnedmaddjikmkaa.P
