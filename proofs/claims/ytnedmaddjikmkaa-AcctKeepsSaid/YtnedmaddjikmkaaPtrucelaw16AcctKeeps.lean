import Derived.Test.YtnedmaddjikmkaaDtrucelaw16AcctKeeps
/- A function of the program as a Lean function, and the proof that the code comes to its answers; written by a program of this session. -/
namespace Go.Proofs.Ytnedmaddjikmkaa.P
open Go.RowKit Go.Proofs.YtnedmaddjikmkaaW.PrintWords Go.Proofs.YtnedmaddjikmkaaW.PrintLast Go.Proofs.YtnedmaddjikmkaaW.PrintMore
attribute [local go_sem] max2_int min2_int max_two min_two max_three min_three max_four min_four   -- for this text's walks alone
set_option linter.unusedVariables false
set_option linter.unusedSimpArgs false

attribute [local go_sem high] eqA25
set_option maxHeartbeats 8000000 in
set_option maxRecDepth 100000 in
theorem trucelaw16_AcctKeeps.callsT (k : Nat) (A0 : Option Addr) (c0 : Nat) (l0 : List (S39)) (a1 : ByteArray) (a2 : ByteArray) (a3_0 : Int) (a3_1 : Int) (a3_2 : Int) (a3_3 : Int) (r : Bool) (w : World) (hr0 : Kd.C k39 w A0 l0.length l0) (hc0 : l0.length ≤ c0) (hr_ : Aside0 (r = true)) (h : trucelaw16_AcctKeeps.f k l0 a1 a2 a3_0 a3_1 a3_2 a3_3 = some r) :
  Calls Try.prog 4 #[.slice A0 l0.length c0, .string a1, .string a2, .agg #[.int .u64 a3_0, .int .u64 a3_1, .int .u64 a3_2, .int .u64 a3_3]] w fun e w' => e = .returned (.bool r) ∧ Below w.heap.size w w' := by
 have hu25 := Try.underlying25
 have hu39 := Try.underlying39
 have HR0 := Aside0.mk hr0
 have HC0 := Aside0.mk hc0
 clear hr0 hc0
 have HB := Aside0.mk (Below.refl w.heap.size w)
 have H : ((trucelaw16_few.f l0).bind fun t289 => (if t289 = true then ((truceref16_Fit.f k l0).bind fun t290 => (trucelaw16_AcctKeeps.j0 k l0 a1 a2 (!t290) a3_0 a3_1 a3_2 a3_3)) else (trucelaw16_AcctKeeps.j0 k l0 a1 a2 true a3_0 a3_1 a3_2 a3_3))) = some r := h
 clear h
 have HC5 := Aside0.mk H
 clear H
 go_enter Try.func4, Try.ntmps4
 go_upto_region 1 with (first | ((with_reducible refine gate_dst (N := 7) rfl ?_); refine box_event ?hg (N := 7) ?hd (cs := #[.int .u64 a3_0, .int .u64 a3_1, .int .u64 a3_2, .int .u64 a3_3]) (t := 25) ?hr ?_; (case hd => rfl); (case hg => rfl); (case hr => first | (go_simp; done) | (go_simp; rfl)); intro gb288 hg w6 hbox hb; have n0_ := Aside0.mk (below_step (by repeat (first | (with_reducible first | exact HB.out | apply below_alloc | apply pw_below_drewN | apply below_drew1) | exact HB.out)) hb); have n1_ := Aside0.mk (hbox); have n2_ := Aside0.mk ((by rw [hg]; exact (below_size (by repeat (first | (with_reducible first | exact HB.out | apply below_alloc | apply pw_below_drewN | apply below_drew1) | exact HB.out))) : w.heap.size ≤ gb288)); have n3_ := Aside0.mk ((by rw [hg]; exact (below_size (by repeat (first | (with_reducible first | exact HB.out | apply below_alloc | apply pw_below_drewN | apply below_drew1) | exact HB.out))) : w.heap.size ≤ gb288)); clear HB; have HB := n0_; have BK288 := n1_; have GW288 := n2_; have GE288 := n3_; clear n0_ n1_ n2_ n3_; clear hb hbox hg))
 (try simp only [Act.put, List.setIfInBounds_toArray, List.set_cons_zero, List.set_cons_succ])
 go_cut [34] (fun v34 wc => ∃ (kq : Nat) (x34_4 : Bool), v34 = .bool x34_4 ∧ Aside0 (trucelaw16_AcctKeeps.j0 kq l0 a1 a2 x34_4 a3_0 a3_1 a3_2 a3_3 = some r) ∧ Aside0 (kq ≤ k) ∧ Aside0 (wc.heap[gb288]? = some (.cells #[.int .u64 a3_0, .int .u64 a3_1, .int .u64 a3_2, .int .u64 a3_3] 25 (0, 0))) ∧ Aside0 (Below w.heap.size w wc))
 case first =>
  have H := HC5.out
  clear HC5
  replace H := Option.bind_eq_some_iff.mp H
  obtain ⟨t289, A70, H⟩ := H
  replace H : (if t289 = true then ((truceref16_Fit.f k l0).bind fun t290 => (trucelaw16_AcctKeeps.j0 k l0 a1 a2 (!t290) a3_0 a3_1 a3_2 a3_3)) else (trucelaw16_AcctKeeps.j0 k l0 a1 a2 true a3_0 a3_1 a3_2 a3_3)) = some r := H
  have A7 := Aside0.mk A70
  clear A70
  by_cases c8 : t289 = true
  ·subst c8
   have H1 : ((truceref16_Fit.f k l0).bind fun t290 => (trucelaw16_AcctKeeps.j0 k l0 a1 a2 (!t290) a3_0 a3_1 a3_2 a3_3)) = some r := by rw [if_pos rfl] at H; exact H
   clear H
   have H := H1
   clear H1
   replace H := Option.bind_eq_some_iff.mp H
   obtain ⟨t290, A90, H⟩ := H
   replace H : (trucelaw16_AcctKeeps.j0 k l0 a1 a2 (!t290) a3_0 a3_1 a3_2 a3_3) = some r := H
   have A9 := Aside0.mk A90
   clear A90
   have H' := Aside0.mk H
   clear H
   go_wp2_with (first | ((with_reducible refine gate_callee (f := 7) rfl ?_); refine goesL_ (some 28) rfl rfl Try.func7 (by kernel_rfl) rfl #[.slice A0 l0.length c0] rfl (by (try simp only [List.map_toArray, List.map_cons, List.map_nil]); first | done | rfl | (simp only [List.length_drop, List.length_take]; rfl)) ?_; (with_reducible refine (trucelaw16_few.calls _ _ l0 true _ ?side1 ?side2 A7.out).mono ?_); (case side1 => repeat (first | exact (Kd.C_below HR0.out HB.out) | (with_reducible refine Kd.C_alloc ?_ _) | (with_reducible refine Kd.C_drewN ?_ _) | (with_reducible refine Kd.C_drew ?_))); (case side2 => exact HC0.out); rintro e w' ⟨rfl, ⟨nd, rfl⟩⟩; refine ⟨_, rfl, ?_⟩) | (go_at_call 8; (with_reducible refine (truceref16_Fit.calls k _ _ l0 t290 _ ?side1 ?side2 A9.out).mono ?_); (case side1 => repeat (first | exact (Kd.C_below HR0.out (by repeat (first | (with_reducible first | exact HB.out | apply below_alloc | apply pw_below_drewN | apply below_drew1 | refine below_set ?_ GE288.out) | exact HB.out))) | (with_reducible refine Kd.C_alloc ?_ _) | (with_reducible refine Kd.C_drewN ?_ _) | (with_reducible refine Kd.C_drew ?_))); (case side2 => exact HC0.out); rintro e w10 ⟨rfl, hb⟩; have n0_ := Aside0.mk (blk_below (g := gb288) (o := .cells #[.int .u64 a3_0, .int .u64 a3_1, .int .u64 a3_2, .int .u64 a3_3] 25 (0, 0)) (by (with_reducible repeat (first | apply elN | apply elD | apply elA)); exact BK288.out) hb); have n1_ := Aside0.mk (below_step (by repeat (first | (with_reducible first | exact HB.out | apply below_alloc | apply pw_below_drewN | apply below_drew1 | refine below_set ?_ GE288.out) | exact HB.out)) hb); clear BK288; clear HB; have BK288 := n0_; have HB := n1_; clear n0_ n1_; (try clear hb); (try clear hb2); (try clear hk); (try clear hi)))
   go_meet
   case rel => exact ⟨_, (!t290), (by first | rfl | (simp; done) | (simp [*]; done)), H', ⟨by first | omega | exact Nat.le_refl _⟩, ⟨by (with_reducible repeat (first | apply elN | apply elD | apply elA)); exact BK288.out⟩, ⟨by repeat (first | (with_reducible first | exact HB.out | apply below_alloc | apply pw_below_drewN | apply below_drew1 | refine below_set ?_ GE288.out) | exact HB.out)⟩⟩
  ·replace c8 := Bool.eq_false_iff.mpr c8
   subst c8
   have H1 : (trucelaw16_AcctKeeps.j0 k l0 a1 a2 true a3_0 a3_1 a3_2 a3_3) = some r := by rw [if_neg (show ¬ (false = true) by decide)] at H; exact H
   clear H
   have H := H1
   clear H1
   have H' := Aside0.mk H
   clear H
   go_wp2_with (first | ((with_reducible refine gate_callee (f := 7) rfl ?_); refine goesL_ (some 28) rfl rfl Try.func7 (by kernel_rfl) rfl #[.slice A0 l0.length c0] rfl (by (try simp only [List.map_toArray, List.map_cons, List.map_nil]); first | done | rfl | (simp only [List.length_drop, List.length_take]; rfl)) ?_; (with_reducible refine (trucelaw16_few.calls _ _ l0 false _ ?side1 ?side2 A7.out).mono ?_); (case side1 => repeat (first | exact (Kd.C_below HR0.out HB.out) | (with_reducible refine Kd.C_alloc ?_ _) | (with_reducible refine Kd.C_drewN ?_ _) | (with_reducible refine Kd.C_drew ?_))); (case side2 => exact HC0.out); rintro e w' ⟨rfl, ⟨nd, rfl⟩⟩; refine ⟨_, rfl, ?_⟩))
   go_meet
   case rel => exact ⟨_, (true), (by first | rfl | (simp; done) | (simp [*]; done)), H', ⟨by first | omega | exact Nat.le_refl _⟩, ⟨by (with_reducible repeat (first | apply elN | apply elD | apply elA)); exact BK288.out⟩, ⟨by repeat (first | (with_reducible first | exact HB.out | apply below_alloc | apply pw_below_drewN | apply below_drew1 | refine below_set ?_ GE288.out) | exact HB.out)⟩⟩
 case rest =>
  clear HC5
  try clear p2
  try clear c4
  try clear c7
  try clear c8
  obtain ⟨kq, x34_4, rfl, HA, HJ4, BK288, HB⟩ := hcut
  cases kq with
  | zero => exact absurd HA.out (by simp [trucelaw16_AcctKeeps.j0])
  | succ kj4 =>
   have H := HA.out
   clear HA
   simp only [trucelaw16_AcctKeeps.j0] at H
   by_cases c11 : x34_4 = true
   ·subst c11
    have H1 : ((trucelaw16_awake.f kj4).bind fun t291 => (some t291)) = some r := by rw [if_pos rfl] at H; exact H
    clear H
    have H := H1
    clear H1
    replace H := Option.bind_eq_some_iff.mp H
    obtain ⟨t291, A120, H⟩ := H
    replace H : (some t291) = some r := H
    have A12 := Aside0.mk A120
    clear A120
    obtain rfl := Option.some.inj H
    go_wp2_with (first | ((with_reducible refine gate_callee (f := 9) rfl ?_); refine goesL_ (some 35) rfl rfl Try.func9 (by kernel_rfl) rfl #[] rfl (by (try simp only [List.map_toArray, List.map_cons, List.map_nil]); first | done | rfl | (simp only [List.length_drop, List.length_take]; rfl)) ?_; (with_reducible refine (trucelaw16_awake.calls kj4  t291 _ A12.out).mono ?_); rintro e w13 ⟨rfl, hb⟩; refine ⟨_, rfl, ?_⟩; have n0_ := Aside0.mk (blk_below (g := gb288) (o := .cells #[.int .u64 a3_0, .int .u64 a3_1, .int .u64 a3_2, .int .u64 a3_3] 25 (0, 0)) (by (with_reducible repeat (first | apply elN | apply elD | apply elA)); exact BK288.out) hb); have n1_ := Aside0.mk (below_step (by repeat (first | (with_reducible first | exact HB.out | apply below_alloc | apply pw_below_drewN | apply below_drew1 | refine below_set ?_ GE288.out) | exact HB.out)) hb); clear BK288; clear HB; have BK288 := n0_; have HB := n1_; clear n0_ n1_; (try clear hb); (try clear hb2); (try clear hk); (try clear hi)))
    go_ret
    exact ⟨by first | rfl | (simp [errW_none, errW_some] <;> rfl) | (simp [*, errW_none, errW_some] <;> rfl), by repeat (first | (with_reducible first | exact HB.out | apply below_alloc | apply pw_below_drewN | apply below_drew1 | refine below_set ?_ GE288.out) | exact HB.out)⟩
   ·replace c11 := Bool.eq_false_iff.mpr c11
    subst c11
    have H1 : ((truceref16_Sum.f kj4 l0 a2).bind fun bt292 => ((acct_Give.f l0 a1 a2 a3_0 a3_1 a3_2 a3_3).bind fun bt298 => (if bt298.2 = 0 then ((truceref16_Sum.f kj4 bt298.1 a2).bind fun bt302 => ((truceref01_Add.f bt292.1 bt292.2.1 bt292.2.2.1 bt292.2.2.2.1 a3_0 a3_1 a3_2 a3_3).bind fun bt308 => ((acct_Take.f bt298.1 a1 a2 a3_0 a3_1 a3_2 a3_3).bind fun bt314 => ((truceref16_Fit.f kj4 bt298.1).bind fun t318 => (if t318 = true then (if bt302.2.2.2.2 = true then (if bt308.2.2.2.2 = true then (trucelaw16_AcctKeeps.j1 kj4 l0 a1 a2 bt298.1 true a3_0 a3_1 a3_2 a3_3 bt292.1 bt292.2.1 bt292.2.2.1 bt292.2.2.2.1) else (if (!(bt302.1 == bt308.1) || (!(bt302.2.1 == bt308.2.1) || (!(bt302.2.2.1 == bt308.2.2.1) || (!(bt302.2.2.2.1 == bt308.2.2.2.1))))) = true then (trucelaw16_AcctKeeps.j1 kj4 l0 a1 a2 bt298.1 true a3_0 a3_1 a3_2 a3_3 bt292.1 bt292.2.1 bt292.2.2.1 bt292.2.2.2.1) else (if bt314.2 = 0 then ((truceref16_Same.f kj4 bt314.1 l0).bind fun t319 => (trucelaw16_AcctKeeps.j1 kj4 l0 a1 a2 bt298.1 (!t319) a3_0 a3_1 a3_2 a3_3 bt292.1 bt292.2.1 bt292.2.2.1 bt292.2.2.2.1)) else (trucelaw16_AcctKeeps.j1 kj4 l0 a1 a2 bt298.1 true a3_0 a3_1 a3_2 a3_3 bt292.1 bt292.2.1 bt292.2.2.1 bt292.2.2.2.1)))) else (trucelaw16_AcctKeeps.j1 kj4 l0 a1 a2 bt298.1 true a3_0 a3_1 a3_2 a3_3 bt292.1 bt292.2.1 bt292.2.2.1 bt292.2.2.2.1)) else (trucelaw16_AcctKeeps.j1 kj4 l0 a1 a2 bt298.1 true a3_0 a3_1 a3_2 a3_3 bt292.1 bt292.2.1 bt292.2.2.1 bt292.2.2.2.1)))))) else (trucelaw16_AcctKeeps.j3 kj4 l0 a1 a2 a3_0 a3_1 a3_2 a3_3 bt292.1 bt292.2.1 bt292.2.2.1 bt292.2.2.2.1)))) = some r := by rw [if_neg (show ¬ (false = true) by decide)] at H; exact H
    clear H
    have H := H1
    clear H1
    replace H := Option.bind_eq_some_iff.mp H
    obtain ⟨⟨t292, t293, t294, t295, t296⟩, A140, H⟩ := H
    replace H : ((acct_Give.f l0 a1 a2 a3_0 a3_1 a3_2 a3_3).bind fun bt298 => (if bt298.2 = 0 then ((truceref16_Sum.f kj4 bt298.1 a2).bind fun bt302 => ((truceref01_Add.f t292 t293 t294 t295 a3_0 a3_1 a3_2 a3_3).bind fun bt308 => ((acct_Take.f bt298.1 a1 a2 a3_0 a3_1 a3_2 a3_3).bind fun bt314 => ((truceref16_Fit.f kj4 bt298.1).bind fun t318 => (if t318 = true then (if bt302.2.2.2.2 = true then (if bt308.2.2.2.2 = true then (trucelaw16_AcctKeeps.j1 kj4 l0 a1 a2 bt298.1 true a3_0 a3_1 a3_2 a3_3 t292 t293 t294 t295) else (if (!(bt302.1 == bt308.1) || (!(bt302.2.1 == bt308.2.1) || (!(bt302.2.2.1 == bt308.2.2.1) || (!(bt302.2.2.2.1 == bt308.2.2.2.1))))) = true then (trucelaw16_AcctKeeps.j1 kj4 l0 a1 a2 bt298.1 true a3_0 a3_1 a3_2 a3_3 t292 t293 t294 t295) else (if bt314.2 = 0 then ((truceref16_Same.f kj4 bt314.1 l0).bind fun t319 => (trucelaw16_AcctKeeps.j1 kj4 l0 a1 a2 bt298.1 (!t319) a3_0 a3_1 a3_2 a3_3 t292 t293 t294 t295)) else (trucelaw16_AcctKeeps.j1 kj4 l0 a1 a2 bt298.1 true a3_0 a3_1 a3_2 a3_3 t292 t293 t294 t295)))) else (trucelaw16_AcctKeeps.j1 kj4 l0 a1 a2 bt298.1 true a3_0 a3_1 a3_2 a3_3 t292 t293 t294 t295)) else (trucelaw16_AcctKeeps.j1 kj4 l0 a1 a2 bt298.1 true a3_0 a3_1 a3_2 a3_3 t292 t293 t294 t295)))))) else (trucelaw16_AcctKeeps.j3 kj4 l0 a1 a2 a3_0 a3_1 a3_2 a3_3 t292 t293 t294 t295))) = some r := H
    have A14 := Aside0.mk A140
    clear A140
    replace H := Option.bind_eq_some_iff.mp H
    obtain ⟨⟨t298, t301⟩, A150, H⟩ := H
    replace H : (if t301 = 0 then ((truceref16_Sum.f kj4 t298 a2).bind fun bt302 => ((truceref01_Add.f t292 t293 t294 t295 a3_0 a3_1 a3_2 a3_3).bind fun bt308 => ((acct_Take.f t298 a1 a2 a3_0 a3_1 a3_2 a3_3).bind fun bt314 => ((truceref16_Fit.f kj4 t298).bind fun t318 => (if t318 = true then (if bt302.2.2.2.2 = true then (if bt308.2.2.2.2 = true then (trucelaw16_AcctKeeps.j1 kj4 l0 a1 a2 t298 true a3_0 a3_1 a3_2 a3_3 t292 t293 t294 t295) else (if (!(bt302.1 == bt308.1) || (!(bt302.2.1 == bt308.2.1) || (!(bt302.2.2.1 == bt308.2.2.1) || (!(bt302.2.2.2.1 == bt308.2.2.2.1))))) = true then (trucelaw16_AcctKeeps.j1 kj4 l0 a1 a2 t298 true a3_0 a3_1 a3_2 a3_3 t292 t293 t294 t295) else (if bt314.2 = 0 then ((truceref16_Same.f kj4 bt314.1 l0).bind fun t319 => (trucelaw16_AcctKeeps.j1 kj4 l0 a1 a2 t298 (!t319) a3_0 a3_1 a3_2 a3_3 t292 t293 t294 t295)) else (trucelaw16_AcctKeeps.j1 kj4 l0 a1 a2 t298 true a3_0 a3_1 a3_2 a3_3 t292 t293 t294 t295)))) else (trucelaw16_AcctKeeps.j1 kj4 l0 a1 a2 t298 true a3_0 a3_1 a3_2 a3_3 t292 t293 t294 t295)) else (trucelaw16_AcctKeeps.j1 kj4 l0 a1 a2 t298 true a3_0 a3_1 a3_2 a3_3 t292 t293 t294 t295)))))) else (trucelaw16_AcctKeeps.j3 kj4 l0 a1 a2 a3_0 a3_1 a3_2 a3_3 t292 t293 t294 t295)) = some r := H
    have A15 := Aside0.mk A150
    clear A150
    have HC16 := Aside0.mk H
    clear H
    go_upto_if 51 with (first | ((with_reducible refine gate_callee (f := 15) rfl ?_); refine goesL_ (some 39) rfl rfl Try.func15 (by kernel_rfl) rfl #[.slice A0 l0.length c0, .string a2] rfl (by (try simp only [List.map_toArray, List.map_cons, List.map_nil]); first | done | rfl | (simp only [List.length_drop, List.length_take]; rfl)) ?_; (with_reducible refine (truceref16_Sum.calls kj4 _ _ l0 a2 t292 t293 t294 t295 t296 _ ?side1 ?side2 A14.out).mono ?_); (case side1 => repeat (first | exact (Kd.C_below HR0.out HB.out) | (with_reducible refine Kd.C_alloc ?_ _) | (with_reducible refine Kd.C_drewN ?_ _) | (with_reducible refine Kd.C_drew ?_))); (case side2 => exact HC0.out); rintro e w17 ⟨rfl, hb⟩; refine ⟨_, rfl, ?_⟩; have n0_ := Aside0.mk (blk_below (g := gb288) (o := .cells #[.int .u64 a3_0, .int .u64 a3_1, .int .u64 a3_2, .int .u64 a3_3] 25 (0, 0)) (by (with_reducible repeat (first | apply elN | apply elD | apply elA)); exact BK288.out) hb); have n1_ := Aside0.mk (below_step (by repeat (first | (with_reducible first | exact HB.out | apply below_alloc | apply pw_below_drewN | apply below_drew1 | refine below_set ?_ GE288.out) | exact HB.out)) hb); clear BK288; clear HB; have BK288 := n0_; have HB := n1_; clear n0_ n1_; (try clear hb); (try clear hb2); (try clear hk); (try clear hi)) | ((with_reducible refine gate_dst (N := 9) rfl ?_); refine box_event ?hg (N := 9) ?hd (cs := #[.int .u64 0, .int .u64 0, .int .u64 0, .int .u64 0]) (t := 25) ?hr ?_; (case hd => rfl); (case hg => rfl); (case hr => first | (go_simp; done) | (go_simp; rfl)); intro gb297 hg w18 hbox hb; have n0_ := Aside0.mk (blk_below (g := gb288) (o := .cells #[.int .u64 a3_0, .int .u64 a3_1, .int .u64 a3_2, .int .u64 a3_3] 25 (0, 0)) (by (with_reducible repeat (first | apply elN | apply elD | apply elA)); exact BK288.out) hb); have n1_ := Aside0.mk (below_step (by repeat (first | (with_reducible first | exact HB.out | apply below_alloc | apply pw_below_drewN | apply below_drew1 | refine below_set ?_ GE288.out) | exact HB.out)) hb); have n2_ := Aside0.mk (hbox); have n3_ := Aside0.mk ((by rw [hg]; exact (below_size (by repeat (first | (with_reducible first | exact HB.out | apply below_alloc | apply pw_below_drewN | apply below_drew1 | refine below_set ?_ GE288.out) | exact HB.out))) : w.heap.size ≤ gb297)); have n4_ := Aside0.mk ((by rw [hg]; exact (below_size (by repeat (first | (with_reducible first | exact HB.out | apply below_alloc | apply pw_below_drewN | apply below_drew1 | refine below_set ?_ GE288.out) | exact HB.out))) : w.heap.size ≤ gb297)); have n5_ := Aside0.mk ((by rw [hg]; exact Nat.ne_of_lt (blk_lt (g := gb288) (o := .cells #[.int .u64 a3_0, .int .u64 a3_1, .int .u64 a3_2, .int .u64 a3_3] 25 (0, 0)) (by (with_reducible repeat (first | apply elN | apply elD | apply elA)); exact BK288.out)) : gb288 ≠ gb297)); have n6_ := Aside0.mk ((by rw [hg]; exact Nat.ne_of_gt (blk_lt (g := gb288) (o := .cells #[.int .u64 a3_0, .int .u64 a3_1, .int .u64 a3_2, .int .u64 a3_3] 25 (0, 0)) (by (with_reducible repeat (first | apply elN | apply elD | apply elA)); exact BK288.out)) : gb297 ≠ gb288)); clear BK288; clear HB; have BK288 := n0_; have HB := n1_; have BK297 := n2_; have GW297 := n3_; have GE297 := n4_; have NB288_297 := n5_; have NB297_288 := n6_; clear n0_ n1_ n2_ n3_ n4_ n5_ n6_; clear hb hbox hg; have hnb19 := NB297_288.out; have hnc19 := NB288_297.out; have hcz20_0 : w18.cell? ⟨gb297, 0, none⟩ = some (.int .u64 0) := (blk_cell BK297.out 0).trans rfl; have hcz20_1 : w18.cell? ⟨gb297, 1, none⟩ = some (.int .u64 0) := (blk_cell BK297.out 1).trans rfl; have hcz20_2 : w18.cell? ⟨gb297, 2, none⟩ = some (.int .u64 0) := (blk_cell BK297.out 2).trans rfl; have hcz20_3 : w18.cell? ⟨gb297, 3, none⟩ = some (.int .u64 0) := (blk_cell BK297.out 3).trans rfl; have hfz20_0 := blk_frozen BK297.out 0; have hfz20_1 := blk_frozen BK297.out 1; have hfz20_2 := blk_frozen BK297.out 2; have hfz20_3 := blk_frozen BK297.out 3) | ((with_reducible refine gate_store (t := 25) (p := 9) rfl ?_); refine store_event (t := 25) (p := 9) (v := ?vo_w21) (w1 := ((((w18.setCell ⟨gb297, 0, none⟩ (.int .u64 t292)).setCell ⟨gb297, 1, none⟩ (.int .u64 t293)).setCell ⟨gb297, 2, none⟩ (.int .u64 t294)).setCell ⟨gb297, 3, none⟩ (.int .u64 t295))) ?hg ?ho ?hn ?hr ?_; (case ho => rfl); (case hg => rfl); (case hn => rfl); (case hr => first | (go_simp; done) | (go_simp; rfl)); intro w21 hw; have n0_ : Aside0 (w21.heap[gb288]? = some (.cells #[.int .u64 a3_0, .int .u64 a3_1, .int .u64 a3_2, .int .u64 a3_3] 25 (0, 0))) := ⟨(by rw [hw]; exact (by (with_reducible repeat (first | apply elN | apply elD | apply elA)); refine blk_far ?_ NB288_297.out _; (with_reducible repeat (first | apply elN | apply elD | apply elA)); refine blk_far ?_ NB288_297.out _; (with_reducible repeat (first | apply elN | apply elD | apply elA)); refine blk_far ?_ NB288_297.out _; (with_reducible repeat (first | apply elN | apply elD | apply elA)); refine blk_far ?_ NB288_297.out _; (with_reducible repeat (first | apply elN | apply elD | apply elA)); exact BK288.out))⟩; have n1_ : Aside0 (w21.heap[gb297]? = some (.cells #[.int .u64 t292, .int .u64 t293, .int .u64 t294, .int .u64 t295] 25 (0, 0))) := ⟨(by rw [hw]; exact (by (with_reducible repeat (first | apply elN | apply elD | apply elA)); refine blk_put (cs := #[.int .u64 t292, .int .u64 t293, .int .u64 t294, .int .u64 0]) ?_ 3 _ rfl; (with_reducible repeat (first | apply elN | apply elD | apply elA)); refine blk_put (cs := #[.int .u64 t292, .int .u64 t293, .int .u64 0, .int .u64 0]) ?_ 2 _ rfl; (with_reducible repeat (first | apply elN | apply elD | apply elA)); refine blk_put (cs := #[.int .u64 t292, .int .u64 0, .int .u64 0, .int .u64 0]) ?_ 1 _ rfl; (with_reducible repeat (first | apply elN | apply elD | apply elA)); refine blk_put (cs := #[.int .u64 0, .int .u64 0, .int .u64 0, .int .u64 0]) ?_ 0 _ rfl; (with_reducible repeat (first | apply elN | apply elD | apply elA)); exact BK297.out))⟩; have n2_ : Aside0 (Below w.heap.size w w21) := ⟨(by rw [hw]; exact (by repeat (first | (with_reducible first | exact HB.out | apply below_alloc | apply pw_below_drewN | apply below_drew1 | refine below_set ?_ GE288.out | refine below_set ?_ GE297.out) | exact HB.out)))⟩; clear hw; clear BK288; clear BK297; clear HB; have BK288 := n0_; have BK297 := n1_; have HB := n2_; clear n0_ n1_ n2_; have hcz22_0 : w21.cell? ⟨gb288, 0, none⟩ = some (.int .u64 a3_0) := (blk_cell BK288.out 0).trans rfl; have hcz22_1 : w21.cell? ⟨gb288, 1, none⟩ = some (.int .u64 a3_1) := (blk_cell BK288.out 1).trans rfl; have hcz22_2 : w21.cell? ⟨gb288, 2, none⟩ = some (.int .u64 a3_2) := (blk_cell BK288.out 2).trans rfl; have hcz22_3 : w21.cell? ⟨gb288, 3, none⟩ = some (.int .u64 a3_3) := (blk_cell BK288.out 3).trans rfl; have hfz22_0 := blk_frozen BK288.out 0; have hfz22_1 := blk_frozen BK288.out 1; have hfz22_2 := blk_frozen BK288.out 2; have hfz22_3 := blk_frozen BK288.out 3) | ((with_reducible refine gate_callee (f := 10) rfl ?_); refine goesL_ (some 47) rfl rfl Try.func10 (by kernel_rfl) rfl #[.slice A0 l0.length c0, .string a1, .string a2, .agg #[.int .u64 a3_0, .int .u64 a3_1, .int .u64 a3_2, .int .u64 a3_3]] rfl (by (try simp only [List.map_toArray, List.map_cons, List.map_nil]); first | done | rfl | (simp only [List.length_drop, List.length_take]; rfl)) ?_; (with_reducible refine (acct_Give.calls (fun k_ => k_ < w.heap.size) _ _ l0 a1 a2 a3_0 a3_1 a3_2 a3_3 t298 t301 _ ?side1 A15.out).mono ?_); (case side1 => exact Kd.V_mk HC0.out (Kd.F_below (Kd.C_F k39_heap HR0.out) (by repeat (first | (with_reducible first | exact HB.out | apply below_alloc | apply pw_below_drewN | apply below_drew1 | refine below_set ?_ GE288.out | refine below_set ?_ GE297.out) | exact HB.out)))); rintro e w23 ⟨v299, rfl, ho0, hb⟩; refine ⟨_, rfl, ?_⟩; have n0_ := Aside0.mk (Kd.V_lower (Kd.V_mono (ok' := fun k_ => k_ ≠ gb288 ∧ k_ ≠ gb297) ho0 (fun k_ hk_ => ⟨Or.elim hk_ (fun hs_ => fun e_ => Nat.not_le.2 hs_ (by rw [e_]; exact GW288.out)) (fun hn_ => (Kd.freshB (g := gb288) (o := .cells #[.int .u64 a3_0, .int .u64 a3_1, .int .u64 a3_2, .int .u64 a3_3] 25 (0, 0)) (by (with_reducible repeat (first | apply elN | apply elD | apply elA)); exact BK288.out) k_ hn_)), Or.elim hk_ (fun hs_ => fun e_ => Nat.not_le.2 hs_ (by rw [e_]; exact GW297.out)) (fun hn_ => (Kd.freshB (g := gb297) (o := .cells #[.int .u64 t292, .int .u64 t293, .int .u64 t294, .int .u64 t295] 25 (0, 0)) (by (with_reducible repeat (first | apply elN | apply elD | apply elA)); exact BK297.out) k_ hn_))⟩)) (below_size (by repeat (first | (with_reducible first | exact HB.out | apply below_alloc | apply pw_below_drewN | apply below_drew1 | refine below_set ?_ GE288.out | refine below_set ?_ GE297.out) | exact HB.out)))); have n1_ := Aside0.mk (blk_below (g := gb288) (o := .cells #[.int .u64 a3_0, .int .u64 a3_1, .int .u64 a3_2, .int .u64 a3_3] 25 (0, 0)) (by (with_reducible repeat (first | apply elN | apply elD | apply elA)); exact BK288.out) hb); have n2_ := Aside0.mk (blk_below (g := gb297) (o := .cells #[.int .u64 t292, .int .u64 t293, .int .u64 t294, .int .u64 t295] 25 (0, 0)) (by (with_reducible repeat (first | apply elN | apply elD | apply elA)); exact BK297.out) hb); have n3_ := Aside0.mk (below_step (by repeat (first | (with_reducible first | exact HB.out | apply below_alloc | apply pw_below_drewN | apply below_drew1 | refine below_set ?_ GE288.out | refine below_set ?_ GE297.out) | exact HB.out)) hb); clear BK288; clear BK297; clear HB; have HO300 := n0_; have BK288 := n1_; have BK297 := n2_; have HB := n3_; clear n0_ n1_ n2_ n3_; (try clear hb); (try clear hb2); (try clear hk); (try clear hi); (try clear ho0)))
    (try simp only [Act.put, List.setIfInBounds_toArray, List.set_cons_zero, List.set_cons_succ])
    go_cut [] (fun wc => ∃ (kq : Nat), Aside0 (trucelaw16_AcctKeeps.j3 kq l0 a1 a2 a3_0 a3_1 a3_2 a3_3 t292 t293 t294 t295 = some r) ∧ Aside0 (kq ≤ kj4) ∧ Aside0 (wc.heap[gb288]? = some (.cells #[.int .u64 a3_0, .int .u64 a3_1, .int .u64 a3_2, .int .u64 a3_3] 25 (0, 0))) ∧ Aside0 (wc.heap[gb297]? = some (.cells #[.int .u64 t292, .int .u64 t293, .int .u64 t294, .int .u64 t295] 25 (0, 0))) ∧ Aside0 (Below w.heap.size w wc))
    case first =>
     have H := HC16.out
     clear HC16
     by_cases c24 : t301 = 0
     ·rw [if_pos c24] at H
      have c24b0 : (t301 == 0) = true := beq_iff_eq.mpr c24
      have c24b1 : (t301 != 0) = false := bne_eq_false_iff_eq.mpr c24
      clear c24
      (first | rw [c24b0] | (simp only [i64_w, i32_w]; rw [c24b0]) | skip)
      replace H := Option.bind_eq_some_iff.mp H
      obtain ⟨⟨t302, t303, t304, t305, t306⟩, A250, H⟩ := H
      replace H : ((truceref01_Add.f t292 t293 t294 t295 a3_0 a3_1 a3_2 a3_3).bind fun bt308 => ((acct_Take.f t298 a1 a2 a3_0 a3_1 a3_2 a3_3).bind fun bt314 => ((truceref16_Fit.f kj4 t298).bind fun t318 => (if t318 = true then (if t306 = true then (if bt308.2.2.2.2 = true then (trucelaw16_AcctKeeps.j1 kj4 l0 a1 a2 t298 true a3_0 a3_1 a3_2 a3_3 t292 t293 t294 t295) else (if (!(t302 == bt308.1) || (!(t303 == bt308.2.1) || (!(t304 == bt308.2.2.1) || (!(t305 == bt308.2.2.2.1))))) = true then (trucelaw16_AcctKeeps.j1 kj4 l0 a1 a2 t298 true a3_0 a3_1 a3_2 a3_3 t292 t293 t294 t295) else (if bt314.2 = 0 then ((truceref16_Same.f kj4 bt314.1 l0).bind fun t319 => (trucelaw16_AcctKeeps.j1 kj4 l0 a1 a2 t298 (!t319) a3_0 a3_1 a3_2 a3_3 t292 t293 t294 t295)) else (trucelaw16_AcctKeeps.j1 kj4 l0 a1 a2 t298 true a3_0 a3_1 a3_2 a3_3 t292 t293 t294 t295)))) else (trucelaw16_AcctKeeps.j1 kj4 l0 a1 a2 t298 true a3_0 a3_1 a3_2 a3_3 t292 t293 t294 t295)) else (trucelaw16_AcctKeeps.j1 kj4 l0 a1 a2 t298 true a3_0 a3_1 a3_2 a3_3 t292 t293 t294 t295))))) = some r := H
      have A25 := Aside0.mk A250
      clear A250
      replace H := Option.bind_eq_some_iff.mp H
      obtain ⟨⟨t308, t309, t310, t311, t312⟩, A260, H⟩ := H
      replace H : ((acct_Take.f t298 a1 a2 a3_0 a3_1 a3_2 a3_3).bind fun bt314 => ((truceref16_Fit.f kj4 t298).bind fun t318 => (if t318 = true then (if t306 = true then (if t312 = true then (trucelaw16_AcctKeeps.j1 kj4 l0 a1 a2 t298 true a3_0 a3_1 a3_2 a3_3 t292 t293 t294 t295) else (if (!(t302 == t308) || (!(t303 == t309) || (!(t304 == t310) || (!(t305 == t311))))) = true then (trucelaw16_AcctKeeps.j1 kj4 l0 a1 a2 t298 true a3_0 a3_1 a3_2 a3_3 t292 t293 t294 t295) else (if bt314.2 = 0 then ((truceref16_Same.f kj4 bt314.1 l0).bind fun t319 => (trucelaw16_AcctKeeps.j1 kj4 l0 a1 a2 t298 (!t319) a3_0 a3_1 a3_2 a3_3 t292 t293 t294 t295)) else (trucelaw16_AcctKeeps.j1 kj4 l0 a1 a2 t298 true a3_0 a3_1 a3_2 a3_3 t292 t293 t294 t295)))) else (trucelaw16_AcctKeeps.j1 kj4 l0 a1 a2 t298 true a3_0 a3_1 a3_2 a3_3 t292 t293 t294 t295)) else (trucelaw16_AcctKeeps.j1 kj4 l0 a1 a2 t298 true a3_0 a3_1 a3_2 a3_3 t292 t293 t294 t295)))) = some r := H
      have A26 := Aside0.mk A260
      clear A260
      replace H := Option.bind_eq_some_iff.mp H
      obtain ⟨⟨t314, t317⟩, A270, H⟩ := H
      replace H : ((truceref16_Fit.f kj4 t298).bind fun t318 => (if t318 = true then (if t306 = true then (if t312 = true then (trucelaw16_AcctKeeps.j1 kj4 l0 a1 a2 t298 true a3_0 a3_1 a3_2 a3_3 t292 t293 t294 t295) else (if (!(t302 == t308) || (!(t303 == t309) || (!(t304 == t310) || (!(t305 == t311))))) = true then (trucelaw16_AcctKeeps.j1 kj4 l0 a1 a2 t298 true a3_0 a3_1 a3_2 a3_3 t292 t293 t294 t295) else (if t317 = 0 then ((truceref16_Same.f kj4 t314 l0).bind fun t319 => (trucelaw16_AcctKeeps.j1 kj4 l0 a1 a2 t298 (!t319) a3_0 a3_1 a3_2 a3_3 t292 t293 t294 t295)) else (trucelaw16_AcctKeeps.j1 kj4 l0 a1 a2 t298 true a3_0 a3_1 a3_2 a3_3 t292 t293 t294 t295)))) else (trucelaw16_AcctKeeps.j1 kj4 l0 a1 a2 t298 true a3_0 a3_1 a3_2 a3_3 t292 t293 t294 t295)) else (trucelaw16_AcctKeeps.j1 kj4 l0 a1 a2 t298 true a3_0 a3_1 a3_2 a3_3 t292 t293 t294 t295))) = some r := H
      have A27 := Aside0.mk A270
      clear A270
      have HC28 := Aside0.mk H
      clear H
      obtain ⟨Ao29, co29, eo29⟩ := Kd.V_slice HO300.out
      subst eo29
      go_upto_region 9 with (first | ((with_reducible refine gate_callee (f := 15) rfl ?_); refine goesL_ (some 55) rfl rfl Try.func15 (by kernel_rfl) rfl #[.slice Ao29 t298.length co29, .string a2] rfl (by (try simp only [List.map_toArray, List.map_cons, List.map_nil]); first | done | rfl | (simp only [List.length_drop, List.length_take]; rfl)) ?_; (with_reducible refine (truceref16_Sum.calls kj4 _ _ t298 a2 t302 t303 t304 t305 t306 _ ?side1 ?side2 A25.out).mono ?_); (case side1 => repeat (first | exact (Kd.V_reads' HO300.out).2.2 | (with_reducible refine Kd.C_alloc ?_ _) | (with_reducible refine Kd.C_drewN ?_ _) | (with_reducible refine Kd.C_drew ?_))); (case side2 => exact (Kd.V_reads' HO300.out).2.1); rintro e w30 ⟨rfl, hb⟩; refine ⟨_, rfl, ?_⟩; have n0_ := Aside0.mk (Kd.V_below (by (with_reducible repeat (first | apply Kd.V_alloc | apply Kd.V_drewN | apply Kd.V_drew)); exact HO300.out) hb); have n1_ := Aside0.mk (blk_below (g := gb288) (o := .cells #[.int .u64 a3_0, .int .u64 a3_1, .int .u64 a3_2, .int .u64 a3_3] 25 (0, 0)) (by (with_reducible repeat (first | apply elN | apply elD | apply elA)); exact BK288.out) hb); have n2_ := Aside0.mk (blk_below (g := gb297) (o := .cells #[.int .u64 t292, .int .u64 t293, .int .u64 t294, .int .u64 t295] 25 (0, 0)) (by (with_reducible repeat (first | apply elN | apply elD | apply elA)); exact BK297.out) hb); have n3_ := Aside0.mk (below_step (by repeat (first | (with_reducible first | exact HB.out | apply below_alloc | apply pw_below_drewN | apply below_drew1 | refine below_set ?_ GE288.out | refine below_set ?_ GE297.out) | exact HB.out)) hb); clear HO300; clear BK288; clear BK297; clear HB; have HO300 := n0_; have BK288 := n1_; have BK297 := n2_; have HB := n3_; clear n0_ n1_ n2_ n3_; (try clear hb); (try clear hb2); (try clear hk); (try clear hi)) | ((with_reducible refine gate_dst (N := 13) rfl ?_); refine box_event ?hg (N := 13) ?hd (cs := #[.int .u64 0, .int .u64 0, .int .u64 0, .int .u64 0]) (t := 25) ?hr ?_; (case hd => rfl); (case hg => rfl); (case hr => first | (go_simp; done) | (go_simp; rfl)); intro gb307 hg w31 hbox hb; have n0_ := Aside0.mk (Kd.V_below (Kd.V_elderB (by (with_reducible repeat (first | apply Kd.V_alloc | apply Kd.V_drewN | apply Kd.V_drew)); exact HO300.out) gb307 (Nat.le_of_eq hg.symm)) hb); have n1_ := Aside0.mk (blk_below (g := gb288) (o := .cells #[.int .u64 a3_0, .int .u64 a3_1, .int .u64 a3_2, .int .u64 a3_3] 25 (0, 0)) (by (with_reducible repeat (first | apply elN | apply elD | apply elA)); exact BK288.out) hb); have n2_ := Aside0.mk (blk_below (g := gb297) (o := .cells #[.int .u64 t292, .int .u64 t293, .int .u64 t294, .int .u64 t295] 25 (0, 0)) (by (with_reducible repeat (first | apply elN | apply elD | apply elA)); exact BK297.out) hb); have n3_ := Aside0.mk (below_step (by repeat (first | (with_reducible first | exact HB.out | apply below_alloc | apply pw_below_drewN | apply below_drew1 | refine below_set ?_ GE288.out | refine below_set ?_ GE297.out) | exact HB.out)) hb); have n4_ := Aside0.mk (hbox); have n5_ := Aside0.mk ((by rw [hg]; exact (below_size (by repeat (first | (with_reducible first | exact HB.out | apply below_alloc | apply pw_below_drewN | apply below_drew1 | refine below_set ?_ GE288.out | refine below_set ?_ GE297.out) | exact HB.out))) : w.heap.size ≤ gb307)); have n6_ := Aside0.mk ((by rw [hg]; exact (below_size (by repeat (first | (with_reducible first | exact HB.out | apply below_alloc | apply pw_below_drewN | apply below_drew1 | refine below_set ?_ GE288.out | refine below_set ?_ GE297.out) | exact HB.out))) : w.heap.size ≤ gb307)); have n7_ := Aside0.mk ((by rw [hg]; exact Nat.ne_of_lt (blk_lt (g := gb288) (o := .cells #[.int .u64 a3_0, .int .u64 a3_1, .int .u64 a3_2, .int .u64 a3_3] 25 (0, 0)) (by (with_reducible repeat (first | apply elN | apply elD | apply elA)); exact BK288.out)) : gb288 ≠ gb307)); have n8_ := Aside0.mk ((by rw [hg]; exact Nat.ne_of_gt (blk_lt (g := gb288) (o := .cells #[.int .u64 a3_0, .int .u64 a3_1, .int .u64 a3_2, .int .u64 a3_3] 25 (0, 0)) (by (with_reducible repeat (first | apply elN | apply elD | apply elA)); exact BK288.out)) : gb307 ≠ gb288)); have n9_ := Aside0.mk ((by rw [hg]; exact Nat.ne_of_lt (blk_lt (g := gb297) (o := .cells #[.int .u64 t292, .int .u64 t293, .int .u64 t294, .int .u64 t295] 25 (0, 0)) (by (with_reducible repeat (first | apply elN | apply elD | apply elA)); exact BK297.out)) : gb297 ≠ gb307)); have n10_ := Aside0.mk ((by rw [hg]; exact Nat.ne_of_gt (blk_lt (g := gb297) (o := .cells #[.int .u64 t292, .int .u64 t293, .int .u64 t294, .int .u64 t295] 25 (0, 0)) (by (with_reducible repeat (first | apply elN | apply elD | apply elA)); exact BK297.out)) : gb307 ≠ gb297)); clear HO300; clear BK288; clear BK297; clear HB; have HO300 := n0_; have BK288 := n1_; have BK297 := n2_; have HB := n3_; have BK307 := n4_; have GW307 := n5_; have GE307 := n6_; have NB288_307 := n7_; have NB307_288 := n8_; have NB297_307 := n9_; have NB307_297 := n10_; clear n0_ n1_ n2_ n3_ n4_ n5_ n6_ n7_ n8_ n9_ n10_; clear hb hbox hg; have hnb32 := NB307_288.out; have hnc32 := NB288_307.out; have hnb33 := NB307_297.out; have hnc33 := NB297_307.out; have hcz34_0 : w31.cell? ⟨gb307, 0, none⟩ = some (.int .u64 0) := (blk_cell BK307.out 0).trans rfl; have hcz34_1 : w31.cell? ⟨gb307, 1, none⟩ = some (.int .u64 0) := (blk_cell BK307.out 1).trans rfl; have hcz34_2 : w31.cell? ⟨gb307, 2, none⟩ = some (.int .u64 0) := (blk_cell BK307.out 2).trans rfl; have hcz34_3 : w31.cell? ⟨gb307, 3, none⟩ = some (.int .u64 0) := (blk_cell BK307.out 3).trans rfl; have hfz34_0 := blk_frozen BK307.out 0; have hfz34_1 := blk_frozen BK307.out 1; have hfz34_2 := blk_frozen BK307.out 2; have hfz34_3 := blk_frozen BK307.out 3; have hnb35 := NB297_288.out; have hnc35 := NB288_297.out; have hcz36_0 : w31.cell? ⟨gb297, 0, none⟩ = some (.int .u64 t292) := (blk_cell BK297.out 0).trans rfl; have hcz36_1 : w31.cell? ⟨gb297, 1, none⟩ = some (.int .u64 t293) := (blk_cell BK297.out 1).trans rfl; have hcz36_2 : w31.cell? ⟨gb297, 2, none⟩ = some (.int .u64 t294) := (blk_cell BK297.out 2).trans rfl; have hcz36_3 : w31.cell? ⟨gb297, 3, none⟩ = some (.int .u64 t295) := (blk_cell BK297.out 3).trans rfl; have hfz36_0 := blk_frozen BK297.out 0; have hfz36_1 := blk_frozen BK297.out 1; have hfz36_2 := blk_frozen BK297.out 2; have hfz36_3 := blk_frozen BK297.out 3; have hcz37_0 : w31.cell? ⟨gb288, 0, none⟩ = some (.int .u64 a3_0) := (blk_cell BK288.out 0).trans rfl; have hcz37_1 : w31.cell? ⟨gb288, 1, none⟩ = some (.int .u64 a3_1) := (blk_cell BK288.out 1).trans rfl; have hcz37_2 : w31.cell? ⟨gb288, 2, none⟩ = some (.int .u64 a3_2) := (blk_cell BK288.out 2).trans rfl; have hcz37_3 : w31.cell? ⟨gb288, 3, none⟩ = some (.int .u64 a3_3) := (blk_cell BK288.out 3).trans rfl; have hfz37_0 := blk_frozen BK288.out 0; have hfz37_1 := blk_frozen BK288.out 1; have hfz37_2 := blk_frozen BK288.out 2; have hfz37_3 := blk_frozen BK288.out 3) | ((with_reducible refine gate_callee (f := 16) rfl ?_); refine goesL_ (some 61) rfl rfl Try.func16 (by kernel_rfl) rfl #[.agg #[.int .u64 t292, .int .u64 t293, .int .u64 t294, .int .u64 t295], .agg #[.int .u64 a3_0, .int .u64 a3_1, .int .u64 a3_2, .int .u64 a3_3]] rfl (by (try simp only [List.map_toArray, List.map_cons, List.map_nil]); first | done | rfl | (simp only [List.length_drop, List.length_take]; rfl)) ?_; (with_reducible refine (truceref01_Add.calls t292 t293 t294 t295 a3_0 a3_1 a3_2 a3_3 t308 t309 t310 t311 t312 _ A26.out).mono ?_); rintro e w38 ⟨rfl, hb⟩; refine ⟨_, rfl, ?_⟩; have n0_ := Aside0.mk (Kd.V_below (by (with_reducible repeat (first | apply Kd.V_alloc | apply Kd.V_drewN | apply Kd.V_drew)); exact (Kd.V_mono (Kd.V_far (p := ⟨gb307, 3, none⟩) (Kd.V_far (p := ⟨gb307, 2, none⟩) (Kd.V_far (p := ⟨gb307, 1, none⟩) (Kd.V_far (p := ⟨gb307, 0, none⟩) (Kd.V_mono HO300.out (fun k_ hk => (⟨hk, hk.2⟩ : _ ∧ k_ ≠ gb307))) (fun _ hk => hk.2) (.int .u64 t302)) (fun _ hk => hk.2) (.int .u64 t303)) (fun _ hk => hk.2) (.int .u64 t304)) (fun _ hk => hk.2) (.int .u64 t305)) (fun _ h_ => h_.1))) hb); have n1_ := Aside0.mk (blk_below (g := gb288) (o := .cells #[.int .u64 a3_0, .int .u64 a3_1, .int .u64 a3_2, .int .u64 a3_3] 25 (0, 0)) (by (with_reducible repeat (first | apply elN | apply elD | apply elA)); refine blk_far ?_ NB288_307.out _; (with_reducible repeat (first | apply elN | apply elD | apply elA)); refine blk_far ?_ NB288_307.out _; (with_reducible repeat (first | apply elN | apply elD | apply elA)); refine blk_far ?_ NB288_307.out _; (with_reducible repeat (first | apply elN | apply elD | apply elA)); refine blk_far ?_ NB288_307.out _; (with_reducible repeat (first | apply elN | apply elD | apply elA)); exact BK288.out) hb); have n2_ := Aside0.mk (blk_below (g := gb297) (o := .cells #[.int .u64 t292, .int .u64 t293, .int .u64 t294, .int .u64 t295] 25 (0, 0)) (by (with_reducible repeat (first | apply elN | apply elD | apply elA)); refine blk_far ?_ NB297_307.out _; (with_reducible repeat (first | apply elN | apply elD | apply elA)); refine blk_far ?_ NB297_307.out _; (with_reducible repeat (first | apply elN | apply elD | apply elA)); refine blk_far ?_ NB297_307.out _; (with_reducible repeat (first | apply elN | apply elD | apply elA)); refine blk_far ?_ NB297_307.out _; (with_reducible repeat (first | apply elN | apply elD | apply elA)); exact BK297.out) hb); have n3_ := Aside0.mk (blk_below (g := gb307) (o := .cells #[.int .u64 t302, .int .u64 t303, .int .u64 t304, .int .u64 t305] 25 (0, 0)) (by (with_reducible repeat (first | apply elN | apply elD | apply elA)); refine blk_put (cs := #[.int .u64 t302, .int .u64 t303, .int .u64 t304, .int .u64 0]) ?_ 3 _ rfl; (with_reducible repeat (first | apply elN | apply elD | apply elA)); refine blk_put (cs := #[.int .u64 t302, .int .u64 t303, .int .u64 0, .int .u64 0]) ?_ 2 _ rfl; (with_reducible repeat (first | apply elN | apply elD | apply elA)); refine blk_put (cs := #[.int .u64 t302, .int .u64 0, .int .u64 0, .int .u64 0]) ?_ 1 _ rfl; (with_reducible repeat (first | apply elN | apply elD | apply elA)); refine blk_put (cs := #[.int .u64 0, .int .u64 0, .int .u64 0, .int .u64 0]) ?_ 0 _ rfl; (with_reducible repeat (first | apply elN | apply elD | apply elA)); exact BK307.out) hb); have n4_ := Aside0.mk (below_step (by repeat (first | (with_reducible first | exact HB.out | apply below_alloc | apply pw_below_drewN | apply below_drew1 | refine below_set ?_ GE288.out | refine below_set ?_ GE297.out | refine below_set ?_ GE307.out) | exact HB.out)) hb); clear HO300; clear BK288; clear BK297; clear BK307; clear HB; have HO300 := n0_; have BK288 := n1_; have BK297 := n2_; have BK307 := n3_; have HB := n4_; clear n0_ n1_ n2_ n3_ n4_; (try clear hb); (try clear hb2); (try clear hk); (try clear hi)) | ((with_reducible refine gate_dst (N := 15) rfl ?_); refine box_event ?hg (N := 15) ?hd (cs := #[.int .u64 0, .int .u64 0, .int .u64 0, .int .u64 0]) (t := 25) ?hr ?_; (case hd => rfl); (case hg => rfl); (case hr => first | (go_simp; done) | (go_simp; rfl)); intro gb313 hg w39 hbox hb; have n0_ := Aside0.mk (Kd.V_below (Kd.V_elderB (by (with_reducible repeat (first | apply Kd.V_alloc | apply Kd.V_drewN | apply Kd.V_drew)); exact HO300.out) gb313 (Nat.le_of_eq hg.symm)) hb); have n1_ := Aside0.mk (blk_below (g := gb288) (o := .cells #[.int .u64 a3_0, .int .u64 a3_1, .int .u64 a3_2, .int .u64 a3_3] 25 (0, 0)) (by (with_reducible repeat (first | apply elN | apply elD | apply elA)); exact BK288.out) hb); have n2_ := Aside0.mk (blk_below (g := gb297) (o := .cells #[.int .u64 t292, .int .u64 t293, .int .u64 t294, .int .u64 t295] 25 (0, 0)) (by (with_reducible repeat (first | apply elN | apply elD | apply elA)); exact BK297.out) hb); have n3_ := Aside0.mk (blk_below (g := gb307) (o := .cells #[.int .u64 t302, .int .u64 t303, .int .u64 t304, .int .u64 t305] 25 (0, 0)) (by (with_reducible repeat (first | apply elN | apply elD | apply elA)); exact BK307.out) hb); have n4_ := Aside0.mk (below_step (by repeat (first | (with_reducible first | exact HB.out | apply below_alloc | apply pw_below_drewN | apply below_drew1 | refine below_set ?_ GE288.out | refine below_set ?_ GE297.out | refine below_set ?_ GE307.out) | exact HB.out)) hb); have n5_ := Aside0.mk (hbox); have n6_ := Aside0.mk ((by rw [hg]; exact (below_size (by repeat (first | (with_reducible first | exact HB.out | apply below_alloc | apply pw_below_drewN | apply below_drew1 | refine below_set ?_ GE288.out | refine below_set ?_ GE297.out | refine below_set ?_ GE307.out) | exact HB.out))) : w.heap.size ≤ gb313)); have n7_ := Aside0.mk ((by rw [hg]; exact (below_size (by repeat (first | (with_reducible first | exact HB.out | apply below_alloc | apply pw_below_drewN | apply below_drew1 | refine below_set ?_ GE288.out | refine below_set ?_ GE297.out | refine below_set ?_ GE307.out) | exact HB.out))) : w.heap.size ≤ gb313)); have n8_ := Aside0.mk ((by rw [hg]; exact Nat.ne_of_lt (blk_lt (g := gb288) (o := .cells #[.int .u64 a3_0, .int .u64 a3_1, .int .u64 a3_2, .int .u64 a3_3] 25 (0, 0)) (by (with_reducible repeat (first | apply elN | apply elD | apply elA)); exact BK288.out)) : gb288 ≠ gb313)); have n9_ := Aside0.mk ((by rw [hg]; exact Nat.ne_of_gt (blk_lt (g := gb288) (o := .cells #[.int .u64 a3_0, .int .u64 a3_1, .int .u64 a3_2, .int .u64 a3_3] 25 (0, 0)) (by (with_reducible repeat (first | apply elN | apply elD | apply elA)); exact BK288.out)) : gb313 ≠ gb288)); have n10_ := Aside0.mk ((by rw [hg]; exact Nat.ne_of_lt (blk_lt (g := gb297) (o := .cells #[.int .u64 t292, .int .u64 t293, .int .u64 t294, .int .u64 t295] 25 (0, 0)) (by (with_reducible repeat (first | apply elN | apply elD | apply elA)); exact BK297.out)) : gb297 ≠ gb313)); have n11_ := Aside0.mk ((by rw [hg]; exact Nat.ne_of_gt (blk_lt (g := gb297) (o := .cells #[.int .u64 t292, .int .u64 t293, .int .u64 t294, .int .u64 t295] 25 (0, 0)) (by (with_reducible repeat (first | apply elN | apply elD | apply elA)); exact BK297.out)) : gb313 ≠ gb297)); have n12_ := Aside0.mk ((by rw [hg]; exact Nat.ne_of_lt (blk_lt (g := gb307) (o := .cells #[.int .u64 t302, .int .u64 t303, .int .u64 t304, .int .u64 t305] 25 (0, 0)) (by (with_reducible repeat (first | apply elN | apply elD | apply elA)); exact BK307.out)) : gb307 ≠ gb313)); have n13_ := Aside0.mk ((by rw [hg]; exact Nat.ne_of_gt (blk_lt (g := gb307) (o := .cells #[.int .u64 t302, .int .u64 t303, .int .u64 t304, .int .u64 t305] 25 (0, 0)) (by (with_reducible repeat (first | apply elN | apply elD | apply elA)); exact BK307.out)) : gb313 ≠ gb307)); clear HO300; clear BK288; clear BK297; clear BK307; clear HB; have HO300 := n0_; have BK288 := n1_; have BK297 := n2_; have BK307 := n3_; have HB := n4_; have BK313 := n5_; have GW313 := n6_; have GE313 := n7_; have NB288_313 := n8_; have NB313_288 := n9_; have NB297_313 := n10_; have NB313_297 := n11_; have NB307_313 := n12_; have NB313_307 := n13_; clear n0_ n1_ n2_ n3_ n4_ n5_ n6_ n7_ n8_ n9_ n10_ n11_ n12_ n13_; clear hb hbox hg; have hnb40 := NB313_288.out; have hnc40 := NB288_313.out; have hnb41 := NB313_297.out; have hnc41 := NB297_313.out; have hnb42 := NB313_307.out; have hnc42 := NB307_313.out; have hcz43_0 : w39.cell? ⟨gb313, 0, none⟩ = some (.int .u64 0) := (blk_cell BK313.out 0).trans rfl; have hcz43_1 : w39.cell? ⟨gb313, 1, none⟩ = some (.int .u64 0) := (blk_cell BK313.out 1).trans rfl; have hcz43_2 : w39.cell? ⟨gb313, 2, none⟩ = some (.int .u64 0) := (blk_cell BK313.out 2).trans rfl; have hcz43_3 : w39.cell? ⟨gb313, 3, none⟩ = some (.int .u64 0) := (blk_cell BK313.out 3).trans rfl; have hfz43_0 := blk_frozen BK313.out 0; have hfz43_1 := blk_frozen BK313.out 1; have hfz43_2 := blk_frozen BK313.out 2; have hfz43_3 := blk_frozen BK313.out 3) | ((with_reducible refine gate_store (t := 25) (p := 15) rfl ?_); refine store_event (t := 25) (p := 15) (v := ?vo_w44) (w1 := ((((w39.setCell ⟨gb313, 0, none⟩ (.int .u64 t308)).setCell ⟨gb313, 1, none⟩ (.int .u64 t309)).setCell ⟨gb313, 2, none⟩ (.int .u64 t310)).setCell ⟨gb313, 3, none⟩ (.int .u64 t311))) ?hg ?ho ?hn ?hr ?_; (case ho => rfl); (case hg => rfl); (case hn => rfl); (case hr => first | (go_simp; done) | (go_simp; rfl)); intro w44 hw; have n0_ : Aside0 (Kd.V k39 39 w44 w.heap.size (fun k_ => k_ ≠ gb288 ∧ k_ ≠ gb297 ∧ k_ ≠ gb307 ∧ k_ ≠ gb313) (.slice Ao29 t298.length co29) t298) := ⟨(by rw [hw]; exact (by (with_reducible repeat (first | apply Kd.V_alloc | apply Kd.V_drewN | apply Kd.V_drew)); exact Kd.V_mono (Kd.V_far (p := ⟨gb313, 3, none⟩) (Kd.V_far (p := ⟨gb313, 2, none⟩) (Kd.V_far (p := ⟨gb313, 1, none⟩) (Kd.V_far (p := ⟨gb313, 0, none⟩) (Kd.V_mono HO300.out (fun k_ hk => (⟨hk, hk.2⟩ : _ ∧ k_ ≠ gb313))) (fun _ hk => hk.2) (.int .u64 t308)) (fun _ hk => hk.2) (.int .u64 t309)) (fun _ hk => hk.2) (.int .u64 t310)) (fun _ hk => hk.2) (.int .u64 t311)) (fun _ hk => ⟨hk.1.1.1.1, ⟨hk.1.1.1.2, ⟨hk.1.1.2, hk.1.2⟩⟩⟩)))⟩; have n1_ : Aside0 (w44.heap[gb288]? = some (.cells #[.int .u64 a3_0, .int .u64 a3_1, .int .u64 a3_2, .int .u64 a3_3] 25 (0, 0))) := ⟨(by rw [hw]; exact (by (with_reducible repeat (first | apply elN | apply elD | apply elA)); refine blk_far ?_ NB288_313.out _; (with_reducible repeat (first | apply elN | apply elD | apply elA)); refine blk_far ?_ NB288_313.out _; (with_reducible repeat (first | apply elN | apply elD | apply elA)); refine blk_far ?_ NB288_313.out _; (with_reducible repeat (first | apply elN | apply elD | apply elA)); refine blk_far ?_ NB288_313.out _; (with_reducible repeat (first | apply elN | apply elD | apply elA)); exact BK288.out))⟩; have n2_ : Aside0 (w44.heap[gb297]? = some (.cells #[.int .u64 t292, .int .u64 t293, .int .u64 t294, .int .u64 t295] 25 (0, 0))) := ⟨(by rw [hw]; exact (by (with_reducible repeat (first | apply elN | apply elD | apply elA)); refine blk_far ?_ NB297_313.out _; (with_reducible repeat (first | apply elN | apply elD | apply elA)); refine blk_far ?_ NB297_313.out _; (with_reducible repeat (first | apply elN | apply elD | apply elA)); refine blk_far ?_ NB297_313.out _; (with_reducible repeat (first | apply elN | apply elD | apply elA)); refine blk_far ?_ NB297_313.out _; (with_reducible repeat (first | apply elN | apply elD | apply elA)); exact BK297.out))⟩; have n3_ : Aside0 (w44.heap[gb307]? = some (.cells #[.int .u64 t302, .int .u64 t303, .int .u64 t304, .int .u64 t305] 25 (0, 0))) := ⟨(by rw [hw]; exact (by (with_reducible repeat (first | apply elN | apply elD | apply elA)); refine blk_far ?_ NB307_313.out _; (with_reducible repeat (first | apply elN | apply elD | apply elA)); refine blk_far ?_ NB307_313.out _; (with_reducible repeat (first | apply elN | apply elD | apply elA)); refine blk_far ?_ NB307_313.out _; (with_reducible repeat (first | apply elN | apply elD | apply elA)); refine blk_far ?_ NB307_313.out _; (with_reducible repeat (first | apply elN | apply elD | apply elA)); exact BK307.out))⟩; have n4_ : Aside0 (w44.heap[gb313]? = some (.cells #[.int .u64 t308, .int .u64 t309, .int .u64 t310, .int .u64 t311] 25 (0, 0))) := ⟨(by rw [hw]; exact (by (with_reducible repeat (first | apply elN | apply elD | apply elA)); refine blk_put (cs := #[.int .u64 t308, .int .u64 t309, .int .u64 t310, .int .u64 0]) ?_ 3 _ rfl; (with_reducible repeat (first | apply elN | apply elD | apply elA)); refine blk_put (cs := #[.int .u64 t308, .int .u64 t309, .int .u64 0, .int .u64 0]) ?_ 2 _ rfl; (with_reducible repeat (first | apply elN | apply elD | apply elA)); refine blk_put (cs := #[.int .u64 t308, .int .u64 0, .int .u64 0, .int .u64 0]) ?_ 1 _ rfl; (with_reducible repeat (first | apply elN | apply elD | apply elA)); refine blk_put (cs := #[.int .u64 0, .int .u64 0, .int .u64 0, .int .u64 0]) ?_ 0 _ rfl; (with_reducible repeat (first | apply elN | apply elD | apply elA)); exact BK313.out))⟩; have n5_ : Aside0 (Below w.heap.size w w44) := ⟨(by rw [hw]; exact (by repeat (first | (with_reducible first | exact HB.out | apply below_alloc | apply pw_below_drewN | apply below_drew1 | refine below_set ?_ GE288.out | refine below_set ?_ GE297.out | refine below_set ?_ GE307.out | refine below_set ?_ GE313.out) | exact HB.out)))⟩; clear hw; clear HO300; clear BK288; clear BK297; clear BK307; clear BK313; clear HB; have HO300 := n0_; have BK288 := n1_; have BK297 := n2_; have BK307 := n3_; have BK313 := n4_; have HB := n5_; clear n0_ n1_ n2_ n3_ n4_ n5_; have hcz45_0 : w44.cell? ⟨gb288, 0, none⟩ = some (.int .u64 a3_0) := (blk_cell BK288.out 0).trans rfl; have hcz45_1 : w44.cell? ⟨gb288, 1, none⟩ = some (.int .u64 a3_1) := (blk_cell BK288.out 1).trans rfl; have hcz45_2 : w44.cell? ⟨gb288, 2, none⟩ = some (.int .u64 a3_2) := (blk_cell BK288.out 2).trans rfl; have hcz45_3 : w44.cell? ⟨gb288, 3, none⟩ = some (.int .u64 a3_3) := (blk_cell BK288.out 3).trans rfl; have hfz45_0 := blk_frozen BK288.out 0; have hfz45_1 := blk_frozen BK288.out 1; have hfz45_2 := blk_frozen BK288.out 2; have hfz45_3 := blk_frozen BK288.out 3) | ((with_reducible refine gate_callee (f := 12) rfl ?_); refine goesL_ (some 69) rfl rfl Try.func12 (by kernel_rfl) rfl #[.slice Ao29 t298.length co29, .string a1, .string a2, .agg #[.int .u64 a3_0, .int .u64 a3_1, .int .u64 a3_2, .int .u64 a3_3]] rfl (by (try simp only [List.map_toArray, List.map_cons, List.map_nil]); first | done | rfl | (simp only [List.length_drop, List.length_take]; rfl)) ?_; (with_reducible refine (acct_Take.calls (fun k_ => (k_ ≠ gb288 ∧ (k_ ≠ gb297 ∧ (k_ ≠ gb307 ∧ k_ ≠ gb313)))) _ _ t298 a1 a2 a3_0 a3_1 a3_2 a3_3 t314 t317 _ ?side1 A27.out).mono ?_); (case side1 => exact HO300.out); rintro e w46 ⟨v315, rfl, ho0, hb⟩; refine ⟨_, rfl, ?_⟩; have n0_ := Aside0.mk (Kd.V_below (by (with_reducible repeat (first | apply Kd.V_alloc | apply Kd.V_drewN | apply Kd.V_drew)); exact HO300.out) hb); have n1_ := Aside0.mk (Kd.V_lower (Kd.V_mono (ok' := fun k_ => k_ ≠ gb288 ∧ k_ ≠ gb297 ∧ k_ ≠ gb307 ∧ k_ ≠ gb313) ho0 (fun k_ hk_ => ⟨Or.elim hk_ (fun hs_ => hs_.1) (fun hn_ => (Kd.freshB (g := gb288) (o := .cells #[.int .u64 a3_0, .int .u64 a3_1, .int .u64 a3_2, .int .u64 a3_3] 25 (0, 0)) (by (with_reducible repeat (first | apply elN | apply elD | apply elA)); exact BK288.out) k_ hn_)), Or.elim hk_ (fun hs_ => hs_.2.1) (fun hn_ => (Kd.freshB (g := gb297) (o := .cells #[.int .u64 t292, .int .u64 t293, .int .u64 t294, .int .u64 t295] 25 (0, 0)) (by (with_reducible repeat (first | apply elN | apply elD | apply elA)); exact BK297.out) k_ hn_)), Or.elim hk_ (fun hs_ => hs_.2.2.1) (fun hn_ => (Kd.freshB (g := gb307) (o := .cells #[.int .u64 t302, .int .u64 t303, .int .u64 t304, .int .u64 t305] 25 (0, 0)) (by (with_reducible repeat (first | apply elN | apply elD | apply elA)); exact BK307.out) k_ hn_)), Or.elim hk_ (fun hs_ => hs_.2.2.2) (fun hn_ => (Kd.freshB (g := gb313) (o := .cells #[.int .u64 t308, .int .u64 t309, .int .u64 t310, .int .u64 t311] 25 (0, 0)) (by (with_reducible repeat (first | apply elN | apply elD | apply elA)); exact BK313.out) k_ hn_))⟩)) (below_size (by repeat (first | (with_reducible first | exact HB.out | apply below_alloc | apply pw_below_drewN | apply below_drew1 | refine below_set ?_ GE288.out | refine below_set ?_ GE297.out | refine below_set ?_ GE307.out | refine below_set ?_ GE313.out) | exact HB.out)))); have n2_ := Aside0.mk (blk_below (g := gb288) (o := .cells #[.int .u64 a3_0, .int .u64 a3_1, .int .u64 a3_2, .int .u64 a3_3] 25 (0, 0)) (by (with_reducible repeat (first | apply elN | apply elD | apply elA)); exact BK288.out) hb); have n3_ := Aside0.mk (blk_below (g := gb297) (o := .cells #[.int .u64 t292, .int .u64 t293, .int .u64 t294, .int .u64 t295] 25 (0, 0)) (by (with_reducible repeat (first | apply elN | apply elD | apply elA)); exact BK297.out) hb); have n4_ := Aside0.mk (blk_below (g := gb307) (o := .cells #[.int .u64 t302, .int .u64 t303, .int .u64 t304, .int .u64 t305] 25 (0, 0)) (by (with_reducible repeat (first | apply elN | apply elD | apply elA)); exact BK307.out) hb); have n5_ := Aside0.mk (blk_below (g := gb313) (o := .cells #[.int .u64 t308, .int .u64 t309, .int .u64 t310, .int .u64 t311] 25 (0, 0)) (by (with_reducible repeat (first | apply elN | apply elD | apply elA)); exact BK313.out) hb); have n6_ := Aside0.mk (below_step (by repeat (first | (with_reducible first | exact HB.out | apply below_alloc | apply pw_below_drewN | apply below_drew1 | refine below_set ?_ GE288.out | refine below_set ?_ GE297.out | refine below_set ?_ GE307.out | refine below_set ?_ GE313.out) | exact HB.out)) hb); clear HO300; clear BK288; clear BK297; clear BK307; clear BK313; clear HB; have HO300 := n0_; have HO316 := n1_; have BK288 := n2_; have BK297 := n3_; have BK307 := n4_; have BK313 := n5_; have HB := n6_; clear n0_ n1_ n2_ n3_ n4_ n5_ n6_; (try clear hb); (try clear hb2); (try clear hk); (try clear hi); (try clear ho0)))
      (try simp only [Act.put, List.setIfInBounds_toArray, List.set_cons_zero, List.set_cons_succ])
      go_cut [96] (fun v96 wc => ∃ (kq : Nat) (x96_27 : Bool), v96 = .bool x96_27 ∧ Aside0 (trucelaw16_AcctKeeps.j1 kq l0 a1 a2 t298 x96_27 a3_0 a3_1 a3_2 a3_3 t292 t293 t294 t295 = some r) ∧ Aside0 (kq ≤ kj4) ∧ Aside0 (Kd.V k39 39 wc w.heap.size (fun k_ => k_ ≠ gb288 ∧ k_ ≠ gb297 ∧ k_ ≠ gb307 ∧ k_ ≠ gb313) (.slice Ao29 t298.length co29) t298) ∧ Aside0 (wc.heap[gb288]? = some (.cells #[.int .u64 a3_0, .int .u64 a3_1, .int .u64 a3_2, .int .u64 a3_3] 25 (0, 0))) ∧ Aside0 (wc.heap[gb297]? = some (.cells #[.int .u64 t292, .int .u64 t293, .int .u64 t294, .int .u64 t295] 25 (0, 0))) ∧ Aside0 (wc.heap[gb307]? = some (.cells #[.int .u64 t302, .int .u64 t303, .int .u64 t304, .int .u64 t305] 25 (0, 0))) ∧ Aside0 (wc.heap[gb313]? = some (.cells #[.int .u64 t308, .int .u64 t309, .int .u64 t310, .int .u64 t311] 25 (0, 0))) ∧ Aside0 (Below w.heap.size w wc))
      case first =>
       have H := HC28.out
       clear HC28
       replace H := Option.bind_eq_some_iff.mp H
       obtain ⟨t318, A470, H⟩ := H
       replace H : (if t318 = true then (if t306 = true then (if t312 = true then (trucelaw16_AcctKeeps.j1 kj4 l0 a1 a2 t298 true a3_0 a3_1 a3_2 a3_3 t292 t293 t294 t295) else (if (!(t302 == t308) || (!(t303 == t309) || (!(t304 == t310) || (!(t305 == t311))))) = true then (trucelaw16_AcctKeeps.j1 kj4 l0 a1 a2 t298 true a3_0 a3_1 a3_2 a3_3 t292 t293 t294 t295) else (if t317 = 0 then ((truceref16_Same.f kj4 t314 l0).bind fun t319 => (trucelaw16_AcctKeeps.j1 kj4 l0 a1 a2 t298 (!t319) a3_0 a3_1 a3_2 a3_3 t292 t293 t294 t295)) else (trucelaw16_AcctKeeps.j1 kj4 l0 a1 a2 t298 true a3_0 a3_1 a3_2 a3_3 t292 t293 t294 t295)))) else (trucelaw16_AcctKeeps.j1 kj4 l0 a1 a2 t298 true a3_0 a3_1 a3_2 a3_3 t292 t293 t294 t295)) else (trucelaw16_AcctKeeps.j1 kj4 l0 a1 a2 t298 true a3_0 a3_1 a3_2 a3_3 t292 t293 t294 t295)) = some r := H
       have A47 := Aside0.mk A470
       clear A470
       by_cases c48 : t318 = true
       ·subst c48
        have H1 : (if t306 = true then (if t312 = true then (trucelaw16_AcctKeeps.j1 kj4 l0 a1 a2 t298 true a3_0 a3_1 a3_2 a3_3 t292 t293 t294 t295) else (if (!(t302 == t308) || (!(t303 == t309) || (!(t304 == t310) || (!(t305 == t311))))) = true then (trucelaw16_AcctKeeps.j1 kj4 l0 a1 a2 t298 true a3_0 a3_1 a3_2 a3_3 t292 t293 t294 t295) else (if t317 = 0 then ((truceref16_Same.f kj4 t314 l0).bind fun t319 => (trucelaw16_AcctKeeps.j1 kj4 l0 a1 a2 t298 (!t319) a3_0 a3_1 a3_2 a3_3 t292 t293 t294 t295)) else (trucelaw16_AcctKeeps.j1 kj4 l0 a1 a2 t298 true a3_0 a3_1 a3_2 a3_3 t292 t293 t294 t295)))) else (trucelaw16_AcctKeeps.j1 kj4 l0 a1 a2 t298 true a3_0 a3_1 a3_2 a3_3 t292 t293 t294 t295)) = some r := by rw [if_pos rfl] at H; exact H
        clear H
        have H := H1
        clear H1
        by_cases c49 : t306 = true
        ·subst c49
         have H1 : (if t312 = true then (trucelaw16_AcctKeeps.j1 kj4 l0 a1 a2 t298 true a3_0 a3_1 a3_2 a3_3 t292 t293 t294 t295) else (if (!(t302 == t308) || (!(t303 == t309) || (!(t304 == t310) || (!(t305 == t311))))) = true then (trucelaw16_AcctKeeps.j1 kj4 l0 a1 a2 t298 true a3_0 a3_1 a3_2 a3_3 t292 t293 t294 t295) else (if t317 = 0 then ((truceref16_Same.f kj4 t314 l0).bind fun t319 => (trucelaw16_AcctKeeps.j1 kj4 l0 a1 a2 t298 (!t319) a3_0 a3_1 a3_2 a3_3 t292 t293 t294 t295)) else (trucelaw16_AcctKeeps.j1 kj4 l0 a1 a2 t298 true a3_0 a3_1 a3_2 a3_3 t292 t293 t294 t295)))) = some r := by rw [if_pos rfl] at H; exact H
         clear H
         have H := H1
         clear H1
         by_cases c50 : t312 = true
         ·subst c50
          have H1 : (trucelaw16_AcctKeeps.j1 kj4 l0 a1 a2 t298 true a3_0 a3_1 a3_2 a3_3 t292 t293 t294 t295) = some r := by rw [if_pos rfl] at H; exact H
          clear H
          have H := H1
          clear H1
          have H' := Aside0.mk H
          clear H
          go_wp2_with (first | ((with_reducible refine gate_callee (f := 8) rfl ?_); refine goesL_ (some 73) rfl rfl Try.func8 (by kernel_rfl) rfl #[.slice Ao29 t298.length co29] rfl (by (try simp only [List.map_toArray, List.map_cons, List.map_nil]); first | done | rfl | (simp only [List.length_drop, List.length_take]; rfl)) ?_; (with_reducible refine (truceref16_Fit.calls kj4 _ _ t298 true _ ?side1 ?side2 A47.out).mono ?_); (case side1 => repeat (first | exact (Kd.V_reads' HO300.out).2.2 | (with_reducible refine Kd.C_alloc ?_ _) | (with_reducible refine Kd.C_drewN ?_ _) | (with_reducible refine Kd.C_drew ?_))); (case side2 => exact (Kd.V_reads' HO300.out).2.1); rintro e w51 ⟨rfl, hb⟩; refine ⟨_, rfl, ?_⟩; have n0_ := Aside0.mk (Kd.V_below (by (with_reducible repeat (first | apply Kd.V_alloc | apply Kd.V_drewN | apply Kd.V_drew)); exact HO300.out) hb); have n1_ := Aside0.mk (Kd.V_below (by (with_reducible repeat (first | apply Kd.V_alloc | apply Kd.V_drewN | apply Kd.V_drew)); exact HO316.out) hb); have n2_ := Aside0.mk (blk_below (g := gb288) (o := .cells #[.int .u64 a3_0, .int .u64 a3_1, .int .u64 a3_2, .int .u64 a3_3] 25 (0, 0)) (by (with_reducible repeat (first | apply elN | apply elD | apply elA)); exact BK288.out) hb); have n3_ := Aside0.mk (blk_below (g := gb297) (o := .cells #[.int .u64 t292, .int .u64 t293, .int .u64 t294, .int .u64 t295] 25 (0, 0)) (by (with_reducible repeat (first | apply elN | apply elD | apply elA)); exact BK297.out) hb); have n4_ := Aside0.mk (blk_below (g := gb307) (o := .cells #[.int .u64 t302, .int .u64 t303, .int .u64 t304, .int .u64 t305] 25 (0, 0)) (by (with_reducible repeat (first | apply elN | apply elD | apply elA)); exact BK307.out) hb); have n5_ := Aside0.mk (blk_below (g := gb313) (o := .cells #[.int .u64 t308, .int .u64 t309, .int .u64 t310, .int .u64 t311] 25 (0, 0)) (by (with_reducible repeat (first | apply elN | apply elD | apply elA)); exact BK313.out) hb); have n6_ := Aside0.mk (below_step (by repeat (first | (with_reducible first | exact HB.out | apply below_alloc | apply pw_below_drewN | apply below_drew1 | refine below_set ?_ GE288.out | refine below_set ?_ GE297.out | refine below_set ?_ GE307.out | refine below_set ?_ GE313.out) | exact HB.out)) hb); clear HO300; clear HO316; clear BK288; clear BK297; clear BK307; clear BK313; clear HB; have HO300 := n0_; have HO316 := n1_; have BK288 := n2_; have BK297 := n3_; have BK307 := n4_; have BK313 := n5_; have HB := n6_; clear n0_ n1_ n2_ n3_ n4_ n5_ n6_; (try clear hb); (try clear hb2); (try clear hk); (try clear hi)))
          go_meet
          case rel => exact ⟨_, (true), (by first | rfl | (simp; done) | (simp [*]; done)), H', ⟨by have := HJ4.out; first | omega | exact Nat.le_refl _⟩, ⟨by (with_reducible repeat (first | apply Kd.V_alloc | apply Kd.V_drewN | apply Kd.V_drew)); exact HO300.out⟩, ⟨by (with_reducible repeat (first | apply elN | apply elD | apply elA)); exact BK288.out⟩, ⟨by (with_reducible repeat (first | apply elN | apply elD | apply elA)); exact BK297.out⟩, ⟨by (with_reducible repeat (first | apply elN | apply elD | apply elA)); exact BK307.out⟩, ⟨by (with_reducible repeat (first | apply elN | apply elD | apply elA)); exact BK313.out⟩, ⟨by repeat (first | (with_reducible first | exact HB.out | apply below_alloc | apply pw_below_drewN | apply below_drew1 | refine below_set ?_ GE288.out | refine below_set ?_ GE297.out | refine below_set ?_ GE307.out | refine below_set ?_ GE313.out) | exact HB.out)⟩⟩
         ·replace c50 := Bool.eq_false_iff.mpr c50
          subst c50
          have H1 : (if (!(t302 == t308) || (!(t303 == t309) || (!(t304 == t310) || (!(t305 == t311))))) = true then (trucelaw16_AcctKeeps.j1 kj4 l0 a1 a2 t298 true a3_0 a3_1 a3_2 a3_3 t292 t293 t294 t295) else (if t317 = 0 then ((truceref16_Same.f kj4 t314 l0).bind fun t319 => (trucelaw16_AcctKeeps.j1 kj4 l0 a1 a2 t298 (!t319) a3_0 a3_1 a3_2 a3_3 t292 t293 t294 t295)) else (trucelaw16_AcctKeeps.j1 kj4 l0 a1 a2 t298 true a3_0 a3_1 a3_2 a3_3 t292 t293 t294 t295))) = some r := by rw [if_neg (show ¬ (false = true) by decide)] at H; exact H
          clear H
          have H := H1
          clear H1
          by_cases c52 : (!(t302 == t308) || (!(t303 == t309) || (!(t304 == t310) || (!(t305 == t311))))) = true
          ·rw [if_pos c52] at H
           have c52b0 : (!(t302 == t308) || (!(t303 == t309) || (!(t304 == t310) || (!(t305 == t311))))) = true := c52
           clear c52
           (first | rw [c52b0] | (simp only [i64_w, i32_w]; rw [c52b0]) | skip)
           have H' := Aside0.mk H
           clear H
           go_wp2_with (first | ((with_reducible refine gate_callee (f := 8) rfl ?_); refine goesL_ (some 73) rfl rfl Try.func8 (by kernel_rfl) rfl #[.slice Ao29 t298.length co29] rfl (by (try simp only [List.map_toArray, List.map_cons, List.map_nil]); first | done | rfl | (simp only [List.length_drop, List.length_take]; rfl)) ?_; (with_reducible refine (truceref16_Fit.calls kj4 _ _ t298 true _ ?side1 ?side2 A47.out).mono ?_); (case side1 => repeat (first | exact (Kd.V_reads' HO300.out).2.2 | (with_reducible refine Kd.C_alloc ?_ _) | (with_reducible refine Kd.C_drewN ?_ _) | (with_reducible refine Kd.C_drew ?_))); (case side2 => exact (Kd.V_reads' HO300.out).2.1); rintro e w53 ⟨rfl, hb⟩; refine ⟨_, rfl, ?_⟩; have n0_ := Aside0.mk (Kd.V_below (by (with_reducible repeat (first | apply Kd.V_alloc | apply Kd.V_drewN | apply Kd.V_drew)); exact HO300.out) hb); have n1_ := Aside0.mk (Kd.V_below (by (with_reducible repeat (first | apply Kd.V_alloc | apply Kd.V_drewN | apply Kd.V_drew)); exact HO316.out) hb); have n2_ := Aside0.mk (blk_below (g := gb288) (o := .cells #[.int .u64 a3_0, .int .u64 a3_1, .int .u64 a3_2, .int .u64 a3_3] 25 (0, 0)) (by (with_reducible repeat (first | apply elN | apply elD | apply elA)); exact BK288.out) hb); have n3_ := Aside0.mk (blk_below (g := gb297) (o := .cells #[.int .u64 t292, .int .u64 t293, .int .u64 t294, .int .u64 t295] 25 (0, 0)) (by (with_reducible repeat (first | apply elN | apply elD | apply elA)); exact BK297.out) hb); have n4_ := Aside0.mk (blk_below (g := gb307) (o := .cells #[.int .u64 t302, .int .u64 t303, .int .u64 t304, .int .u64 t305] 25 (0, 0)) (by (with_reducible repeat (first | apply elN | apply elD | apply elA)); exact BK307.out) hb); have n5_ := Aside0.mk (blk_below (g := gb313) (o := .cells #[.int .u64 t308, .int .u64 t309, .int .u64 t310, .int .u64 t311] 25 (0, 0)) (by (with_reducible repeat (first | apply elN | apply elD | apply elA)); exact BK313.out) hb); have n6_ := Aside0.mk (below_step (by repeat (first | (with_reducible first | exact HB.out | apply below_alloc | apply pw_below_drewN | apply below_drew1 | refine below_set ?_ GE288.out | refine below_set ?_ GE297.out | refine below_set ?_ GE307.out | refine below_set ?_ GE313.out) | exact HB.out)) hb); clear HO300; clear HO316; clear BK288; clear BK297; clear BK307; clear BK313; clear HB; have HO300 := n0_; have HO316 := n1_; have BK288 := n2_; have BK297 := n3_; have BK307 := n4_; have BK313 := n5_; have HB := n6_; clear n0_ n1_ n2_ n3_ n4_ n5_ n6_; (try clear hb); (try clear hb2); (try clear hk); (try clear hi); have hnb54 := NB307_288.out; have hnc54 := NB288_307.out; have hnb55 := NB307_297.out; have hnc55 := NB297_307.out; have hnb56 := NB307_313.out; have hnc56 := NB313_307.out; have hcz57_0 : w53.cell? ⟨gb307, 0, none⟩ = some (.int .u64 t302) := (blk_cell BK307.out 0).trans rfl; have hcz57_1 : w53.cell? ⟨gb307, 1, none⟩ = some (.int .u64 t303) := (blk_cell BK307.out 1).trans rfl; have hcz57_2 : w53.cell? ⟨gb307, 2, none⟩ = some (.int .u64 t304) := (blk_cell BK307.out 2).trans rfl; have hcz57_3 : w53.cell? ⟨gb307, 3, none⟩ = some (.int .u64 t305) := (blk_cell BK307.out 3).trans rfl; have hfz57_0 := blk_frozen BK307.out 0; have hfz57_1 := blk_frozen BK307.out 1; have hfz57_2 := blk_frozen BK307.out 2; have hfz57_3 := blk_frozen BK307.out 3; have hnb58 := NB313_288.out; have hnc58 := NB288_313.out; have hnb59 := NB313_297.out; have hnc59 := NB297_313.out; have hcz60_0 : w53.cell? ⟨gb313, 0, none⟩ = some (.int .u64 t308) := (blk_cell BK313.out 0).trans rfl; have hcz60_1 : w53.cell? ⟨gb313, 1, none⟩ = some (.int .u64 t309) := (blk_cell BK313.out 1).trans rfl; have hcz60_2 : w53.cell? ⟨gb313, 2, none⟩ = some (.int .u64 t310) := (blk_cell BK313.out 2).trans rfl; have hcz60_3 : w53.cell? ⟨gb313, 3, none⟩ = some (.int .u64 t311) := (blk_cell BK313.out 3).trans rfl; have hfz60_0 := blk_frozen BK313.out 0; have hfz60_1 := blk_frozen BK313.out 1; have hfz60_2 := blk_frozen BK313.out 2; have hfz60_3 := blk_frozen BK313.out 3))
           go_meet
           case rel => exact ⟨_, (true), (by first | rfl | (simp; done) | (simp [*]; done)), H', ⟨by have := HJ4.out; first | omega | exact Nat.le_refl _⟩, ⟨by (with_reducible repeat (first | apply Kd.V_alloc | apply Kd.V_drewN | apply Kd.V_drew)); exact HO300.out⟩, ⟨by (with_reducible repeat (first | apply elN | apply elD | apply elA)); exact BK288.out⟩, ⟨by (with_reducible repeat (first | apply elN | apply elD | apply elA)); exact BK297.out⟩, ⟨by (with_reducible repeat (first | apply elN | apply elD | apply elA)); exact BK307.out⟩, ⟨by (with_reducible repeat (first | apply elN | apply elD | apply elA)); exact BK313.out⟩, ⟨by repeat (first | (with_reducible first | exact HB.out | apply below_alloc | apply pw_below_drewN | apply below_drew1 | refine below_set ?_ GE288.out | refine below_set ?_ GE297.out | refine below_set ?_ GE307.out | refine below_set ?_ GE313.out) | exact HB.out)⟩⟩
          ·rw [if_neg c52] at H
           have c52b0 : (!(t302 == t308) || (!(t303 == t309) || (!(t304 == t310) || (!(t305 == t311))))) = false := by simpa using c52
           clear c52
           (first | rw [c52b0] | (simp only [i64_w, i32_w]; rw [c52b0]) | skip)
           by_cases c61 : t317 = 0
           ·rw [if_pos c61] at H
            have c61b0 : (t317 == 0) = true := beq_iff_eq.mpr c61
            have c61b1 : (t317 != 0) = false := bne_eq_false_iff_eq.mpr c61
            clear c61
            replace H := Option.bind_eq_some_iff.mp H
            obtain ⟨t319, A620, H⟩ := H
            replace H : (trucelaw16_AcctKeeps.j1 kj4 l0 a1 a2 t298 (!t319) a3_0 a3_1 a3_2 a3_3 t292 t293 t294 t295) = some r := H
            have A62 := Aside0.mk A620
            clear A620
            have H' := Aside0.mk H
            clear H
            go_wp2_with (first | ((with_reducible refine gate_callee (f := 8) rfl ?_); refine goesL_ (some 73) rfl rfl Try.func8 (by kernel_rfl) rfl #[.slice Ao29 t298.length co29] rfl (by (try simp only [List.map_toArray, List.map_cons, List.map_nil]); first | done | rfl | (simp only [List.length_drop, List.length_take]; rfl)) ?_; (with_reducible refine (truceref16_Fit.calls kj4 _ _ t298 true _ ?side1 ?side2 A47.out).mono ?_); (case side1 => repeat (first | exact (Kd.V_reads' HO300.out).2.2 | (with_reducible refine Kd.C_alloc ?_ _) | (with_reducible refine Kd.C_drewN ?_ _) | (with_reducible refine Kd.C_drew ?_))); (case side2 => exact (Kd.V_reads' HO300.out).2.1); rintro e w63 ⟨rfl, hb⟩; refine ⟨_, rfl, ?_⟩; have n0_ := Aside0.mk (Kd.V_below (by (with_reducible repeat (first | apply Kd.V_alloc | apply Kd.V_drewN | apply Kd.V_drew)); exact HO300.out) hb); have n1_ := Aside0.mk (Kd.V_below (by (with_reducible repeat (first | apply Kd.V_alloc | apply Kd.V_drewN | apply Kd.V_drew)); exact HO316.out) hb); have n2_ := Aside0.mk (blk_below (g := gb288) (o := .cells #[.int .u64 a3_0, .int .u64 a3_1, .int .u64 a3_2, .int .u64 a3_3] 25 (0, 0)) (by (with_reducible repeat (first | apply elN | apply elD | apply elA)); exact BK288.out) hb); have n3_ := Aside0.mk (blk_below (g := gb297) (o := .cells #[.int .u64 t292, .int .u64 t293, .int .u64 t294, .int .u64 t295] 25 (0, 0)) (by (with_reducible repeat (first | apply elN | apply elD | apply elA)); exact BK297.out) hb); have n4_ := Aside0.mk (blk_below (g := gb307) (o := .cells #[.int .u64 t302, .int .u64 t303, .int .u64 t304, .int .u64 t305] 25 (0, 0)) (by (with_reducible repeat (first | apply elN | apply elD | apply elA)); exact BK307.out) hb); have n5_ := Aside0.mk (blk_below (g := gb313) (o := .cells #[.int .u64 t308, .int .u64 t309, .int .u64 t310, .int .u64 t311] 25 (0, 0)) (by (with_reducible repeat (first | apply elN | apply elD | apply elA)); exact BK313.out) hb); have n6_ := Aside0.mk (below_step (by repeat (first | (with_reducible first | exact HB.out | apply below_alloc | apply pw_below_drewN | apply below_drew1 | refine below_set ?_ GE288.out | refine below_set ?_ GE297.out | refine below_set ?_ GE307.out | refine below_set ?_ GE313.out) | exact HB.out)) hb); clear HO300; clear HO316; clear BK288; clear BK297; clear BK307; clear BK313; clear HB; have HO300 := n0_; have HO316 := n1_; have BK288 := n2_; have BK297 := n3_; have BK307 := n4_; have BK313 := n5_; have HB := n6_; clear n0_ n1_ n2_ n3_ n4_ n5_ n6_; (try clear hb); (try clear hb2); (try clear hk); (try clear hi); have hnb64 := NB307_288.out; have hnc64 := NB288_307.out; have hnb65 := NB307_297.out; have hnc65 := NB297_307.out; have hnb66 := NB307_313.out; have hnc66 := NB313_307.out; have hcz67_0 : w63.cell? ⟨gb307, 0, none⟩ = some (.int .u64 t302) := (blk_cell BK307.out 0).trans rfl; have hcz67_1 : w63.cell? ⟨gb307, 1, none⟩ = some (.int .u64 t303) := (blk_cell BK307.out 1).trans rfl; have hcz67_2 : w63.cell? ⟨gb307, 2, none⟩ = some (.int .u64 t304) := (blk_cell BK307.out 2).trans rfl; have hcz67_3 : w63.cell? ⟨gb307, 3, none⟩ = some (.int .u64 t305) := (blk_cell BK307.out 3).trans rfl; have hfz67_0 := blk_frozen BK307.out 0; have hfz67_1 := blk_frozen BK307.out 1; have hfz67_2 := blk_frozen BK307.out 2; have hfz67_3 := blk_frozen BK307.out 3; have hnb68 := NB313_288.out; have hnc68 := NB288_313.out; have hnb69 := NB313_297.out; have hnc69 := NB297_313.out; have hcz70_0 : w63.cell? ⟨gb313, 0, none⟩ = some (.int .u64 t308) := (blk_cell BK313.out 0).trans rfl; have hcz70_1 : w63.cell? ⟨gb313, 1, none⟩ = some (.int .u64 t309) := (blk_cell BK313.out 1).trans rfl; have hcz70_2 : w63.cell? ⟨gb313, 2, none⟩ = some (.int .u64 t310) := (blk_cell BK313.out 2).trans rfl; have hcz70_3 : w63.cell? ⟨gb313, 3, none⟩ = some (.int .u64 t311) := (blk_cell BK313.out 3).trans rfl; have hfz70_0 := blk_frozen BK313.out 0; have hfz70_1 := blk_frozen BK313.out 1; have hfz70_2 := blk_frozen BK313.out 2; have hfz70_3 := blk_frozen BK313.out 3; obtain ⟨Ao71, co71, eo71⟩ := Kd.V_slice HO316.out; subst eo71) | (go_at_call 14; (with_reducible refine (truceref16_Same.calls kj4 _ _ t314 _ _ l0 t319 _ ?side1 ?side2 ?side3 ?side4 A62.out).mono ?_); (case side1 => repeat (first | exact (Kd.V_reads' HO316.out).2.2 | (with_reducible refine Kd.C_alloc ?_ _) | (with_reducible refine Kd.C_drewN ?_ _) | (with_reducible refine Kd.C_drew ?_))); (case side2 => exact (Kd.V_reads' HO316.out).2.1); (case side3 => repeat (first | exact (Kd.C_below HR0.out HB.out) | (with_reducible refine Kd.C_alloc ?_ _) | (with_reducible refine Kd.C_drewN ?_ _) | (with_reducible refine Kd.C_drew ?_))); (case side4 => exact HC0.out); rintro e w' ⟨rfl, ⟨nd, rfl⟩⟩))
            go_meet
            case rel => exact ⟨_, (!t319), (by first | rfl | (simp; done) | (simp [*]; done)), H', ⟨by have := HJ4.out; first | omega | exact Nat.le_refl _⟩, ⟨by (with_reducible repeat (first | apply Kd.V_alloc | apply Kd.V_drewN | apply Kd.V_drew)); exact HO300.out⟩, ⟨by (with_reducible repeat (first | apply elN | apply elD | apply elA)); exact BK288.out⟩, ⟨by (with_reducible repeat (first | apply elN | apply elD | apply elA)); exact BK297.out⟩, ⟨by (with_reducible repeat (first | apply elN | apply elD | apply elA)); exact BK307.out⟩, ⟨by (with_reducible repeat (first | apply elN | apply elD | apply elA)); exact BK313.out⟩, ⟨by repeat (first | (with_reducible first | exact HB.out | apply below_alloc | apply pw_below_drewN | apply below_drew1 | refine below_set ?_ GE288.out | refine below_set ?_ GE297.out | refine below_set ?_ GE307.out | refine below_set ?_ GE313.out) | exact HB.out)⟩⟩
           ·rw [if_neg c61] at H
            have c61b0 : (t317 == 0) = false := beq_eq_false_iff_ne.mpr c61
            have c61b1 : (t317 != 0) = true := bne_iff_ne.mpr c61
            have H' := Aside0.mk H
            clear H
            go_wp2_with (first | ((with_reducible refine gate_callee (f := 8) rfl ?_); refine goesL_ (some 73) rfl rfl Try.func8 (by kernel_rfl) rfl #[.slice Ao29 t298.length co29] rfl (by (try simp only [List.map_toArray, List.map_cons, List.map_nil]); first | done | rfl | (simp only [List.length_drop, List.length_take]; rfl)) ?_; (with_reducible refine (truceref16_Fit.calls kj4 _ _ t298 true _ ?side1 ?side2 A47.out).mono ?_); (case side1 => repeat (first | exact (Kd.V_reads' HO300.out).2.2 | (with_reducible refine Kd.C_alloc ?_ _) | (with_reducible refine Kd.C_drewN ?_ _) | (with_reducible refine Kd.C_drew ?_))); (case side2 => exact (Kd.V_reads' HO300.out).2.1); rintro e w72 ⟨rfl, hb⟩; refine ⟨_, rfl, ?_⟩; have n0_ := Aside0.mk (Kd.V_below (by (with_reducible repeat (first | apply Kd.V_alloc | apply Kd.V_drewN | apply Kd.V_drew)); exact HO300.out) hb); have n1_ := Aside0.mk (Kd.V_below (by (with_reducible repeat (first | apply Kd.V_alloc | apply Kd.V_drewN | apply Kd.V_drew)); exact HO316.out) hb); have n2_ := Aside0.mk (blk_below (g := gb288) (o := .cells #[.int .u64 a3_0, .int .u64 a3_1, .int .u64 a3_2, .int .u64 a3_3] 25 (0, 0)) (by (with_reducible repeat (first | apply elN | apply elD | apply elA)); exact BK288.out) hb); have n3_ := Aside0.mk (blk_below (g := gb297) (o := .cells #[.int .u64 t292, .int .u64 t293, .int .u64 t294, .int .u64 t295] 25 (0, 0)) (by (with_reducible repeat (first | apply elN | apply elD | apply elA)); exact BK297.out) hb); have n4_ := Aside0.mk (blk_below (g := gb307) (o := .cells #[.int .u64 t302, .int .u64 t303, .int .u64 t304, .int .u64 t305] 25 (0, 0)) (by (with_reducible repeat (first | apply elN | apply elD | apply elA)); exact BK307.out) hb); have n5_ := Aside0.mk (blk_below (g := gb313) (o := .cells #[.int .u64 t308, .int .u64 t309, .int .u64 t310, .int .u64 t311] 25 (0, 0)) (by (with_reducible repeat (first | apply elN | apply elD | apply elA)); exact BK313.out) hb); have n6_ := Aside0.mk (below_step (by repeat (first | (with_reducible first | exact HB.out | apply below_alloc | apply pw_below_drewN | apply below_drew1 | refine below_set ?_ GE288.out | refine below_set ?_ GE297.out | refine below_set ?_ GE307.out | refine below_set ?_ GE313.out) | exact HB.out)) hb); clear HO300; clear HO316; clear BK288; clear BK297; clear BK307; clear BK313; clear HB; have HO300 := n0_; have HO316 := n1_; have BK288 := n2_; have BK297 := n3_; have BK307 := n4_; have BK313 := n5_; have HB := n6_; clear n0_ n1_ n2_ n3_ n4_ n5_ n6_; (try clear hb); (try clear hb2); (try clear hk); (try clear hi); have hnb73 := NB307_288.out; have hnc73 := NB288_307.out; have hnb74 := NB307_297.out; have hnc74 := NB297_307.out; have hnb75 := NB307_313.out; have hnc75 := NB313_307.out; have hcz76_0 : w72.cell? ⟨gb307, 0, none⟩ = some (.int .u64 t302) := (blk_cell BK307.out 0).trans rfl; have hcz76_1 : w72.cell? ⟨gb307, 1, none⟩ = some (.int .u64 t303) := (blk_cell BK307.out 1).trans rfl; have hcz76_2 : w72.cell? ⟨gb307, 2, none⟩ = some (.int .u64 t304) := (blk_cell BK307.out 2).trans rfl; have hcz76_3 : w72.cell? ⟨gb307, 3, none⟩ = some (.int .u64 t305) := (blk_cell BK307.out 3).trans rfl; have hfz76_0 := blk_frozen BK307.out 0; have hfz76_1 := blk_frozen BK307.out 1; have hfz76_2 := blk_frozen BK307.out 2; have hfz76_3 := blk_frozen BK307.out 3; have hnb77 := NB313_288.out; have hnc77 := NB288_313.out; have hnb78 := NB313_297.out; have hnc78 := NB297_313.out; have hcz79_0 : w72.cell? ⟨gb313, 0, none⟩ = some (.int .u64 t308) := (blk_cell BK313.out 0).trans rfl; have hcz79_1 : w72.cell? ⟨gb313, 1, none⟩ = some (.int .u64 t309) := (blk_cell BK313.out 1).trans rfl; have hcz79_2 : w72.cell? ⟨gb313, 2, none⟩ = some (.int .u64 t310) := (blk_cell BK313.out 2).trans rfl; have hcz79_3 : w72.cell? ⟨gb313, 3, none⟩ = some (.int .u64 t311) := (blk_cell BK313.out 3).trans rfl; have hfz79_0 := blk_frozen BK313.out 0; have hfz79_1 := blk_frozen BK313.out 1; have hfz79_2 := blk_frozen BK313.out 2; have hfz79_3 := blk_frozen BK313.out 3))
            go_meet
            case rel => exact ⟨_, (true), (by first | rfl | (simp; done) | (simp [*]; done)), H', ⟨by have := HJ4.out; first | omega | exact Nat.le_refl _⟩, ⟨by (with_reducible repeat (first | apply Kd.V_alloc | apply Kd.V_drewN | apply Kd.V_drew)); exact HO300.out⟩, ⟨by (with_reducible repeat (first | apply elN | apply elD | apply elA)); exact BK288.out⟩, ⟨by (with_reducible repeat (first | apply elN | apply elD | apply elA)); exact BK297.out⟩, ⟨by (with_reducible repeat (first | apply elN | apply elD | apply elA)); exact BK307.out⟩, ⟨by (with_reducible repeat (first | apply elN | apply elD | apply elA)); exact BK313.out⟩, ⟨by repeat (first | (with_reducible first | exact HB.out | apply below_alloc | apply pw_below_drewN | apply below_drew1 | refine below_set ?_ GE288.out | refine below_set ?_ GE297.out | refine below_set ?_ GE307.out | refine below_set ?_ GE313.out) | exact HB.out)⟩⟩
        ·replace c49 := Bool.eq_false_iff.mpr c49
         subst c49
         have H1 : (trucelaw16_AcctKeeps.j1 kj4 l0 a1 a2 t298 true a3_0 a3_1 a3_2 a3_3 t292 t293 t294 t295) = some r := by rw [if_neg (show ¬ (false = true) by decide)] at H; exact H
         clear H
         have H := H1
         clear H1
         have H' := Aside0.mk H
         clear H
         go_wp2_with (first | ((with_reducible refine gate_callee (f := 8) rfl ?_); refine goesL_ (some 73) rfl rfl Try.func8 (by kernel_rfl) rfl #[.slice Ao29 t298.length co29] rfl (by (try simp only [List.map_toArray, List.map_cons, List.map_nil]); first | done | rfl | (simp only [List.length_drop, List.length_take]; rfl)) ?_; (with_reducible refine (truceref16_Fit.calls kj4 _ _ t298 true _ ?side1 ?side2 A47.out).mono ?_); (case side1 => repeat (first | exact (Kd.V_reads' HO300.out).2.2 | (with_reducible refine Kd.C_alloc ?_ _) | (with_reducible refine Kd.C_drewN ?_ _) | (with_reducible refine Kd.C_drew ?_))); (case side2 => exact (Kd.V_reads' HO300.out).2.1); rintro e w80 ⟨rfl, hb⟩; refine ⟨_, rfl, ?_⟩; have n0_ := Aside0.mk (Kd.V_below (by (with_reducible repeat (first | apply Kd.V_alloc | apply Kd.V_drewN | apply Kd.V_drew)); exact HO300.out) hb); have n1_ := Aside0.mk (Kd.V_below (by (with_reducible repeat (first | apply Kd.V_alloc | apply Kd.V_drewN | apply Kd.V_drew)); exact HO316.out) hb); have n2_ := Aside0.mk (blk_below (g := gb288) (o := .cells #[.int .u64 a3_0, .int .u64 a3_1, .int .u64 a3_2, .int .u64 a3_3] 25 (0, 0)) (by (with_reducible repeat (first | apply elN | apply elD | apply elA)); exact BK288.out) hb); have n3_ := Aside0.mk (blk_below (g := gb297) (o := .cells #[.int .u64 t292, .int .u64 t293, .int .u64 t294, .int .u64 t295] 25 (0, 0)) (by (with_reducible repeat (first | apply elN | apply elD | apply elA)); exact BK297.out) hb); have n4_ := Aside0.mk (blk_below (g := gb307) (o := .cells #[.int .u64 t302, .int .u64 t303, .int .u64 t304, .int .u64 t305] 25 (0, 0)) (by (with_reducible repeat (first | apply elN | apply elD | apply elA)); exact BK307.out) hb); have n5_ := Aside0.mk (blk_below (g := gb313) (o := .cells #[.int .u64 t308, .int .u64 t309, .int .u64 t310, .int .u64 t311] 25 (0, 0)) (by (with_reducible repeat (first | apply elN | apply elD | apply elA)); exact BK313.out) hb); have n6_ := Aside0.mk (below_step (by repeat (first | (with_reducible first | exact HB.out | apply below_alloc | apply pw_below_drewN | apply below_drew1 | refine below_set ?_ GE288.out | refine below_set ?_ GE297.out | refine below_set ?_ GE307.out | refine below_set ?_ GE313.out) | exact HB.out)) hb); clear HO300; clear HO316; clear BK288; clear BK297; clear BK307; clear BK313; clear HB; have HO300 := n0_; have HO316 := n1_; have BK288 := n2_; have BK297 := n3_; have BK307 := n4_; have BK313 := n5_; have HB := n6_; clear n0_ n1_ n2_ n3_ n4_ n5_ n6_; (try clear hb); (try clear hb2); (try clear hk); (try clear hi)))
         go_meet
         case rel => exact ⟨_, (true), (by first | rfl | (simp; done) | (simp [*]; done)), H', ⟨by have := HJ4.out; first | omega | exact Nat.le_refl _⟩, ⟨by (with_reducible repeat (first | apply Kd.V_alloc | apply Kd.V_drewN | apply Kd.V_drew)); exact HO300.out⟩, ⟨by (with_reducible repeat (first | apply elN | apply elD | apply elA)); exact BK288.out⟩, ⟨by (with_reducible repeat (first | apply elN | apply elD | apply elA)); exact BK297.out⟩, ⟨by (with_reducible repeat (first | apply elN | apply elD | apply elA)); exact BK307.out⟩, ⟨by (with_reducible repeat (first | apply elN | apply elD | apply elA)); exact BK313.out⟩, ⟨by repeat (first | (with_reducible first | exact HB.out | apply below_alloc | apply pw_below_drewN | apply below_drew1 | refine below_set ?_ GE288.out | refine below_set ?_ GE297.out | refine below_set ?_ GE307.out | refine below_set ?_ GE313.out) | exact HB.out)⟩⟩
       ·replace c48 := Bool.eq_false_iff.mpr c48
        subst c48
        have H1 : (trucelaw16_AcctKeeps.j1 kj4 l0 a1 a2 t298 true a3_0 a3_1 a3_2 a3_3 t292 t293 t294 t295) = some r := by rw [if_neg (show ¬ (false = true) by decide)] at H; exact H
        clear H
        have H := H1
        clear H1
        have H' := Aside0.mk H
        clear H
        go_wp2_with (first | ((with_reducible refine gate_callee (f := 8) rfl ?_); refine goesL_ (some 73) rfl rfl Try.func8 (by kernel_rfl) rfl #[.slice Ao29 t298.length co29] rfl (by (try simp only [List.map_toArray, List.map_cons, List.map_nil]); first | done | rfl | (simp only [List.length_drop, List.length_take]; rfl)) ?_; (with_reducible refine (truceref16_Fit.calls kj4 _ _ t298 false _ ?side1 ?side2 A47.out).mono ?_); (case side1 => repeat (first | exact (Kd.V_reads' HO300.out).2.2 | (with_reducible refine Kd.C_alloc ?_ _) | (with_reducible refine Kd.C_drewN ?_ _) | (with_reducible refine Kd.C_drew ?_))); (case side2 => exact (Kd.V_reads' HO300.out).2.1); rintro e w81 ⟨rfl, hb⟩; refine ⟨_, rfl, ?_⟩; have n0_ := Aside0.mk (Kd.V_below (by (with_reducible repeat (first | apply Kd.V_alloc | apply Kd.V_drewN | apply Kd.V_drew)); exact HO300.out) hb); have n1_ := Aside0.mk (Kd.V_below (by (with_reducible repeat (first | apply Kd.V_alloc | apply Kd.V_drewN | apply Kd.V_drew)); exact HO316.out) hb); have n2_ := Aside0.mk (blk_below (g := gb288) (o := .cells #[.int .u64 a3_0, .int .u64 a3_1, .int .u64 a3_2, .int .u64 a3_3] 25 (0, 0)) (by (with_reducible repeat (first | apply elN | apply elD | apply elA)); exact BK288.out) hb); have n3_ := Aside0.mk (blk_below (g := gb297) (o := .cells #[.int .u64 t292, .int .u64 t293, .int .u64 t294, .int .u64 t295] 25 (0, 0)) (by (with_reducible repeat (first | apply elN | apply elD | apply elA)); exact BK297.out) hb); have n4_ := Aside0.mk (blk_below (g := gb307) (o := .cells #[.int .u64 t302, .int .u64 t303, .int .u64 t304, .int .u64 t305] 25 (0, 0)) (by (with_reducible repeat (first | apply elN | apply elD | apply elA)); exact BK307.out) hb); have n5_ := Aside0.mk (blk_below (g := gb313) (o := .cells #[.int .u64 t308, .int .u64 t309, .int .u64 t310, .int .u64 t311] 25 (0, 0)) (by (with_reducible repeat (first | apply elN | apply elD | apply elA)); exact BK313.out) hb); have n6_ := Aside0.mk (below_step (by repeat (first | (with_reducible first | exact HB.out | apply below_alloc | apply pw_below_drewN | apply below_drew1 | refine below_set ?_ GE288.out | refine below_set ?_ GE297.out | refine below_set ?_ GE307.out | refine below_set ?_ GE313.out) | exact HB.out)) hb); clear HO300; clear HO316; clear BK288; clear BK297; clear BK307; clear BK313; clear HB; have HO300 := n0_; have HO316 := n1_; have BK288 := n2_; have BK297 := n3_; have BK307 := n4_; have BK313 := n5_; have HB := n6_; clear n0_ n1_ n2_ n3_ n4_ n5_ n6_; (try clear hb); (try clear hb2); (try clear hk); (try clear hi)))
        go_meet
        case rel => exact ⟨_, (true), (by first | rfl | (simp; done) | (simp [*]; done)), H', ⟨by have := HJ4.out; first | omega | exact Nat.le_refl _⟩, ⟨by (with_reducible repeat (first | apply Kd.V_alloc | apply Kd.V_drewN | apply Kd.V_drew)); exact HO300.out⟩, ⟨by (with_reducible repeat (first | apply elN | apply elD | apply elA)); exact BK288.out⟩, ⟨by (with_reducible repeat (first | apply elN | apply elD | apply elA)); exact BK297.out⟩, ⟨by (with_reducible repeat (first | apply elN | apply elD | apply elA)); exact BK307.out⟩, ⟨by (with_reducible repeat (first | apply elN | apply elD | apply elA)); exact BK313.out⟩, ⟨by repeat (first | (with_reducible first | exact HB.out | apply below_alloc | apply pw_below_drewN | apply below_drew1 | refine below_set ?_ GE288.out | refine below_set ?_ GE297.out | refine below_set ?_ GE307.out | refine below_set ?_ GE313.out) | exact HB.out)⟩⟩
      case rest =>
       clear HC28
       try clear c1
       try clear c2
       try clear p2
       try clear c3
       try clear c4
       try clear c5
       try clear c6
       try clear c7
       try clear c8
       try clear c9
       try clear c10
       try clear c11
       try clear c12
       try clear c15
       try clear c16
       try clear c19
       try clear c24
       try clear c24b0
       try clear c24b1
       try clear c32
       try clear c33
       try clear c35
       try clear c40
       try clear c41
       try clear c42
       try clear c48
       try clear c49
       try clear c50
       try clear c52
       try clear c52b0
       try clear c54
       try clear c55
       try clear c56
       try clear c58
       try clear c59
       try clear c61
       try clear c61b0
       try clear c61b1
       try clear c64
       try clear c65
       try clear c66
       try clear c68
       try clear c69
       try clear c73
       try clear c74
       try clear c75
       try clear c77
       try clear c78
       try clear hcz20_0
       try clear hcz20_1
       try clear hcz20_2
       try clear hcz20_3
       try clear hcz22_0
       try clear hcz22_1
       try clear hcz22_2
       try clear hcz22_3
       try clear hcz34_0
       try clear hcz34_1
       try clear hcz34_2
       try clear hcz34_3
       try clear hcz36_0
       try clear hcz36_1
       try clear hcz36_2
       try clear hcz36_3
       try clear hcz37_0
       try clear hcz37_1
       try clear hcz37_2
       try clear hcz37_3
       try clear hcz43_0
       try clear hcz43_1
       try clear hcz43_2
       try clear hcz43_3
       try clear hcz45_0
       try clear hcz45_1
       try clear hcz45_2
       try clear hcz45_3
       try clear hcz57_0
       try clear hcz57_1
       try clear hcz57_2
       try clear hcz57_3
       try clear hcz60_0
       try clear hcz60_1
       try clear hcz60_2
       try clear hcz60_3
       try clear hcz67_0
       try clear hcz67_1
       try clear hcz67_2
       try clear hcz67_3
       try clear hcz70_0
       try clear hcz70_1
       try clear hcz70_2
       try clear hcz70_3
       try clear hcz76_0
       try clear hcz76_1
       try clear hcz76_2
       try clear hcz76_3
       try clear hcz79_0
       try clear hcz79_1
       try clear hcz79_2
       try clear hcz79_3
       try clear hfz20_0
       try clear hfz20_1
       try clear hfz20_2
       try clear hfz20_3
       try clear hfz22_0
       try clear hfz22_1
       try clear hfz22_2
       try clear hfz22_3
       try clear hfz34_0
       try clear hfz34_1
       try clear hfz34_2
       try clear hfz34_3
       try clear hfz36_0
       try clear hfz36_1
       try clear hfz36_2
       try clear hfz36_3
       try clear hfz37_0
       try clear hfz37_1
       try clear hfz37_2
       try clear hfz37_3
       try clear hfz43_0
       try clear hfz43_1
       try clear hfz43_2
       try clear hfz43_3
       try clear hfz45_0
       try clear hfz45_1
       try clear hfz45_2
       try clear hfz45_3
       try clear hfz57_0
       try clear hfz57_1
       try clear hfz57_2
       try clear hfz57_3
       try clear hfz60_0
       try clear hfz60_1
       try clear hfz60_2
       try clear hfz60_3
       try clear hfz67_0
       try clear hfz67_1
       try clear hfz67_2
       try clear hfz67_3
       try clear hfz70_0
       try clear hfz70_1
       try clear hfz70_2
       try clear hfz70_3
       try clear hfz76_0
       try clear hfz76_1
       try clear hfz76_2
       try clear hfz76_3
       try clear hfz79_0
       try clear hfz79_1
       try clear hfz79_2
       try clear hfz79_3
       try clear p2
       obtain ⟨kq, x96_27, rfl, HA, HJ27, HO_11, BK288, BK297, BK307, BK313, HB⟩ := hcut
       cases kq with
       | zero => exact absurd HA.out (by simp [trucelaw16_AcctKeeps.j1])
       | succ kj27 =>
        have H := HA.out
        clear HA
        simp only [trucelaw16_AcctKeeps.j1] at H
        by_cases c82 : x96_27 = true
        ·subst c82
         have H1 : (some false) = some r := by rw [if_pos rfl] at H; exact H
         clear H
         have H := H1
         clear H1
         exact absurd (hr_.out.symm.trans (Option.some.inj H).symm) (by simp)
        ·replace c82 := Bool.eq_false_iff.mpr c82
         subst c82
         have H1 : (trucelaw16_AcctKeeps.l0 kj27 l0 a1 a2 t298 l0 (l0.length : Int) 0 a3_0 a3_1 a3_2 a3_3 t292 t293 t294 t295) = some r := by rw [if_neg (show ¬ (false = true) by decide)] at H; exact H
         clear H
         have H := H1
         clear H1
         have H' := Aside0.mk H
         clear H
         go_wp2
         go_loopg [99] kj27 (fun kq v99 w' => ∃ (x99_3 : Int), v99 = .int .i64 x99_3 ∧ Aside0 (trucelaw16_AcctKeeps.l0 kq l0 a1 a2 t298 l0 (l0.length : Int) x99_3 a3_0 a3_1 a3_2 a3_3 t292 t293 t294 t295 = some r) ∧ Aside0 (kq ≤ kj27) ∧ Aside0 (Kd.V k39 39 w' w.heap.size (fun k_ => k_ ≠ gb288 ∧ k_ ≠ gb297 ∧ k_ ≠ gb307 ∧ k_ ≠ gb313) (.slice Ao29 t298.length co29) t298) ∧ Aside0 (w'.heap[gb288]? = some (.cells #[.int .u64 a3_0, .int .u64 a3_1, .int .u64 a3_2, .int .u64 a3_3] 25 (0, 0))) ∧ Aside0 (w'.heap[gb297]? = some (.cells #[.int .u64 t292, .int .u64 t293, .int .u64 t294, .int .u64 t295] 25 (0, 0))) ∧ Aside0 (w'.heap[gb307]? = some (.cells #[.int .u64 t302, .int .u64 t303, .int .u64 t304, .int .u64 t305] 25 (0, 0))) ∧ Aside0 (w'.heap[gb313]? = some (.cells #[.int .u64 t308, .int .u64 t309, .int .u64 t310, .int .u64 t311] 25 (0, 0))) ∧ Aside0 (Below w.heap.size w w'))
         case atStart => exact ⟨(0), (by first | rfl | (simp; done) | (simp [*]; done)), H', ⟨Nat.le_refl _⟩, ⟨by (with_reducible repeat (first | apply Kd.V_alloc | apply Kd.V_drewN | apply Kd.V_drew)); exact HO_11.out⟩, ⟨by (with_reducible repeat (first | apply elN | apply elD | apply elA)); exact BK288.out⟩, ⟨by (with_reducible repeat (first | apply elN | apply elD | apply elA)); exact BK297.out⟩, ⟨by (with_reducible repeat (first | apply elN | apply elD | apply elA)); exact BK307.out⟩, ⟨by (with_reducible repeat (first | apply elN | apply elD | apply elA)); exact BK313.out⟩, ⟨by repeat (first | (with_reducible first | exact HB.out | apply below_alloc | apply pw_below_drewN | apply below_drew1 | refine below_set ?_ GE288.out | refine below_set ?_ GE297.out | refine below_set ?_ GE307.out | refine below_set ?_ GE313.out) | exact HB.out)⟩⟩
         case round =>
          clear H'
          try clear c1
          try clear c2
          try clear p2
          try clear c3
          try clear c4
          try clear c5
          try clear c6
          try clear c7
          try clear c8
          try clear c9
          try clear c10
          try clear c11
          try clear c12
          try clear c15
          try clear c16
          try clear c19
          try clear c24
          try clear c24b0
          try clear c24b1
          try clear c32
          try clear c33
          try clear c35
          try clear c40
          try clear c41
          try clear c42
          try clear c48
          try clear c49
          try clear c50
          try clear c52
          try clear c52b0
          try clear c54
          try clear c55
          try clear c56
          try clear c58
          try clear c59
          try clear c61
          try clear c61b0
          try clear c61b1
          try clear c64
          try clear c65
          try clear c66
          try clear c68
          try clear c69
          try clear c73
          try clear c74
          try clear c75
          try clear c77
          try clear c78
          try clear c82
          try clear hcz20_0
          try clear hcz20_1
          try clear hcz20_2
          try clear hcz20_3
          try clear hcz22_0
          try clear hcz22_1
          try clear hcz22_2
          try clear hcz22_3
          try clear hcz34_0
          try clear hcz34_1
          try clear hcz34_2
          try clear hcz34_3
          try clear hcz36_0
          try clear hcz36_1
          try clear hcz36_2
          try clear hcz36_3
          try clear hcz37_0
          try clear hcz37_1
          try clear hcz37_2
          try clear hcz37_3
          try clear hcz43_0
          try clear hcz43_1
          try clear hcz43_2
          try clear hcz43_3
          try clear hcz45_0
          try clear hcz45_1
          try clear hcz45_2
          try clear hcz45_3
          try clear hcz57_0
          try clear hcz57_1
          try clear hcz57_2
          try clear hcz57_3
          try clear hcz60_0
          try clear hcz60_1
          try clear hcz60_2
          try clear hcz60_3
          try clear hcz67_0
          try clear hcz67_1
          try clear hcz67_2
          try clear hcz67_3
          try clear hcz70_0
          try clear hcz70_1
          try clear hcz70_2
          try clear hcz70_3
          try clear hcz76_0
          try clear hcz76_1
          try clear hcz76_2
          try clear hcz76_3
          try clear hcz79_0
          try clear hcz79_1
          try clear hcz79_2
          try clear hcz79_3
          try clear hfz20_0
          try clear hfz20_1
          try clear hfz20_2
          try clear hfz20_3
          try clear hfz22_0
          try clear hfz22_1
          try clear hfz22_2
          try clear hfz22_3
          try clear hfz34_0
          try clear hfz34_1
          try clear hfz34_2
          try clear hfz34_3
          try clear hfz36_0
          try clear hfz36_1
          try clear hfz36_2
          try clear hfz36_3
          try clear hfz37_0
          try clear hfz37_1
          try clear hfz37_2
          try clear hfz37_3
          try clear hfz43_0
          try clear hfz43_1
          try clear hfz43_2
          try clear hfz43_3
          try clear hfz45_0
          try clear hfz45_1
          try clear hfz45_2
          try clear hfz45_3
          try clear hfz57_0
          try clear hfz57_1
          try clear hfz57_2
          try clear hfz57_3
          try clear hfz60_0
          try clear hfz60_1
          try clear hfz60_2
          try clear hfz60_3
          try clear hfz67_0
          try clear hfz67_1
          try clear hfz67_2
          try clear hfz67_3
          try clear hfz70_0
          try clear hfz70_1
          try clear hfz70_2
          try clear hfz70_3
          try clear hfz76_0
          try clear hfz76_1
          try clear hfz76_2
          try clear hfz76_3
          try clear hfz79_0
          try clear hfz79_1
          try clear hfz79_2
          try clear hfz79_3
          try clear p2
          obtain ⟨x99_3, rfl, HA, HK3, HO_11, BK288, BK297, BK307, BK313, HB⟩ := hrel
          cases gk with
          | zero => exact absurd HA.out (by simp [trucelaw16_AcctKeeps.l0])
          | succ k3 =>
           have H := HA.out
           clear HA
           simp only [trucelaw16_AcctKeeps.l0] at H
           by_cases c83 : x99_3 < (l0.length : Int)
           ·rw [if_pos c83] at H
            have c83b0 : decide (x99_3 < (l0.length : Int)) = true := decide_eq_true c83
            clear c83
            by_cases c84 : 0 ≤ x99_3
            ·rw [if_pos c84] at H
             have c84b0 : decide (0 ≤ x99_3) = true := decide_eq_true c84
             clear c84
             by_cases c85 : x99_3 < (l0.length : Int)
             ·rw [if_pos c85] at H
              have c85b0 : decide (x99_3 < (l0.length : Int)) = true := decide_eq_true c85
              clear c85
              by_cases c86 : ((rd_T39 l0 x99_3).f0).toList = a1.toList
              ·rw [if_pos c86] at H
               have c86b0 : (((rd_T39 l0 x99_3).f0).toList == a1.toList) = true := beq_iff_eq.mpr c86
               have c86b1 : (((rd_T39 l0 x99_3).f0).toList != a1.toList) = false := bne_eq_false_iff_eq.mpr c86
               clear c86
               by_cases c87 : ((rd_T39 l0 x99_3).f1).toList = a2.toList
               ·rw [if_pos c87] at H
                have c87b0 : (((rd_T39 l0 x99_3).f1).toList == a2.toList) = true := beq_iff_eq.mpr c87
                have c87b1 : (((rd_T39 l0 x99_3).f1).toList != a2.toList) = false := bne_eq_false_iff_eq.mpr c87
                clear c87
                have H' := Aside0.mk H
                clear H
                have p320 : 0 ≤ (x99_3 : Int) := of_decide_eq_true (by first | (with_reducible assumption) | assumption)
                have q320 : x99_3 < (l0.length : Int) := of_decide_eq_true (by first | (with_reducible assumption) | assumption)
                obtain ⟨ad320, e320, hx320_0, hx320_1, hx320_2, hx320_3, hx320_4, hx320_5⟩ := at_T39 HR0.out x99_3 p320 q320
                cases e320
                replace hx320_0 := (HB.out.cell (World.block_lt_of_cell? w _ hx320_0)).trans hx320_0
                replace hx320_1 := (HB.out.cell (World.block_lt_of_cell? w _ hx320_1)).trans hx320_1
                replace hx320_2 := (HB.out.cell (World.block_lt_of_cell? w _ hx320_2)).trans hx320_2
                replace hx320_3 := (HB.out.cell (World.block_lt_of_cell? w _ hx320_3)).trans hx320_3
                replace hx320_4 := (HB.out.cell (World.block_lt_of_cell? w _ hx320_4)).trans hx320_4
                replace hx320_5 := (HB.out.cell (World.block_lt_of_cell? w _ hx320_5)).trans hx320_5
                replace p320 := eq_true p320
                replace q320 := eq_true q320
                try go_wp2_with (first | ((with_reducible refine gate_dst (N := 20) rfl ?_); refine box_event ?hg (N := 20) ?hd (cs := #[.string (⟨#[]⟩ : ByteArray), .string (⟨#[]⟩ : ByteArray), .int .u64 0, .int .u64 0, .int .u64 0, .int .u64 0]) (t := 39) ?hr ?_; (case hd => rfl); (case hg => rfl); (case hr => first | (go_simp; done) | (go_simp; rfl)); intro gb321 hg w88 hbox hb; have n0_ := Aside0.mk (Kd.V_below (Kd.V_elderB (by (with_reducible repeat (first | apply Kd.V_alloc | apply Kd.V_drewN | apply Kd.V_drew)); exact HO_11.out) gb321 (Nat.le_of_eq hg.symm)) hb); have n1_ := Aside0.mk (blk_below (g := gb288) (o := .cells #[.int .u64 a3_0, .int .u64 a3_1, .int .u64 a3_2, .int .u64 a3_3] 25 (0, 0)) (by (with_reducible repeat (first | apply elN | apply elD | apply elA)); exact BK288.out) hb); have n2_ := Aside0.mk (blk_below (g := gb297) (o := .cells #[.int .u64 t292, .int .u64 t293, .int .u64 t294, .int .u64 t295] 25 (0, 0)) (by (with_reducible repeat (first | apply elN | apply elD | apply elA)); exact BK297.out) hb); have n3_ := Aside0.mk (blk_below (g := gb307) (o := .cells #[.int .u64 t302, .int .u64 t303, .int .u64 t304, .int .u64 t305] 25 (0, 0)) (by (with_reducible repeat (first | apply elN | apply elD | apply elA)); exact BK307.out) hb); have n4_ := Aside0.mk (blk_below (g := gb313) (o := .cells #[.int .u64 t308, .int .u64 t309, .int .u64 t310, .int .u64 t311] 25 (0, 0)) (by (with_reducible repeat (first | apply elN | apply elD | apply elA)); exact BK313.out) hb); have n5_ := Aside0.mk (below_step (by repeat (first | (with_reducible first | exact HB.out | apply below_alloc | apply pw_below_drewN | apply below_drew1 | refine below_set ?_ GE288.out | refine below_set ?_ GE297.out | refine below_set ?_ GE307.out | refine below_set ?_ GE313.out) | exact HB.out)) hb); have n6_ := Aside0.mk (hbox); have n7_ := Aside0.mk ((by rw [hg]; exact (below_size (by repeat (first | (with_reducible first | exact HB.out | apply below_alloc | apply pw_below_drewN | apply below_drew1 | refine below_set ?_ GE288.out | refine below_set ?_ GE297.out | refine below_set ?_ GE307.out | refine below_set ?_ GE313.out) | exact HB.out))) : w.heap.size ≤ gb321)); have n8_ := Aside0.mk ((by rw [hg]; exact (below_size (by repeat (first | (with_reducible first | exact HB.out | apply below_alloc | apply pw_below_drewN | apply below_drew1 | refine below_set ?_ GE288.out | refine below_set ?_ GE297.out | refine below_set ?_ GE307.out | refine below_set ?_ GE313.out) | exact HB.out))) : w.heap.size ≤ gb321)); have n9_ := Aside0.mk ((by rw [hg]; exact Nat.ne_of_lt (blk_lt (g := gb288) (o := .cells #[.int .u64 a3_0, .int .u64 a3_1, .int .u64 a3_2, .int .u64 a3_3] 25 (0, 0)) (by (with_reducible repeat (first | apply elN | apply elD | apply elA)); exact BK288.out)) : gb288 ≠ gb321)); have n10_ := Aside0.mk ((by rw [hg]; exact Nat.ne_of_gt (blk_lt (g := gb288) (o := .cells #[.int .u64 a3_0, .int .u64 a3_1, .int .u64 a3_2, .int .u64 a3_3] 25 (0, 0)) (by (with_reducible repeat (first | apply elN | apply elD | apply elA)); exact BK288.out)) : gb321 ≠ gb288)); have n11_ := Aside0.mk ((by rw [hg]; exact Nat.ne_of_lt (blk_lt (g := gb297) (o := .cells #[.int .u64 t292, .int .u64 t293, .int .u64 t294, .int .u64 t295] 25 (0, 0)) (by (with_reducible repeat (first | apply elN | apply elD | apply elA)); exact BK297.out)) : gb297 ≠ gb321)); have n12_ := Aside0.mk ((by rw [hg]; exact Nat.ne_of_gt (blk_lt (g := gb297) (o := .cells #[.int .u64 t292, .int .u64 t293, .int .u64 t294, .int .u64 t295] 25 (0, 0)) (by (with_reducible repeat (first | apply elN | apply elD | apply elA)); exact BK297.out)) : gb321 ≠ gb297)); have n13_ := Aside0.mk ((by rw [hg]; exact Nat.ne_of_lt (blk_lt (g := gb307) (o := .cells #[.int .u64 t302, .int .u64 t303, .int .u64 t304, .int .u64 t305] 25 (0, 0)) (by (with_reducible repeat (first | apply elN | apply elD | apply elA)); exact BK307.out)) : gb307 ≠ gb321)); have n14_ := Aside0.mk ((by rw [hg]; exact Nat.ne_of_gt (blk_lt (g := gb307) (o := .cells #[.int .u64 t302, .int .u64 t303, .int .u64 t304, .int .u64 t305] 25 (0, 0)) (by (with_reducible repeat (first | apply elN | apply elD | apply elA)); exact BK307.out)) : gb321 ≠ gb307)); have n15_ := Aside0.mk ((by rw [hg]; exact Nat.ne_of_lt (blk_lt (g := gb313) (o := .cells #[.int .u64 t308, .int .u64 t309, .int .u64 t310, .int .u64 t311] 25 (0, 0)) (by (with_reducible repeat (first | apply elN | apply elD | apply elA)); exact BK313.out)) : gb313 ≠ gb321)); have n16_ := Aside0.mk ((by rw [hg]; exact Nat.ne_of_gt (blk_lt (g := gb313) (o := .cells #[.int .u64 t308, .int .u64 t309, .int .u64 t310, .int .u64 t311] 25 (0, 0)) (by (with_reducible repeat (first | apply elN | apply elD | apply elA)); exact BK313.out)) : gb321 ≠ gb313)); clear HO_11; clear BK288; clear BK297; clear BK307; clear BK313; clear HB; have HO_11 := n0_; have BK288 := n1_; have BK297 := n2_; have BK307 := n3_; have BK313 := n4_; have HB := n5_; have BK321 := n6_; have GW321 := n7_; have GE321 := n8_; have NB288_321 := n9_; have NB321_288 := n10_; have NB297_321 := n11_; have NB321_297 := n12_; have NB307_321 := n13_; have NB321_307 := n14_; have NB313_321 := n15_; have NB321_313 := n16_; clear n0_ n1_ n2_ n3_ n4_ n5_ n6_ n7_ n8_ n9_ n10_ n11_ n12_ n13_ n14_ n15_ n16_; clear hb hbox hg; have hnb89 := NB321_288.out; have hnc89 := NB288_321.out; have hnb90 := NB321_297.out; have hnc90 := NB297_321.out; have hnb91 := NB321_307.out; have hnc91 := NB307_321.out; have hnb92 := NB321_313.out; have hnc92 := NB313_321.out; have hcz93_0 : w88.cell? ⟨gb321, 0, none⟩ = some (.string (⟨#[]⟩ : ByteArray)) := (blk_cell BK321.out 0).trans rfl; have hcz93_1 : w88.cell? ⟨gb321, 1, none⟩ = some (.string (⟨#[]⟩ : ByteArray)) := (blk_cell BK321.out 1).trans rfl; have hcz93_2 : w88.cell? ⟨gb321, 2, none⟩ = some (.int .u64 0) := (blk_cell BK321.out 2).trans rfl; have hcz93_3 : w88.cell? ⟨gb321, 3, none⟩ = some (.int .u64 0) := (blk_cell BK321.out 3).trans rfl; have hcz93_4 : w88.cell? ⟨gb321, 4, none⟩ = some (.int .u64 0) := (blk_cell BK321.out 4).trans rfl; have hcz93_5 : w88.cell? ⟨gb321, 5, none⟩ = some (.int .u64 0) := (blk_cell BK321.out 5).trans rfl; have hfz93_0 := blk_frozen BK321.out 0; have hfz93_1 := blk_frozen BK321.out 1; have hfz93_2 := blk_frozen BK321.out 2; have hfz93_3 := blk_frozen BK321.out 3; have hfz93_4 := blk_frozen BK321.out 4; have hfz93_5 := blk_frozen BK321.out 5))
                have n0_ : Aside0 (Kd.V k39 39 ((((((w88.setCell ⟨gb321, 0, none⟩ (.string ((rd_T39 l0 x99_3).f0))).setCell ⟨gb321, 1, none⟩ (.string ((rd_T39 l0 x99_3).f1))).setCell ⟨gb321, 2, none⟩ (.int .u64 ((rd_T39 l0 x99_3).f2.f0))).setCell ⟨gb321, 3, none⟩ (.int .u64 ((rd_T39 l0 x99_3).f2.f1))).setCell ⟨gb321, 4, none⟩ (.int .u64 ((rd_T39 l0 x99_3).f2.f2))).setCell ⟨gb321, 5, none⟩ (.int .u64 ((rd_T39 l0 x99_3).f2.f3))) w.heap.size (fun k_ => k_ ≠ gb288 ∧ k_ ≠ gb297 ∧ k_ ≠ gb307 ∧ k_ ≠ gb313 ∧ k_ ≠ gb321) (.slice Ao29 t298.length co29) t298) := ⟨by (with_reducible repeat (first | apply Kd.V_alloc | apply Kd.V_drewN | apply Kd.V_drew)); exact Kd.V_mono (Kd.V_far (p := ⟨gb321, 5, none⟩) (Kd.V_far (p := ⟨gb321, 4, none⟩) (Kd.V_far (p := ⟨gb321, 3, none⟩) (Kd.V_far (p := ⟨gb321, 2, none⟩) (Kd.V_far (p := ⟨gb321, 1, none⟩) (Kd.V_far (p := ⟨gb321, 0, none⟩) (Kd.V_mono HO_11.out (fun k_ hk => (⟨hk, hk.2⟩ : _ ∧ k_ ≠ gb321))) (fun _ hk => hk.2) (.string ((rd_T39 l0 x99_3).f0))) (fun _ hk => hk.2) (.string ((rd_T39 l0 x99_3).f1))) (fun _ hk => hk.2) (.int .u64 ((rd_T39 l0 x99_3).f2.f0))) (fun _ hk => hk.2) (.int .u64 ((rd_T39 l0 x99_3).f2.f1))) (fun _ hk => hk.2) (.int .u64 ((rd_T39 l0 x99_3).f2.f2))) (fun _ hk => hk.2) (.int .u64 ((rd_T39 l0 x99_3).f2.f3))) (fun _ hk => ⟨hk.1.1.1, ⟨hk.1.1.2.1, ⟨hk.1.1.2.2.1, ⟨hk.1.1.2.2.2, hk.1.2⟩⟩⟩⟩)⟩
                have n1_ : Aside0 (((((((w88.setCell ⟨gb321, 0, none⟩ (.string ((rd_T39 l0 x99_3).f0))).setCell ⟨gb321, 1, none⟩ (.string ((rd_T39 l0 x99_3).f1))).setCell ⟨gb321, 2, none⟩ (.int .u64 ((rd_T39 l0 x99_3).f2.f0))).setCell ⟨gb321, 3, none⟩ (.int .u64 ((rd_T39 l0 x99_3).f2.f1))).setCell ⟨gb321, 4, none⟩ (.int .u64 ((rd_T39 l0 x99_3).f2.f2))).setCell ⟨gb321, 5, none⟩ (.int .u64 ((rd_T39 l0 x99_3).f2.f3))).heap[gb288]? = some (.cells #[.int .u64 a3_0, .int .u64 a3_1, .int .u64 a3_2, .int .u64 a3_3] 25 (0, 0))) := ⟨by (with_reducible repeat (first | apply elN | apply elD | apply elA)); refine blk_far ?_ NB288_321.out _; (with_reducible repeat (first | apply elN | apply elD | apply elA)); refine blk_far ?_ NB288_321.out _; (with_reducible repeat (first | apply elN | apply elD | apply elA)); refine blk_far ?_ NB288_321.out _; (with_reducible repeat (first | apply elN | apply elD | apply elA)); refine blk_far ?_ NB288_321.out _; (with_reducible repeat (first | apply elN | apply elD | apply elA)); refine blk_far ?_ NB288_321.out _; (with_reducible repeat (first | apply elN | apply elD | apply elA)); refine blk_far ?_ NB288_321.out _; (with_reducible repeat (first | apply elN | apply elD | apply elA)); exact BK288.out⟩
                have n2_ : Aside0 (((((((w88.setCell ⟨gb321, 0, none⟩ (.string ((rd_T39 l0 x99_3).f0))).setCell ⟨gb321, 1, none⟩ (.string ((rd_T39 l0 x99_3).f1))).setCell ⟨gb321, 2, none⟩ (.int .u64 ((rd_T39 l0 x99_3).f2.f0))).setCell ⟨gb321, 3, none⟩ (.int .u64 ((rd_T39 l0 x99_3).f2.f1))).setCell ⟨gb321, 4, none⟩ (.int .u64 ((rd_T39 l0 x99_3).f2.f2))).setCell ⟨gb321, 5, none⟩ (.int .u64 ((rd_T39 l0 x99_3).f2.f3))).heap[gb297]? = some (.cells #[.int .u64 t292, .int .u64 t293, .int .u64 t294, .int .u64 t295] 25 (0, 0))) := ⟨by (with_reducible repeat (first | apply elN | apply elD | apply elA)); refine blk_far ?_ NB297_321.out _; (with_reducible repeat (first | apply elN | apply elD | apply elA)); refine blk_far ?_ NB297_321.out _; (with_reducible repeat (first | apply elN | apply elD | apply elA)); refine blk_far ?_ NB297_321.out _; (with_reducible repeat (first | apply elN | apply elD | apply elA)); refine blk_far ?_ NB297_321.out _; (with_reducible repeat (first | apply elN | apply elD | apply elA)); refine blk_far ?_ NB297_321.out _; (with_reducible repeat (first | apply elN | apply elD | apply elA)); refine blk_far ?_ NB297_321.out _; (with_reducible repeat (first | apply elN | apply elD | apply elA)); exact BK297.out⟩
                have n3_ : Aside0 (((((((w88.setCell ⟨gb321, 0, none⟩ (.string ((rd_T39 l0 x99_3).f0))).setCell ⟨gb321, 1, none⟩ (.string ((rd_T39 l0 x99_3).f1))).setCell ⟨gb321, 2, none⟩ (.int .u64 ((rd_T39 l0 x99_3).f2.f0))).setCell ⟨gb321, 3, none⟩ (.int .u64 ((rd_T39 l0 x99_3).f2.f1))).setCell ⟨gb321, 4, none⟩ (.int .u64 ((rd_T39 l0 x99_3).f2.f2))).setCell ⟨gb321, 5, none⟩ (.int .u64 ((rd_T39 l0 x99_3).f2.f3))).heap[gb307]? = some (.cells #[.int .u64 t302, .int .u64 t303, .int .u64 t304, .int .u64 t305] 25 (0, 0))) := ⟨by (with_reducible repeat (first | apply elN | apply elD | apply elA)); refine blk_far ?_ NB307_321.out _; (with_reducible repeat (first | apply elN | apply elD | apply elA)); refine blk_far ?_ NB307_321.out _; (with_reducible repeat (first | apply elN | apply elD | apply elA)); refine blk_far ?_ NB307_321.out _; (with_reducible repeat (first | apply elN | apply elD | apply elA)); refine blk_far ?_ NB307_321.out _; (with_reducible repeat (first | apply elN | apply elD | apply elA)); refine blk_far ?_ NB307_321.out _; (with_reducible repeat (first | apply elN | apply elD | apply elA)); refine blk_far ?_ NB307_321.out _; (with_reducible repeat (first | apply elN | apply elD | apply elA)); exact BK307.out⟩
                have n4_ : Aside0 (((((((w88.setCell ⟨gb321, 0, none⟩ (.string ((rd_T39 l0 x99_3).f0))).setCell ⟨gb321, 1, none⟩ (.string ((rd_T39 l0 x99_3).f1))).setCell ⟨gb321, 2, none⟩ (.int .u64 ((rd_T39 l0 x99_3).f2.f0))).setCell ⟨gb321, 3, none⟩ (.int .u64 ((rd_T39 l0 x99_3).f2.f1))).setCell ⟨gb321, 4, none⟩ (.int .u64 ((rd_T39 l0 x99_3).f2.f2))).setCell ⟨gb321, 5, none⟩ (.int .u64 ((rd_T39 l0 x99_3).f2.f3))).heap[gb313]? = some (.cells #[.int .u64 t308, .int .u64 t309, .int .u64 t310, .int .u64 t311] 25 (0, 0))) := ⟨by (with_reducible repeat (first | apply elN | apply elD | apply elA)); refine blk_far ?_ NB313_321.out _; (with_reducible repeat (first | apply elN | apply elD | apply elA)); refine blk_far ?_ NB313_321.out _; (with_reducible repeat (first | apply elN | apply elD | apply elA)); refine blk_far ?_ NB313_321.out _; (with_reducible repeat (first | apply elN | apply elD | apply elA)); refine blk_far ?_ NB313_321.out _; (with_reducible repeat (first | apply elN | apply elD | apply elA)); refine blk_far ?_ NB313_321.out _; (with_reducible repeat (first | apply elN | apply elD | apply elA)); refine blk_far ?_ NB313_321.out _; (with_reducible repeat (first | apply elN | apply elD | apply elA)); exact BK313.out⟩
                have n5_ : Aside0 (((((((w88.setCell ⟨gb321, 0, none⟩ (.string ((rd_T39 l0 x99_3).f0))).setCell ⟨gb321, 1, none⟩ (.string ((rd_T39 l0 x99_3).f1))).setCell ⟨gb321, 2, none⟩ (.int .u64 ((rd_T39 l0 x99_3).f2.f0))).setCell ⟨gb321, 3, none⟩ (.int .u64 ((rd_T39 l0 x99_3).f2.f1))).setCell ⟨gb321, 4, none⟩ (.int .u64 ((rd_T39 l0 x99_3).f2.f2))).setCell ⟨gb321, 5, none⟩ (.int .u64 ((rd_T39 l0 x99_3).f2.f3))).heap[gb321]? = some (.cells #[.string ((rd_T39 l0 x99_3).f0), .string ((rd_T39 l0 x99_3).f1), .int .u64 ((rd_T39 l0 x99_3).f2.f0), .int .u64 ((rd_T39 l0 x99_3).f2.f1), .int .u64 ((rd_T39 l0 x99_3).f2.f2), .int .u64 ((rd_T39 l0 x99_3).f2.f3)] 39 (0, 0))) := ⟨by (with_reducible repeat (first | apply elN | apply elD | apply elA)); refine blk_put (cs := #[.string ((rd_T39 l0 x99_3).f0), .string ((rd_T39 l0 x99_3).f1), .int .u64 ((rd_T39 l0 x99_3).f2.f0), .int .u64 ((rd_T39 l0 x99_3).f2.f1), .int .u64 ((rd_T39 l0 x99_3).f2.f2), .int .u64 0]) ?_ 5 _ rfl; (with_reducible repeat (first | apply elN | apply elD | apply elA)); refine blk_put (cs := #[.string ((rd_T39 l0 x99_3).f0), .string ((rd_T39 l0 x99_3).f1), .int .u64 ((rd_T39 l0 x99_3).f2.f0), .int .u64 ((rd_T39 l0 x99_3).f2.f1), .int .u64 0, .int .u64 0]) ?_ 4 _ rfl; (with_reducible repeat (first | apply elN | apply elD | apply elA)); refine blk_put (cs := #[.string ((rd_T39 l0 x99_3).f0), .string ((rd_T39 l0 x99_3).f1), .int .u64 ((rd_T39 l0 x99_3).f2.f0), .int .u64 0, .int .u64 0, .int .u64 0]) ?_ 3 _ rfl; (with_reducible repeat (first | apply elN | apply elD | apply elA)); refine blk_put (cs := #[.string ((rd_T39 l0 x99_3).f0), .string ((rd_T39 l0 x99_3).f1), .int .u64 0, .int .u64 0, .int .u64 0, .int .u64 0]) ?_ 2 _ rfl; (with_reducible repeat (first | apply elN | apply elD | apply elA)); refine blk_put (cs := #[.string ((rd_T39 l0 x99_3).f0), .string (⟨#[]⟩ : ByteArray), .int .u64 0, .int .u64 0, .int .u64 0, .int .u64 0]) ?_ 1 _ rfl; (with_reducible repeat (first | apply elN | apply elD | apply elA)); refine blk_put (cs := #[.string (⟨#[]⟩ : ByteArray), .string (⟨#[]⟩ : ByteArray), .int .u64 0, .int .u64 0, .int .u64 0, .int .u64 0]) ?_ 0 _ rfl; (with_reducible repeat (first | apply elN | apply elD | apply elA)); exact BK321.out⟩
                have n6_ : Aside0 (Below w.heap.size w ((((((w88.setCell ⟨gb321, 0, none⟩ (.string ((rd_T39 l0 x99_3).f0))).setCell ⟨gb321, 1, none⟩ (.string ((rd_T39 l0 x99_3).f1))).setCell ⟨gb321, 2, none⟩ (.int .u64 ((rd_T39 l0 x99_3).f2.f0))).setCell ⟨gb321, 3, none⟩ (.int .u64 ((rd_T39 l0 x99_3).f2.f1))).setCell ⟨gb321, 4, none⟩ (.int .u64 ((rd_T39 l0 x99_3).f2.f2))).setCell ⟨gb321, 5, none⟩ (.int .u64 ((rd_T39 l0 x99_3).f2.f3)))) := ⟨by repeat (first | (with_reducible first | exact HB.out | apply below_alloc | apply pw_below_drewN | apply below_drew1 | refine below_set ?_ GE288.out | refine below_set ?_ GE297.out | refine below_set ?_ GE307.out | refine below_set ?_ GE313.out | refine below_set ?_ GE321.out) | exact HB.out)⟩
                (try clear HO_11)
                (try clear BK288)
                (try clear BK297)
                (try clear BK307)
                (try clear BK313)
                (try clear BK321)
                (try clear HB)
                generalize ((((((w88.setCell ⟨gb321, 0, none⟩ (.string ((rd_T39 l0 x99_3).f0))).setCell ⟨gb321, 1, none⟩ (.string ((rd_T39 l0 x99_3).f1))).setCell ⟨gb321, 2, none⟩ (.int .u64 ((rd_T39 l0 x99_3).f2.f0))).setCell ⟨gb321, 3, none⟩ (.int .u64 ((rd_T39 l0 x99_3).f2.f1))).setCell ⟨gb321, 4, none⟩ (.int .u64 ((rd_T39 l0 x99_3).f2.f2))).setCell ⟨gb321, 5, none⟩ (.int .u64 ((rd_T39 l0 x99_3).f2.f3))) = w94 at n0_ n1_ n2_ n3_ n4_ n5_ n6_ ⊢
                have HO_11 := n0_
                have BK288 := n1_
                have BK297 := n2_
                have BK307 := n3_
                have BK313 := n4_
                have BK321 := n5_
                have HB := n6_
                clear n0_ n1_ n2_ n3_ n4_ n5_ n6_
                have n0_ := Aside0.mk (Kd.V_drew HO_11.out)
                have n1_ := Aside0.mk (blk_drew BK288.out)
                have n2_ := Aside0.mk (blk_drew BK297.out)
                have n3_ := Aside0.mk (blk_drew BK307.out)
                have n4_ := Aside0.mk (blk_drew BK313.out)
                have n5_ := Aside0.mk (blk_drew BK321.out)
                have n6_ := Aside0.mk (below_drew1 HB.out)
                clear HO_11
                clear BK288
                clear BK297
                clear BK307
                clear BK313
                clear BK321
                clear HB
                have HO_11 := n0_
                have BK288 := n1_
                have BK297 := n2_
                have BK307 := n3_
                have BK313 := n4_
                have BK321 := n5_
                have HB := n6_
                clear n0_ n1_ n2_ n3_ n4_ n5_ n6_
                refine start_ (n := 21) (S := fun w' => w'.cell? ⟨gb321, 0, none⟩ = some (.string ((rd_T39 l0 x99_3).f0)) ∧ w'.cell? ⟨gb321, 1, none⟩ = some (.string ((rd_T39 l0 x99_3).f1)) ∧ w'.cell? ⟨gb321, 2, none⟩ = some (.int .u64 ((rd_T39 l0 x99_3).f2.f0)) ∧ w'.cell? ⟨gb321, 3, none⟩ = some (.int .u64 ((rd_T39 l0 x99_3).f2.f1)) ∧ w'.cell? ⟨gb321, 4, none⟩ = some (.int .u64 ((rd_T39 l0 x99_3).f2.f2)) ∧ w'.cell? ⟨gb321, 5, none⟩ = some (.int .u64 ((rd_T39 l0 x99_3).f2.f3))) (ds := []) eT0 (by kernel_rfl) rfl rfl ⟨(blk_cell BK321.out 0).trans rfl, (blk_cell BK321.out 1).trans rfl, (blk_cell BK321.out 2).trans rfl, (blk_cell BK321.out 3).trans rfl, (blk_cell BK321.out 4).trans rfl, (blk_cell BK321.out 5).trans rfl⟩ (fun hHeld => ?_); refine with_tabW trucelaw16_AcctKeeps.tab14 trucelaw16_AcctKeeps.bits14 (fun HT_ HW_ => ?_)
                generalize w94.drew = w95 at HO_11 BK288 BK297 BK307 BK313 BK321 HB hHeld ⊢
                refine pure_ (i := 0) (N := some 103) (v := ?_) (a' := ?_) eT1 rfl rfl (any_of HT_.out (by kernel_rfl)) (fun _ _ _ h => h) (Or.inl ⟨by rfl, ?_⟩) ?_ ?_
                rotate_left
                ·intro w'
                 go_simp
                 with_reducible rfl
                rotate_left
                ·simp only [Act.put, List.setIfInBounds_toArray, List.set_cons_zero, List.set_cons_succ, i64_w, i32_w]
                 rfl
                refine pure_ (i := 2) (N := some 105) (v := ?_) (a' := ?_) eT2 rfl rfl (any_of HT_.out (by kernel_rfl)) (fun _ _ _ h => h) (Or.inl ⟨by rfl, ?_⟩) ?_ ?_
                rotate_left
                ·intro w'
                 go_simp
                 with_reducible rfl
                rotate_left
                ·simp only [Act.put, List.setIfInBounds_toArray, List.set_cons_zero, List.set_cons_succ, i64_w, i32_w]
                 rfl
                refine take_ (i := 1) (N := some 104) (v := ?_) (a' := ?_) eT3 rfl rfl (take_ofW HT_.out HW_.out (by kernel_rfl)) (fun _ _ _ h => h) (Or.inl ⟨by rfl, ?_⟩) hHeld ?_ ?_
                rotate_left
                ·rintro w' ⟨s0, s1, s2, s3, s4, s5⟩
                 go_simp
                 with_reducible rfl
                rotate_left
                ·simp only [Act.put, List.setIfInBounds_toArray, List.set_cons_zero, List.set_cons_succ, i64_w, i32_w]
                 rfl
                refine pure_ (i := 3) (N := some 106) (v := ?_) (a' := ?_) eT4 rfl rfl (any_of HT_.out (by kernel_rfl)) (fun _ _ _ h => h) (Or.inl ⟨by rfl, ?_⟩) ?_ ?_
                rotate_left
                ·intro w'
                 go_simp
                 with_reducible rfl
                rotate_left
                ·simp only [Act.put, List.setIfInBounds_toArray, List.set_cons_zero, List.set_cons_succ, i64_w, i32_w]
                 rfl
                refine pure_ (i := 4) (N := some 107) (v := ?_) (a' := ?_) eT5 rfl rfl (any_of HT_.out (by kernel_rfl)) (fun _ _ _ h => h) (Or.inl ⟨by rfl, ?_⟩) ?_ ?_
                rotate_left
                ·intro w'
                 go_simp
                 with_reducible rfl
                rotate_left
                ·simp only [Act.put, List.setIfInBounds_toArray, List.set_cons_zero, List.set_cons_succ, i64_w, i32_w]
                 rfl
                refine pure_ (i := 5) (N := some 108) (v := ?_) (a' := ?_) eT6 rfl rfl (any_of HT_.out (by kernel_rfl)) (fun _ _ _ h => h) (Or.inl ⟨by rfl, ?_⟩) ?_ ?_
                rotate_left
                ·intro w'
                 go_simp
                 with_reducible rfl
                rotate_left
                ·simp only [Act.put, List.setIfInBounds_toArray, List.set_cons_zero, List.set_cons_succ, i64_w, i32_w]
                 rfl
                refine pure_ (i := 7) (N := some 110) (v := ?_) (a' := ?_) eT16 rfl rfl (any_of HT_.out (by kernel_rfl)) (fun _ _ _ h => h) (Or.inl ⟨by rfl, ?_⟩) ?_ ?_
                rotate_left
                ·intro w'
                 go_simp
                 with_reducible rfl
                rotate_left
                ·simp only [Act.put, List.setIfInBounds_toArray, List.set_cons_zero, List.set_cons_succ, i64_w, i32_w]
                 rfl
                refine take_ (i := 6) (N := some 109) (v := ?_) (a' := ?_) eT7 rfl rfl (take_ofW HT_.out HW_.out (by kernel_rfl)) (fun _ _ _ h => h) (Or.inl ⟨by rfl, ?_⟩) hHeld ?_ ?_
                rotate_left
                ·rintro w' ⟨s0, s1, s2, s3, s4, s5⟩
                 go_simp
                 with_reducible rfl
                rotate_left
                ·simp only [Act.put, List.setIfInBounds_toArray, List.set_cons_zero, List.set_cons_succ, i64_w, i32_w]
                 rfl
                refine pure_ (i := 8) (N := some 111) (v := ?_) (a' := ?_) eT8 rfl rfl (any_of HT_.out (by kernel_rfl)) (fun _ _ _ h => h) (Or.inl ⟨by rfl, ?_⟩) ?_ ?_
                rotate_left
                ·intro w'
                 go_simp
                 with_reducible rfl
                rotate_left
                ·simp only [Act.put, List.setIfInBounds_toArray, List.set_cons_zero, List.set_cons_succ, i64_w, i32_w]
                 rfl
                refine pure_ (i := 9) (N := some 112) (v := ?_) (a' := ?_) eT9 rfl rfl (any_of HT_.out (by kernel_rfl)) (fun _ _ _ h => h) (Or.inl ⟨by rfl, ?_⟩) ?_ ?_
                rotate_left
                ·intro w'
                 go_simp
                 with_reducible rfl
                rotate_left
                ·simp only [Act.put, List.setIfInBounds_toArray, List.set_cons_zero, List.set_cons_succ, i64_w, i32_w]
                 rfl
                refine pure_ (i := 10) (N := some 113) (v := ?_) (a' := ?_) eT10 rfl rfl (any_of HT_.out (by kernel_rfl)) (fun _ _ _ h => h) (Or.inl ⟨by rfl, ?_⟩) ?_ ?_
                rotate_left
                ·intro w'
                 go_simp
                 with_reducible rfl
                rotate_left
                ·simp only [Act.put, List.setIfInBounds_toArray, List.set_cons_zero, List.set_cons_succ, i64_w, i32_w]
                 rfl
                refine pure_ (i := 11) (N := some 114) (v := undef) (a' := ?_) eT11 rfl rfl (any_of HT_.out (by kernel_rfl)) (fun _ _ _ h => h) (Or.inr ⟨by rfl, rfl⟩) ?_ ?_
                rotate_left
                ·simp only [Act.put, List.setIfInBounds_toArray, List.set_cons_zero, List.set_cons_succ, i64_w, i32_w]
                 rfl
                refine pure_ (i := 12) (N := some 115) (v := undef) (a' := ?_) eT12 rfl rfl (any_of HT_.out (by kernel_rfl)) (fun _ _ _ h => h) (Or.inr ⟨by rfl, rfl⟩) ?_ ?_
                rotate_left
                ·simp only [Act.put, List.setIfInBounds_toArray, List.set_cons_zero, List.set_cons_succ, i64_w, i32_w]
                 rfl
                refine pure_ (i := 13) (N := some 116) (v := undef) (a' := ?_) eT22 rfl rfl (any_of HT_.out (by kernel_rfl)) (fun _ _ _ h => h) (Or.inr ⟨by rfl, rfl⟩) ?_ ?_
                rotate_left
                ·simp only [Act.put, List.setIfInBounds_toArray, List.set_cons_zero, List.set_cons_succ, i64_w, i32_w]
                 rfl
                refine pure_ (i := 14) (N := some 117) (v := undef) (a' := ?_) eT23 rfl rfl (any_of HT_.out (by kernel_rfl)) (fun _ _ _ h => h) (Or.inr ⟨by rfl, rfl⟩) ?_ ?_
                rotate_left
                ·simp only [Act.put, List.setIfInBounds_toArray, List.set_cons_zero, List.set_cons_succ, i64_w, i32_w]
                 rfl
                refine pure_ (i := 15) (N := some 118) (v := undef) (a' := ?_) eT24 rfl rfl (any_of HT_.out (by kernel_rfl)) (fun _ _ _ h => h) (Or.inr ⟨by rfl, rfl⟩) ?_ ?_
                rotate_left
                ·simp only [Act.put, List.setIfInBounds_toArray, List.set_cons_zero, List.set_cons_succ, i64_w, i32_w]
                 rfl
                refine pure_ (i := 16) (N := some 119) (v := undef) (a' := ?_) eT25 rfl rfl (any_of HT_.out (by kernel_rfl)) (fun _ _ _ h => h) (Or.inr ⟨by rfl, rfl⟩) ?_ ?_
                rotate_left
                ·simp only [Act.put, List.setIfInBounds_toArray, List.set_cons_zero, List.set_cons_succ, i64_w, i32_w]
                 rfl
                refine pure_ (i := 17) (N := some 120) (v := undef) (a' := ?_) eT26 rfl rfl (any_of HT_.out (by kernel_rfl)) (fun _ _ _ h => h) (Or.inr ⟨by rfl, rfl⟩) ?_ ?_
                rotate_left
                ·simp only [Act.put, List.setIfInBounds_toArray, List.set_cons_zero, List.set_cons_succ, i64_w, i32_w]
                 rfl
                refine pure_ (i := 18) (N := some 121) (v := undef) (a' := ?_) eT13 rfl rfl (any_of HT_.out (by kernel_rfl)) (fun _ _ _ h => h) (Or.inr ⟨by rfl, rfl⟩) ?_ ?_
                rotate_left
                ·simp only [Act.put, List.setIfInBounds_toArray, List.set_cons_zero, List.set_cons_succ, i64_w, i32_w]
                 rfl
                refine pure_ (i := 19) (N := some 122) (v := undef) (a' := ?_) eT14 rfl rfl (any_of HT_.out (by kernel_rfl)) (fun _ _ _ h => h) (Or.inr ⟨by rfl, rfl⟩) ?_ ?_
                rotate_left
                ·simp only [Act.put, List.setIfInBounds_toArray, List.set_cons_zero, List.set_cons_succ, i64_w, i32_w]
                 rfl
                refine pure_ (i := 20) (N := some 123) (v := ?_) (a' := ?_) eT15 rfl rfl (any_of HT_.out (by kernel_rfl)) (fun _ _ _ h => h) (Or.inl ⟨by rfl, ?_⟩) ?_ ?_
                rotate_left
                ·intro w'
                 go_simp
                 with_reducible rfl
                rotate_left
                ·simp only [Act.put, List.setIfInBounds_toArray, List.set_cons_zero, List.set_cons_succ, i64_w, i32_w]
                 rfl
                refine done_ (done_of HT_.out (by kernel_rfl)) ?_
                try go_wp2
                go_roundg k3
                case measure => have := HJ4.out; have := HJ27.out; have := HK3.out; omega
                case rel => exact ⟨(wrap64 (x99_3 + 1)), (by first | rfl | (simp; done) | (simp [*]; done)), H', ⟨by have := HJ4.out; have := HJ27.out; have := HK3.out; omega⟩, ⟨by (with_reducible repeat (first | apply Kd.V_alloc | apply Kd.V_drewN | apply Kd.V_drew)); exact Kd.V_mono HO_11.out (fun _ hk => ⟨hk.1, ⟨hk.2.1, ⟨hk.2.2.1, hk.2.2.2.1⟩⟩⟩)⟩, ⟨by (with_reducible repeat (first | apply elN | apply elD | apply elA)); exact BK288.out⟩, ⟨by (with_reducible repeat (first | apply elN | apply elD | apply elA)); exact BK297.out⟩, ⟨by (with_reducible repeat (first | apply elN | apply elD | apply elA)); exact BK307.out⟩, ⟨by (with_reducible repeat (first | apply elN | apply elD | apply elA)); exact BK313.out⟩, ⟨by repeat (first | (with_reducible first | exact HB.out | apply below_alloc | apply pw_below_drewN | apply below_drew1 | refine below_set ?_ GE288.out | refine below_set ?_ GE297.out | refine below_set ?_ GE307.out | refine below_set ?_ GE313.out | refine below_set ?_ GE321.out) | exact HB.out)⟩⟩
               ·rw [if_neg c87] at H
                have c87b0 : (((rd_T39 l0 x99_3).f1).toList == a2.toList) = false := beq_eq_false_iff_ne.mpr c87
                have c87b1 : (((rd_T39 l0 x99_3).f1).toList != a2.toList) = true := bne_iff_ne.mpr c87
                replace H := Option.bind_eq_some_iff.mp H
                obtain ⟨⟨t322, t323, t324, t325⟩, A960, H⟩ := H
                replace H : (if (!(t322 == ((rd_T39 l0 x99_3).f2.f0)) || (!(t323 == ((rd_T39 l0 x99_3).f2.f1)) || (!(t324 == ((rd_T39 l0 x99_3).f2.f2)) || (!(t325 == ((rd_T39 l0 x99_3).f2.f3)))))) = true then (some false) else (trucelaw16_AcctKeeps.l0 k3 l0 a1 a2 t298 l0 (l0.length : Int) (wrap64 (x99_3 + 1)) a3_0 a3_1 a3_2 a3_3 t292 t293 t294 t295)) = some r := H
                have A96 := Aside0.mk A960
                clear A960
                by_cases c97 : (!(t322 == ((rd_T39 l0 x99_3).f2.f0)) || (!(t323 == ((rd_T39 l0 x99_3).f2.f1)) || (!(t324 == ((rd_T39 l0 x99_3).f2.f2)) || (!(t325 == ((rd_T39 l0 x99_3).f2.f3)))))) = true
                ·rw [if_pos c97] at H
                 have c97b0 : (!(t322 == ((rd_T39 l0 x99_3).f2.f0)) || (!(t323 == ((rd_T39 l0 x99_3).f2.f1)) || (!(t324 == ((rd_T39 l0 x99_3).f2.f2)) || (!(t325 == ((rd_T39 l0 x99_3).f2.f3)))))) = true := c97
                 clear c97
                 exact absurd (hr_.out.symm.trans (Option.some.inj H).symm) (by simp)
                ·rw [if_neg c97] at H
                 have c97b0 : (!(t322 == ((rd_T39 l0 x99_3).f2.f0)) || (!(t323 == ((rd_T39 l0 x99_3).f2.f1)) || (!(t324 == ((rd_T39 l0 x99_3).f2.f2)) || (!(t325 == ((rd_T39 l0 x99_3).f2.f3)))))) = false := by simpa using c97
                 clear c97
                 have H' := Aside0.mk H
                 clear H
                 have p320 : 0 ≤ (x99_3 : Int) := of_decide_eq_true (by first | (with_reducible assumption) | assumption)
                 have q320 : x99_3 < (l0.length : Int) := of_decide_eq_true (by first | (with_reducible assumption) | assumption)
                 obtain ⟨ad320, e320, hx320_0, hx320_1, hx320_2, hx320_3, hx320_4, hx320_5⟩ := at_T39 HR0.out x99_3 p320 q320
                 cases e320
                 replace hx320_0 := (HB.out.cell (World.block_lt_of_cell? w _ hx320_0)).trans hx320_0
                 replace hx320_1 := (HB.out.cell (World.block_lt_of_cell? w _ hx320_1)).trans hx320_1
                 replace hx320_2 := (HB.out.cell (World.block_lt_of_cell? w _ hx320_2)).trans hx320_2
                 replace hx320_3 := (HB.out.cell (World.block_lt_of_cell? w _ hx320_3)).trans hx320_3
                 replace hx320_4 := (HB.out.cell (World.block_lt_of_cell? w _ hx320_4)).trans hx320_4
                 replace hx320_5 := (HB.out.cell (World.block_lt_of_cell? w _ hx320_5)).trans hx320_5
                 replace p320 := eq_true p320
                 replace q320 := eq_true q320
                 try go_wp2_with (first | ((with_reducible refine gate_dst (N := 20) rfl ?_); refine box_event ?hg (N := 20) ?hd (cs := #[.string (⟨#[]⟩ : ByteArray), .string (⟨#[]⟩ : ByteArray), .int .u64 0, .int .u64 0, .int .u64 0, .int .u64 0]) (t := 39) ?hr ?_; (case hd => rfl); (case hg => rfl); (case hr => first | (go_simp; done) | (go_simp; rfl)); intro gb321 hg w98 hbox hb; have n0_ := Aside0.mk (Kd.V_below (Kd.V_elderB (by (with_reducible repeat (first | apply Kd.V_alloc | apply Kd.V_drewN | apply Kd.V_drew)); exact HO_11.out) gb321 (Nat.le_of_eq hg.symm)) hb); have n1_ := Aside0.mk (blk_below (g := gb288) (o := .cells #[.int .u64 a3_0, .int .u64 a3_1, .int .u64 a3_2, .int .u64 a3_3] 25 (0, 0)) (by (with_reducible repeat (first | apply elN | apply elD | apply elA)); exact BK288.out) hb); have n2_ := Aside0.mk (blk_below (g := gb297) (o := .cells #[.int .u64 t292, .int .u64 t293, .int .u64 t294, .int .u64 t295] 25 (0, 0)) (by (with_reducible repeat (first | apply elN | apply elD | apply elA)); exact BK297.out) hb); have n3_ := Aside0.mk (blk_below (g := gb307) (o := .cells #[.int .u64 t302, .int .u64 t303, .int .u64 t304, .int .u64 t305] 25 (0, 0)) (by (with_reducible repeat (first | apply elN | apply elD | apply elA)); exact BK307.out) hb); have n4_ := Aside0.mk (blk_below (g := gb313) (o := .cells #[.int .u64 t308, .int .u64 t309, .int .u64 t310, .int .u64 t311] 25 (0, 0)) (by (with_reducible repeat (first | apply elN | apply elD | apply elA)); exact BK313.out) hb); have n5_ := Aside0.mk (below_step (by repeat (first | (with_reducible first | exact HB.out | apply below_alloc | apply pw_below_drewN | apply below_drew1 | refine below_set ?_ GE288.out | refine below_set ?_ GE297.out | refine below_set ?_ GE307.out | refine below_set ?_ GE313.out) | exact HB.out)) hb); have n6_ := Aside0.mk (hbox); have n7_ := Aside0.mk ((by rw [hg]; exact (below_size (by repeat (first | (with_reducible first | exact HB.out | apply below_alloc | apply pw_below_drewN | apply below_drew1 | refine below_set ?_ GE288.out | refine below_set ?_ GE297.out | refine below_set ?_ GE307.out | refine below_set ?_ GE313.out) | exact HB.out))) : w.heap.size ≤ gb321)); have n8_ := Aside0.mk ((by rw [hg]; exact (below_size (by repeat (first | (with_reducible first | exact HB.out | apply below_alloc | apply pw_below_drewN | apply below_drew1 | refine below_set ?_ GE288.out | refine below_set ?_ GE297.out | refine below_set ?_ GE307.out | refine below_set ?_ GE313.out) | exact HB.out))) : w.heap.size ≤ gb321)); have n9_ := Aside0.mk ((by rw [hg]; exact Nat.ne_of_lt (blk_lt (g := gb288) (o := .cells #[.int .u64 a3_0, .int .u64 a3_1, .int .u64 a3_2, .int .u64 a3_3] 25 (0, 0)) (by (with_reducible repeat (first | apply elN | apply elD | apply elA)); exact BK288.out)) : gb288 ≠ gb321)); have n10_ := Aside0.mk ((by rw [hg]; exact Nat.ne_of_gt (blk_lt (g := gb288) (o := .cells #[.int .u64 a3_0, .int .u64 a3_1, .int .u64 a3_2, .int .u64 a3_3] 25 (0, 0)) (by (with_reducible repeat (first | apply elN | apply elD | apply elA)); exact BK288.out)) : gb321 ≠ gb288)); have n11_ := Aside0.mk ((by rw [hg]; exact Nat.ne_of_lt (blk_lt (g := gb297) (o := .cells #[.int .u64 t292, .int .u64 t293, .int .u64 t294, .int .u64 t295] 25 (0, 0)) (by (with_reducible repeat (first | apply elN | apply elD | apply elA)); exact BK297.out)) : gb297 ≠ gb321)); have n12_ := Aside0.mk ((by rw [hg]; exact Nat.ne_of_gt (blk_lt (g := gb297) (o := .cells #[.int .u64 t292, .int .u64 t293, .int .u64 t294, .int .u64 t295] 25 (0, 0)) (by (with_reducible repeat (first | apply elN | apply elD | apply elA)); exact BK297.out)) : gb321 ≠ gb297)); have n13_ := Aside0.mk ((by rw [hg]; exact Nat.ne_of_lt (blk_lt (g := gb307) (o := .cells #[.int .u64 t302, .int .u64 t303, .int .u64 t304, .int .u64 t305] 25 (0, 0)) (by (with_reducible repeat (first | apply elN | apply elD | apply elA)); exact BK307.out)) : gb307 ≠ gb321)); have n14_ := Aside0.mk ((by rw [hg]; exact Nat.ne_of_gt (blk_lt (g := gb307) (o := .cells #[.int .u64 t302, .int .u64 t303, .int .u64 t304, .int .u64 t305] 25 (0, 0)) (by (with_reducible repeat (first | apply elN | apply elD | apply elA)); exact BK307.out)) : gb321 ≠ gb307)); have n15_ := Aside0.mk ((by rw [hg]; exact Nat.ne_of_lt (blk_lt (g := gb313) (o := .cells #[.int .u64 t308, .int .u64 t309, .int .u64 t310, .int .u64 t311] 25 (0, 0)) (by (with_reducible repeat (first | apply elN | apply elD | apply elA)); exact BK313.out)) : gb313 ≠ gb321)); have n16_ := Aside0.mk ((by rw [hg]; exact Nat.ne_of_gt (blk_lt (g := gb313) (o := .cells #[.int .u64 t308, .int .u64 t309, .int .u64 t310, .int .u64 t311] 25 (0, 0)) (by (with_reducible repeat (first | apply elN | apply elD | apply elA)); exact BK313.out)) : gb321 ≠ gb313)); clear HO_11; clear BK288; clear BK297; clear BK307; clear BK313; clear HB; have HO_11 := n0_; have BK288 := n1_; have BK297 := n2_; have BK307 := n3_; have BK313 := n4_; have HB := n5_; have BK321 := n6_; have GW321 := n7_; have GE321 := n8_; have NB288_321 := n9_; have NB321_288 := n10_; have NB297_321 := n11_; have NB321_297 := n12_; have NB307_321 := n13_; have NB321_307 := n14_; have NB313_321 := n15_; have NB321_313 := n16_; clear n0_ n1_ n2_ n3_ n4_ n5_ n6_ n7_ n8_ n9_ n10_ n11_ n12_ n13_ n14_ n15_ n16_; clear hb hbox hg; have hnb99 := NB321_288.out; have hnc99 := NB288_321.out; have hnb100 := NB321_297.out; have hnc100 := NB297_321.out; have hnb101 := NB321_307.out; have hnc101 := NB307_321.out; have hnb102 := NB321_313.out; have hnc102 := NB313_321.out; have hcz103_0 : w98.cell? ⟨gb321, 0, none⟩ = some (.string (⟨#[]⟩ : ByteArray)) := (blk_cell BK321.out 0).trans rfl; have hcz103_1 : w98.cell? ⟨gb321, 1, none⟩ = some (.string (⟨#[]⟩ : ByteArray)) := (blk_cell BK321.out 1).trans rfl; have hcz103_2 : w98.cell? ⟨gb321, 2, none⟩ = some (.int .u64 0) := (blk_cell BK321.out 2).trans rfl; have hcz103_3 : w98.cell? ⟨gb321, 3, none⟩ = some (.int .u64 0) := (blk_cell BK321.out 3).trans rfl; have hcz103_4 : w98.cell? ⟨gb321, 4, none⟩ = some (.int .u64 0) := (blk_cell BK321.out 4).trans rfl; have hcz103_5 : w98.cell? ⟨gb321, 5, none⟩ = some (.int .u64 0) := (blk_cell BK321.out 5).trans rfl; have hfz103_0 := blk_frozen BK321.out 0; have hfz103_1 := blk_frozen BK321.out 1; have hfz103_2 := blk_frozen BK321.out 2; have hfz103_3 := blk_frozen BK321.out 3; have hfz103_4 := blk_frozen BK321.out 4; have hfz103_5 := blk_frozen BK321.out 5))
                 have n0_ : Aside0 (Kd.V k39 39 ((((((w98.setCell ⟨gb321, 0, none⟩ (.string ((rd_T39 l0 x99_3).f0))).setCell ⟨gb321, 1, none⟩ (.string ((rd_T39 l0 x99_3).f1))).setCell ⟨gb321, 2, none⟩ (.int .u64 ((rd_T39 l0 x99_3).f2.f0))).setCell ⟨gb321, 3, none⟩ (.int .u64 ((rd_T39 l0 x99_3).f2.f1))).setCell ⟨gb321, 4, none⟩ (.int .u64 ((rd_T39 l0 x99_3).f2.f2))).setCell ⟨gb321, 5, none⟩ (.int .u64 ((rd_T39 l0 x99_3).f2.f3))) w.heap.size (fun k_ => k_ ≠ gb288 ∧ k_ ≠ gb297 ∧ k_ ≠ gb307 ∧ k_ ≠ gb313 ∧ k_ ≠ gb321) (.slice Ao29 t298.length co29) t298) := ⟨by (with_reducible repeat (first | apply Kd.V_alloc | apply Kd.V_drewN | apply Kd.V_drew)); exact Kd.V_mono (Kd.V_far (p := ⟨gb321, 5, none⟩) (Kd.V_far (p := ⟨gb321, 4, none⟩) (Kd.V_far (p := ⟨gb321, 3, none⟩) (Kd.V_far (p := ⟨gb321, 2, none⟩) (Kd.V_far (p := ⟨gb321, 1, none⟩) (Kd.V_far (p := ⟨gb321, 0, none⟩) (Kd.V_mono HO_11.out (fun k_ hk => (⟨hk, hk.2⟩ : _ ∧ k_ ≠ gb321))) (fun _ hk => hk.2) (.string ((rd_T39 l0 x99_3).f0))) (fun _ hk => hk.2) (.string ((rd_T39 l0 x99_3).f1))) (fun _ hk => hk.2) (.int .u64 ((rd_T39 l0 x99_3).f2.f0))) (fun _ hk => hk.2) (.int .u64 ((rd_T39 l0 x99_3).f2.f1))) (fun _ hk => hk.2) (.int .u64 ((rd_T39 l0 x99_3).f2.f2))) (fun _ hk => hk.2) (.int .u64 ((rd_T39 l0 x99_3).f2.f3))) (fun _ hk => ⟨hk.1.1.1, ⟨hk.1.1.2.1, ⟨hk.1.1.2.2.1, ⟨hk.1.1.2.2.2, hk.1.2⟩⟩⟩⟩)⟩
                 have n1_ : Aside0 (((((((w98.setCell ⟨gb321, 0, none⟩ (.string ((rd_T39 l0 x99_3).f0))).setCell ⟨gb321, 1, none⟩ (.string ((rd_T39 l0 x99_3).f1))).setCell ⟨gb321, 2, none⟩ (.int .u64 ((rd_T39 l0 x99_3).f2.f0))).setCell ⟨gb321, 3, none⟩ (.int .u64 ((rd_T39 l0 x99_3).f2.f1))).setCell ⟨gb321, 4, none⟩ (.int .u64 ((rd_T39 l0 x99_3).f2.f2))).setCell ⟨gb321, 5, none⟩ (.int .u64 ((rd_T39 l0 x99_3).f2.f3))).heap[gb288]? = some (.cells #[.int .u64 a3_0, .int .u64 a3_1, .int .u64 a3_2, .int .u64 a3_3] 25 (0, 0))) := ⟨by (with_reducible repeat (first | apply elN | apply elD | apply elA)); refine blk_far ?_ NB288_321.out _; (with_reducible repeat (first | apply elN | apply elD | apply elA)); refine blk_far ?_ NB288_321.out _; (with_reducible repeat (first | apply elN | apply elD | apply elA)); refine blk_far ?_ NB288_321.out _; (with_reducible repeat (first | apply elN | apply elD | apply elA)); refine blk_far ?_ NB288_321.out _; (with_reducible repeat (first | apply elN | apply elD | apply elA)); refine blk_far ?_ NB288_321.out _; (with_reducible repeat (first | apply elN | apply elD | apply elA)); refine blk_far ?_ NB288_321.out _; (with_reducible repeat (first | apply elN | apply elD | apply elA)); exact BK288.out⟩
                 have n2_ : Aside0 (((((((w98.setCell ⟨gb321, 0, none⟩ (.string ((rd_T39 l0 x99_3).f0))).setCell ⟨gb321, 1, none⟩ (.string ((rd_T39 l0 x99_3).f1))).setCell ⟨gb321, 2, none⟩ (.int .u64 ((rd_T39 l0 x99_3).f2.f0))).setCell ⟨gb321, 3, none⟩ (.int .u64 ((rd_T39 l0 x99_3).f2.f1))).setCell ⟨gb321, 4, none⟩ (.int .u64 ((rd_T39 l0 x99_3).f2.f2))).setCell ⟨gb321, 5, none⟩ (.int .u64 ((rd_T39 l0 x99_3).f2.f3))).heap[gb297]? = some (.cells #[.int .u64 t292, .int .u64 t293, .int .u64 t294, .int .u64 t295] 25 (0, 0))) := ⟨by (with_reducible repeat (first | apply elN | apply elD | apply elA)); refine blk_far ?_ NB297_321.out _; (with_reducible repeat (first | apply elN | apply elD | apply elA)); refine blk_far ?_ NB297_321.out _; (with_reducible repeat (first | apply elN | apply elD | apply elA)); refine blk_far ?_ NB297_321.out _; (with_reducible repeat (first | apply elN | apply elD | apply elA)); refine blk_far ?_ NB297_321.out _; (with_reducible repeat (first | apply elN | apply elD | apply elA)); refine blk_far ?_ NB297_321.out _; (with_reducible repeat (first | apply elN | apply elD | apply elA)); refine blk_far ?_ NB297_321.out _; (with_reducible repeat (first | apply elN | apply elD | apply elA)); exact BK297.out⟩
                 have n3_ : Aside0 (((((((w98.setCell ⟨gb321, 0, none⟩ (.string ((rd_T39 l0 x99_3).f0))).setCell ⟨gb321, 1, none⟩ (.string ((rd_T39 l0 x99_3).f1))).setCell ⟨gb321, 2, none⟩ (.int .u64 ((rd_T39 l0 x99_3).f2.f0))).setCell ⟨gb321, 3, none⟩ (.int .u64 ((rd_T39 l0 x99_3).f2.f1))).setCell ⟨gb321, 4, none⟩ (.int .u64 ((rd_T39 l0 x99_3).f2.f2))).setCell ⟨gb321, 5, none⟩ (.int .u64 ((rd_T39 l0 x99_3).f2.f3))).heap[gb307]? = some (.cells #[.int .u64 t302, .int .u64 t303, .int .u64 t304, .int .u64 t305] 25 (0, 0))) := ⟨by (with_reducible repeat (first | apply elN | apply elD | apply elA)); refine blk_far ?_ NB307_321.out _; (with_reducible repeat (first | apply elN | apply elD | apply elA)); refine blk_far ?_ NB307_321.out _; (with_reducible repeat (first | apply elN | apply elD | apply elA)); refine blk_far ?_ NB307_321.out _; (with_reducible repeat (first | apply elN | apply elD | apply elA)); refine blk_far ?_ NB307_321.out _; (with_reducible repeat (first | apply elN | apply elD | apply elA)); refine blk_far ?_ NB307_321.out _; (with_reducible repeat (first | apply elN | apply elD | apply elA)); refine blk_far ?_ NB307_321.out _; (with_reducible repeat (first | apply elN | apply elD | apply elA)); exact BK307.out⟩
                 have n4_ : Aside0 (((((((w98.setCell ⟨gb321, 0, none⟩ (.string ((rd_T39 l0 x99_3).f0))).setCell ⟨gb321, 1, none⟩ (.string ((rd_T39 l0 x99_3).f1))).setCell ⟨gb321, 2, none⟩ (.int .u64 ((rd_T39 l0 x99_3).f2.f0))).setCell ⟨gb321, 3, none⟩ (.int .u64 ((rd_T39 l0 x99_3).f2.f1))).setCell ⟨gb321, 4, none⟩ (.int .u64 ((rd_T39 l0 x99_3).f2.f2))).setCell ⟨gb321, 5, none⟩ (.int .u64 ((rd_T39 l0 x99_3).f2.f3))).heap[gb313]? = some (.cells #[.int .u64 t308, .int .u64 t309, .int .u64 t310, .int .u64 t311] 25 (0, 0))) := ⟨by (with_reducible repeat (first | apply elN | apply elD | apply elA)); refine blk_far ?_ NB313_321.out _; (with_reducible repeat (first | apply elN | apply elD | apply elA)); refine blk_far ?_ NB313_321.out _; (with_reducible repeat (first | apply elN | apply elD | apply elA)); refine blk_far ?_ NB313_321.out _; (with_reducible repeat (first | apply elN | apply elD | apply elA)); refine blk_far ?_ NB313_321.out _; (with_reducible repeat (first | apply elN | apply elD | apply elA)); refine blk_far ?_ NB313_321.out _; (with_reducible repeat (first | apply elN | apply elD | apply elA)); refine blk_far ?_ NB313_321.out _; (with_reducible repeat (first | apply elN | apply elD | apply elA)); exact BK313.out⟩
                 have n5_ : Aside0 (((((((w98.setCell ⟨gb321, 0, none⟩ (.string ((rd_T39 l0 x99_3).f0))).setCell ⟨gb321, 1, none⟩ (.string ((rd_T39 l0 x99_3).f1))).setCell ⟨gb321, 2, none⟩ (.int .u64 ((rd_T39 l0 x99_3).f2.f0))).setCell ⟨gb321, 3, none⟩ (.int .u64 ((rd_T39 l0 x99_3).f2.f1))).setCell ⟨gb321, 4, none⟩ (.int .u64 ((rd_T39 l0 x99_3).f2.f2))).setCell ⟨gb321, 5, none⟩ (.int .u64 ((rd_T39 l0 x99_3).f2.f3))).heap[gb321]? = some (.cells #[.string ((rd_T39 l0 x99_3).f0), .string ((rd_T39 l0 x99_3).f1), .int .u64 ((rd_T39 l0 x99_3).f2.f0), .int .u64 ((rd_T39 l0 x99_3).f2.f1), .int .u64 ((rd_T39 l0 x99_3).f2.f2), .int .u64 ((rd_T39 l0 x99_3).f2.f3)] 39 (0, 0))) := ⟨by (with_reducible repeat (first | apply elN | apply elD | apply elA)); refine blk_put (cs := #[.string ((rd_T39 l0 x99_3).f0), .string ((rd_T39 l0 x99_3).f1), .int .u64 ((rd_T39 l0 x99_3).f2.f0), .int .u64 ((rd_T39 l0 x99_3).f2.f1), .int .u64 ((rd_T39 l0 x99_3).f2.f2), .int .u64 0]) ?_ 5 _ rfl; (with_reducible repeat (first | apply elN | apply elD | apply elA)); refine blk_put (cs := #[.string ((rd_T39 l0 x99_3).f0), .string ((rd_T39 l0 x99_3).f1), .int .u64 ((rd_T39 l0 x99_3).f2.f0), .int .u64 ((rd_T39 l0 x99_3).f2.f1), .int .u64 0, .int .u64 0]) ?_ 4 _ rfl; (with_reducible repeat (first | apply elN | apply elD | apply elA)); refine blk_put (cs := #[.string ((rd_T39 l0 x99_3).f0), .string ((rd_T39 l0 x99_3).f1), .int .u64 ((rd_T39 l0 x99_3).f2.f0), .int .u64 0, .int .u64 0, .int .u64 0]) ?_ 3 _ rfl; (with_reducible repeat (first | apply elN | apply elD | apply elA)); refine blk_put (cs := #[.string ((rd_T39 l0 x99_3).f0), .string ((rd_T39 l0 x99_3).f1), .int .u64 0, .int .u64 0, .int .u64 0, .int .u64 0]) ?_ 2 _ rfl; (with_reducible repeat (first | apply elN | apply elD | apply elA)); refine blk_put (cs := #[.string ((rd_T39 l0 x99_3).f0), .string (⟨#[]⟩ : ByteArray), .int .u64 0, .int .u64 0, .int .u64 0, .int .u64 0]) ?_ 1 _ rfl; (with_reducible repeat (first | apply elN | apply elD | apply elA)); refine blk_put (cs := #[.string (⟨#[]⟩ : ByteArray), .string (⟨#[]⟩ : ByteArray), .int .u64 0, .int .u64 0, .int .u64 0, .int .u64 0]) ?_ 0 _ rfl; (with_reducible repeat (first | apply elN | apply elD | apply elA)); exact BK321.out⟩
                 have n6_ : Aside0 (Below w.heap.size w ((((((w98.setCell ⟨gb321, 0, none⟩ (.string ((rd_T39 l0 x99_3).f0))).setCell ⟨gb321, 1, none⟩ (.string ((rd_T39 l0 x99_3).f1))).setCell ⟨gb321, 2, none⟩ (.int .u64 ((rd_T39 l0 x99_3).f2.f0))).setCell ⟨gb321, 3, none⟩ (.int .u64 ((rd_T39 l0 x99_3).f2.f1))).setCell ⟨gb321, 4, none⟩ (.int .u64 ((rd_T39 l0 x99_3).f2.f2))).setCell ⟨gb321, 5, none⟩ (.int .u64 ((rd_T39 l0 x99_3).f2.f3)))) := ⟨by repeat (first | (with_reducible first | exact HB.out | apply below_alloc | apply pw_below_drewN | apply below_drew1 | refine below_set ?_ GE288.out | refine below_set ?_ GE297.out | refine below_set ?_ GE307.out | refine below_set ?_ GE313.out | refine below_set ?_ GE321.out) | exact HB.out)⟩
                 (try clear HO_11)
                 (try clear BK288)
                 (try clear BK297)
                 (try clear BK307)
                 (try clear BK313)
                 (try clear BK321)
                 (try clear HB)
                 generalize ((((((w98.setCell ⟨gb321, 0, none⟩ (.string ((rd_T39 l0 x99_3).f0))).setCell ⟨gb321, 1, none⟩ (.string ((rd_T39 l0 x99_3).f1))).setCell ⟨gb321, 2, none⟩ (.int .u64 ((rd_T39 l0 x99_3).f2.f0))).setCell ⟨gb321, 3, none⟩ (.int .u64 ((rd_T39 l0 x99_3).f2.f1))).setCell ⟨gb321, 4, none⟩ (.int .u64 ((rd_T39 l0 x99_3).f2.f2))).setCell ⟨gb321, 5, none⟩ (.int .u64 ((rd_T39 l0 x99_3).f2.f3))) = w104 at n0_ n1_ n2_ n3_ n4_ n5_ n6_ ⊢
                 have HO_11 := n0_
                 have BK288 := n1_
                 have BK297 := n2_
                 have BK307 := n3_
                 have BK313 := n4_
                 have BK321 := n5_
                 have HB := n6_
                 clear n0_ n1_ n2_ n3_ n4_ n5_ n6_
                 have n0_ := Aside0.mk (Kd.V_drew HO_11.out)
                 have n1_ := Aside0.mk (blk_drew BK288.out)
                 have n2_ := Aside0.mk (blk_drew BK297.out)
                 have n3_ := Aside0.mk (blk_drew BK307.out)
                 have n4_ := Aside0.mk (blk_drew BK313.out)
                 have n5_ := Aside0.mk (blk_drew BK321.out)
                 have n6_ := Aside0.mk (below_drew1 HB.out)
                 clear HO_11
                 clear BK288
                 clear BK297
                 clear BK307
                 clear BK313
                 clear BK321
                 clear HB
                 have HO_11 := n0_
                 have BK288 := n1_
                 have BK297 := n2_
                 have BK307 := n3_
                 have BK313 := n4_
                 have BK321 := n5_
                 have HB := n6_
                 clear n0_ n1_ n2_ n3_ n4_ n5_ n6_
                 refine start_ (n := 21) (S := fun w' => w'.cell? ⟨gb321, 0, none⟩ = some (.string ((rd_T39 l0 x99_3).f0)) ∧ w'.cell? ⟨gb321, 1, none⟩ = some (.string ((rd_T39 l0 x99_3).f1)) ∧ w'.cell? ⟨gb321, 2, none⟩ = some (.int .u64 ((rd_T39 l0 x99_3).f2.f0)) ∧ w'.cell? ⟨gb321, 3, none⟩ = some (.int .u64 ((rd_T39 l0 x99_3).f2.f1)) ∧ w'.cell? ⟨gb321, 4, none⟩ = some (.int .u64 ((rd_T39 l0 x99_3).f2.f2)) ∧ w'.cell? ⟨gb321, 5, none⟩ = some (.int .u64 ((rd_T39 l0 x99_3).f2.f3))) (ds := []) eT0 (by kernel_rfl) rfl rfl ⟨(blk_cell BK321.out 0).trans rfl, (blk_cell BK321.out 1).trans rfl, (blk_cell BK321.out 2).trans rfl, (blk_cell BK321.out 3).trans rfl, (blk_cell BK321.out 4).trans rfl, (blk_cell BK321.out 5).trans rfl⟩ (fun hHeld => ?_); refine with_tabW trucelaw16_AcctKeeps.tab14 trucelaw16_AcctKeeps.bits14 (fun HT_ HW_ => ?_)
                 generalize w104.drew = w105 at HO_11 BK288 BK297 BK307 BK313 BK321 HB hHeld ⊢
                 refine pure_ (i := 0) (N := some 103) (v := ?_) (a' := ?_) eT1 rfl rfl (any_of HT_.out (by kernel_rfl)) (fun _ _ _ h => h) (Or.inl ⟨by rfl, ?_⟩) ?_ ?_
                 rotate_left
                 ·intro w'
                  go_simp
                  with_reducible rfl
                 rotate_left
                 ·simp only [Act.put, List.setIfInBounds_toArray, List.set_cons_zero, List.set_cons_succ, i64_w, i32_w]
                  rfl
                 refine pure_ (i := 2) (N := some 105) (v := ?_) (a' := ?_) eT2 rfl rfl (any_of HT_.out (by kernel_rfl)) (fun _ _ _ h => h) (Or.inl ⟨by rfl, ?_⟩) ?_ ?_
                 rotate_left
                 ·intro w'
                  go_simp
                  with_reducible rfl
                 rotate_left
                 ·simp only [Act.put, List.setIfInBounds_toArray, List.set_cons_zero, List.set_cons_succ, i64_w, i32_w]
                  rfl
                 refine take_ (i := 1) (N := some 104) (v := ?_) (a' := ?_) eT3 rfl rfl (take_ofW HT_.out HW_.out (by kernel_rfl)) (fun _ _ _ h => h) (Or.inl ⟨by rfl, ?_⟩) hHeld ?_ ?_
                 rotate_left
                 ·rintro w' ⟨s0, s1, s2, s3, s4, s5⟩
                  go_simp
                  with_reducible rfl
                 rotate_left
                 ·simp only [Act.put, List.setIfInBounds_toArray, List.set_cons_zero, List.set_cons_succ, i64_w, i32_w]
                  rfl
                 refine pure_ (i := 3) (N := some 106) (v := ?_) (a' := ?_) eT4 rfl rfl (any_of HT_.out (by kernel_rfl)) (fun _ _ _ h => h) (Or.inl ⟨by rfl, ?_⟩) ?_ ?_
                 rotate_left
                 ·intro w'
                  go_simp
                  with_reducible rfl
                 rotate_left
                 ·simp only [Act.put, List.setIfInBounds_toArray, List.set_cons_zero, List.set_cons_succ, i64_w, i32_w]
                  rfl
                 refine pure_ (i := 4) (N := some 107) (v := ?_) (a' := ?_) eT5 rfl rfl (any_of HT_.out (by kernel_rfl)) (fun _ _ _ h => h) (Or.inl ⟨by rfl, ?_⟩) ?_ ?_
                 rotate_left
                 ·intro w'
                  go_simp
                  with_reducible rfl
                 rotate_left
                 ·simp only [Act.put, List.setIfInBounds_toArray, List.set_cons_zero, List.set_cons_succ, i64_w, i32_w]
                  rfl
                 refine pure_ (i := 5) (N := some 108) (v := ?_) (a' := ?_) eT6 rfl rfl (any_of HT_.out (by kernel_rfl)) (fun _ _ _ h => h) (Or.inl ⟨by rfl, ?_⟩) ?_ ?_
                 rotate_left
                 ·intro w'
                  go_simp
                  with_reducible rfl
                 rotate_left
                 ·simp only [Act.put, List.setIfInBounds_toArray, List.set_cons_zero, List.set_cons_succ, i64_w, i32_w]
                  rfl
                 refine pure_ (i := 7) (N := some 110) (v := ?_) (a' := ?_) eT16 rfl rfl (any_of HT_.out (by kernel_rfl)) (fun _ _ _ h => h) (Or.inl ⟨by rfl, ?_⟩) ?_ ?_
                 rotate_left
                 ·intro w'
                  go_simp
                  with_reducible rfl
                 rotate_left
                 ·simp only [Act.put, List.setIfInBounds_toArray, List.set_cons_zero, List.set_cons_succ, i64_w, i32_w]
                  rfl
                 refine take_ (i := 6) (N := some 109) (v := ?_) (a' := ?_) eT7 rfl rfl (take_ofW HT_.out HW_.out (by kernel_rfl)) (fun _ _ _ h => h) (Or.inl ⟨by rfl, ?_⟩) hHeld ?_ ?_
                 rotate_left
                 ·rintro w' ⟨s0, s1, s2, s3, s4, s5⟩
                  go_simp
                  with_reducible rfl
                 rotate_left
                 ·simp only [Act.put, List.setIfInBounds_toArray, List.set_cons_zero, List.set_cons_succ, i64_w, i32_w]
                  rfl
                 refine pure_ (i := 8) (N := some 111) (v := ?_) (a' := ?_) eT8 rfl rfl (any_of HT_.out (by kernel_rfl)) (fun _ _ _ h => h) (Or.inl ⟨by rfl, ?_⟩) ?_ ?_
                 rotate_left
                 ·intro w'
                  go_simp
                  with_reducible rfl
                 rotate_left
                 ·simp only [Act.put, List.setIfInBounds_toArray, List.set_cons_zero, List.set_cons_succ, i64_w, i32_w]
                  rfl
                 refine pure_ (i := 9) (N := some 112) (v := ?_) (a' := ?_) eT9 rfl rfl (any_of HT_.out (by kernel_rfl)) (fun _ _ _ h => h) (Or.inl ⟨by rfl, ?_⟩) ?_ ?_
                 rotate_left
                 ·intro w'
                  go_simp
                  with_reducible rfl
                 rotate_left
                 ·simp only [Act.put, List.setIfInBounds_toArray, List.set_cons_zero, List.set_cons_succ, i64_w, i32_w]
                  rfl
                 refine pure_ (i := 10) (N := some 113) (v := ?_) (a' := ?_) eT10 rfl rfl (any_of HT_.out (by kernel_rfl)) (fun _ _ _ h => h) (Or.inl ⟨by rfl, ?_⟩) ?_ ?_
                 rotate_left
                 ·intro w'
                  go_simp
                  with_reducible rfl
                 rotate_left
                 ·simp only [Act.put, List.setIfInBounds_toArray, List.set_cons_zero, List.set_cons_succ, i64_w, i32_w]
                  rfl
                 refine pure_ (i := 11) (N := some 114) (v := ?_) (a' := ?_) eT11 rfl rfl (any_of HT_.out (by kernel_rfl)) (fun _ _ _ h => h) (Or.inl ⟨by rfl, ?_⟩) ?_ ?_
                 rotate_left
                 ·intro w'
                  go_simp
                  with_reducible rfl
                 rotate_left
                 ·simp only [Act.put, List.setIfInBounds_toArray, List.set_cons_zero, List.set_cons_succ, i64_w, i32_w]
                  rfl
                 refine pure_ (i := 12) (N := some 115) (v := ?_) (a' := ?_) eT12 rfl rfl (any_of HT_.out (by kernel_rfl)) (fun _ _ _ h => h) (Or.inl ⟨by rfl, ?_⟩) ?_ ?_
                 rotate_left
                 ·intro w'
                  go_simp
                  with_reducible rfl
                 rotate_left
                 ·simp only [Act.put, List.setIfInBounds_toArray, List.set_cons_zero, List.set_cons_succ, i64_w, i32_w]
                  rfl
                 refine pure_ (i := 14) (N := some 117) (v := ?_) (a' := ?_) eT17 rfl rfl (any_of HT_.out (by kernel_rfl)) (fun _ _ _ h => h) (Or.inl ⟨by rfl, ?_⟩) ?_ ?_
                 rotate_left
                 ·intro w'
                  go_simp
                  with_reducible rfl
                 rotate_left
                 ·simp only [Act.put, List.setIfInBounds_toArray, List.set_cons_zero, List.set_cons_succ, i64_w, i32_w]
                  rfl
                 refine pure_ (i := 17) (N := some 120) (v := ?_) (a' := ?_) eT18 rfl rfl (any_of HT_.out (by kernel_rfl)) (fun _ _ _ h => h) (Or.inl ⟨by rfl, ?_⟩) ?_ ?_
                 rotate_left
                 ·intro w'
                  go_simp
                  with_reducible rfl
                 rotate_left
                 ·simp only [Act.put, List.setIfInBounds_toArray, List.set_cons_zero, List.set_cons_succ, i64_w, i32_w]
                  rfl
                 refine take_ (i := 13) (N := some 116) (v := ?_) (a' := ?_) eT19 rfl rfl (take_ofW HT_.out HW_.out (by kernel_rfl)) (fun _ _ _ h => h) (Or.inl ⟨by rfl, ?_⟩) hHeld ?_ ?_
                 rotate_left
                 ·rintro w' ⟨s0, s1, s2, s3, s4, s5⟩
                  go_simp
                  with_reducible rfl
                 rotate_left
                 ·simp only [Act.put, List.setIfInBounds_toArray, List.set_cons_zero, List.set_cons_succ, i64_w, i32_w]
                  rfl
                 refine take_ (i := 15) (N := some 118) (v := ?_) (a' := ?_) eT20 rfl rfl (take_ofW HT_.out HW_.out (by kernel_rfl)) (fun _ _ _ h => h) (Or.inl ⟨by rfl, ?_⟩) hHeld ?_ ?_
                 rotate_left
                 ·rintro w' ⟨s0, s1, s2, s3, s4, s5⟩
                  go_simp
                  with_reducible rfl
                 rotate_left
                 ·simp only [Act.put, List.setIfInBounds_toArray, List.set_cons_zero, List.set_cons_succ, i64_w, i32_w]
                  rfl
                 refine take_ (i := 18) (N := some 121) (v := ?_) (a' := ?_) eT21 rfl rfl (take_ofW HT_.out HW_.out (by kernel_rfl)) (fun _ _ _ h => h) (Or.inl ⟨by rfl, ?_⟩) hHeld ?_ ?_
                 rotate_left
                 ·rintro w' ⟨s0, s1, s2, s3, s4, s5⟩
                  go_simp
                  with_reducible rfl
                 rotate_left
                 ·simp only [Act.put, List.setIfInBounds_toArray, List.set_cons_zero, List.set_cons_succ, i64_w, i32_w]
                  rfl
                 refine one_ (i := 16) (N := some 119) eT13 rfl rfl (one_of HT_.out (by kernel_rfl)) (by decide) (fun K hK => ?_)
                 refine goes_ Try.func17 (by kernel_rfl) rfl #[.slice Ao29 t298.length co29, .string ((rd_T39 l0 x99_3).f0), .string ((rd_T39 l0 x99_3).f1)] (by rfl) rfl rfl (by (try simp only [List.map_toArray, List.map_cons, List.map_nil]); first | done | rfl | (simp only [List.length_drop, List.length_take]; rfl)) ?_
                 with_reducible refine (truceref16_Get.calls k3 _ _ t298 ((rd_T39 l0 x99_3).f0) ((rd_T39 l0 x99_3).f1) t322 t323 t324 t325 _ ?side1 ?side2 A96.out).mono ?_
                 (case side1 => repeat (first | exact (Kd.V_reads' HO_11.out).2.2 | (with_reducible refine Kd.C_alloc ?_ _) | (with_reducible refine Kd.C_drewN ?_ _) | (with_reducible refine Kd.C_drew ?_)))
                 (case side2 => exact (Kd.V_reads' HO_11.out).2.1)
                 rintro e w106 ⟨rfl, hb⟩
                 refine ⟨_, rfl, ?_⟩
                 have n0_ := Aside0.mk (Kd.V_below (by (with_reducible repeat (first | apply Kd.V_alloc | apply Kd.V_drewN | apply Kd.V_drew)); exact HO_11.out) hb)
                 have n1_ := Aside0.mk (blk_below (g := gb288) (o := .cells #[.int .u64 a3_0, .int .u64 a3_1, .int .u64 a3_2, .int .u64 a3_3] 25 (0, 0)) (by (with_reducible repeat (first | apply elN | apply elD | apply elA)); exact BK288.out) hb)
                 have n2_ := Aside0.mk (blk_below (g := gb297) (o := .cells #[.int .u64 t292, .int .u64 t293, .int .u64 t294, .int .u64 t295] 25 (0, 0)) (by (with_reducible repeat (first | apply elN | apply elD | apply elA)); exact BK297.out) hb)
                 have n3_ := Aside0.mk (blk_below (g := gb307) (o := .cells #[.int .u64 t302, .int .u64 t303, .int .u64 t304, .int .u64 t305] 25 (0, 0)) (by (with_reducible repeat (first | apply elN | apply elD | apply elA)); exact BK307.out) hb)
                 have n4_ := Aside0.mk (blk_below (g := gb313) (o := .cells #[.int .u64 t308, .int .u64 t309, .int .u64 t310, .int .u64 t311] 25 (0, 0)) (by (with_reducible repeat (first | apply elN | apply elD | apply elA)); exact BK313.out) hb)
                 have n5_ := Aside0.mk (blk_below (g := gb321) (o := .cells #[.string ((rd_T39 l0 x99_3).f0), .string ((rd_T39 l0 x99_3).f1), .int .u64 ((rd_T39 l0 x99_3).f2.f0), .int .u64 ((rd_T39 l0 x99_3).f2.f1), .int .u64 ((rd_T39 l0 x99_3).f2.f2), .int .u64 ((rd_T39 l0 x99_3).f2.f3)] 39 (0, 0)) (by (with_reducible repeat (first | apply elN | apply elD | apply elA)); exact BK321.out) hb)
                 have n6_ := Aside0.mk (below_step (by repeat (first | (with_reducible first | exact HB.out | apply below_alloc | apply pw_below_drewN | apply below_drew1 | refine below_set ?_ GE288.out | refine below_set ?_ GE297.out | refine below_set ?_ GE307.out | refine below_set ?_ GE313.out | refine below_set ?_ GE321.out) | exact HB.out)) hb)
                 clear HO_11
                 clear BK288
                 clear BK297
                 clear BK307
                 clear BK313
                 clear BK321
                 clear HB
                 have HO_11 := n0_
                 have BK288 := n1_
                 have BK297 := n2_
                 have BK307 := n3_
                 have BK313 := n4_
                 have BK321 := n5_
                 have HB := n6_
                 clear n0_ n1_ n2_ n3_ n4_ n5_ n6_
                 (try clear hb)
                 (try clear hb2)
                 (try clear hk)
                 (try clear hi)
                 refine hK.out _ _ ⟨(blk_cell BK321.out 0).trans rfl, (blk_cell BK321.out 1).trans rfl, (blk_cell BK321.out 2).trans rfl, (blk_cell BK321.out 3).trans rfl, (blk_cell BK321.out 4).trans rfl, (blk_cell BK321.out 5).trans rfl⟩ (fun hHeld => ?_)
                 clear hK K
                 refine norm_ (a' := ?_) ?_ ?_
                 rotate_left
                 ·show Act.put _ (some 119) _ = _
                  simp only [Act.put, List.setIfInBounds_toArray, List.set_cons_zero, List.set_cons_succ, i64_w, i32_w]
                  rfl
                 refine pure_ (i := 19) (N := some 122) (v := ?_) (a' := ?_) eT14 rfl rfl (any_of HT_.out (by kernel_rfl)) (fun _ _ _ h => h) (Or.inl ⟨by rfl, ?_⟩) ?_ ?_
                 rotate_left
                 ·intro w'
                  go_simp
                  with_reducible rfl
                 rotate_left
                 ·simp only [Act.put, List.setIfInBounds_toArray, List.set_cons_zero, List.set_cons_succ, i64_w, i32_w]
                  rfl
                 refine pure_ (i := 20) (N := some 123) (v := ?_) (a' := ?_) eT15 rfl rfl (any_of HT_.out (by kernel_rfl)) (fun _ _ _ h => h) (Or.inl ⟨by rfl, ?_⟩) ?_ ?_
                 rotate_left
                 ·intro w'
                  go_simp
                  with_reducible rfl
                 rotate_left
                 ·simp only [Act.put, List.setIfInBounds_toArray, List.set_cons_zero, List.set_cons_succ, i64_w, i32_w]
                  rfl
                 refine done_ (done_of HT_.out (by kernel_rfl)) ?_
                 try go_wp2
                 go_roundg k3
                 case measure => have := HJ4.out; have := HJ27.out; have := HK3.out; omega
                 case rel => exact ⟨(wrap64 (x99_3 + 1)), (by first | rfl | (simp; done) | (simp [*]; done)), H', ⟨by have := HJ4.out; have := HJ27.out; have := HK3.out; omega⟩, ⟨by (with_reducible repeat (first | apply Kd.V_alloc | apply Kd.V_drewN | apply Kd.V_drew)); exact Kd.V_mono HO_11.out (fun _ hk => ⟨hk.1, ⟨hk.2.1, ⟨hk.2.2.1, hk.2.2.2.1⟩⟩⟩)⟩, ⟨by (with_reducible repeat (first | apply elN | apply elD | apply elA)); exact BK288.out⟩, ⟨by (with_reducible repeat (first | apply elN | apply elD | apply elA)); exact BK297.out⟩, ⟨by (with_reducible repeat (first | apply elN | apply elD | apply elA)); exact BK307.out⟩, ⟨by (with_reducible repeat (first | apply elN | apply elD | apply elA)); exact BK313.out⟩, ⟨by repeat (first | (with_reducible first | exact HB.out | apply below_alloc | apply pw_below_drewN | apply below_drew1 | refine below_set ?_ GE288.out | refine below_set ?_ GE297.out | refine below_set ?_ GE307.out | refine below_set ?_ GE313.out | refine below_set ?_ GE321.out) | exact HB.out)⟩⟩
              ·rw [if_neg c86] at H
               have c86b0 : (((rd_T39 l0 x99_3).f0).toList == a1.toList) = false := beq_eq_false_iff_ne.mpr c86
               have c86b1 : (((rd_T39 l0 x99_3).f0).toList != a1.toList) = true := bne_iff_ne.mpr c86
               replace H := Option.bind_eq_some_iff.mp H
               obtain ⟨⟨t326, t327, t328, t329⟩, A1070, H⟩ := H
               replace H : (if (!(t326 == ((rd_T39 l0 x99_3).f2.f0)) || (!(t327 == ((rd_T39 l0 x99_3).f2.f1)) || (!(t328 == ((rd_T39 l0 x99_3).f2.f2)) || (!(t329 == ((rd_T39 l0 x99_3).f2.f3)))))) = true then (some false) else (trucelaw16_AcctKeeps.l0 k3 l0 a1 a2 t298 l0 (l0.length : Int) (wrap64 (x99_3 + 1)) a3_0 a3_1 a3_2 a3_3 t292 t293 t294 t295)) = some r := H
               have A107 := Aside0.mk A1070
               clear A1070
               by_cases c108 : (!(t326 == ((rd_T39 l0 x99_3).f2.f0)) || (!(t327 == ((rd_T39 l0 x99_3).f2.f1)) || (!(t328 == ((rd_T39 l0 x99_3).f2.f2)) || (!(t329 == ((rd_T39 l0 x99_3).f2.f3)))))) = true
               ·rw [if_pos c108] at H
                have c108b0 : (!(t326 == ((rd_T39 l0 x99_3).f2.f0)) || (!(t327 == ((rd_T39 l0 x99_3).f2.f1)) || (!(t328 == ((rd_T39 l0 x99_3).f2.f2)) || (!(t329 == ((rd_T39 l0 x99_3).f2.f3)))))) = true := c108
                clear c108
                exact absurd (hr_.out.symm.trans (Option.some.inj H).symm) (by simp)
               ·rw [if_neg c108] at H
                have c108b0 : (!(t326 == ((rd_T39 l0 x99_3).f2.f0)) || (!(t327 == ((rd_T39 l0 x99_3).f2.f1)) || (!(t328 == ((rd_T39 l0 x99_3).f2.f2)) || (!(t329 == ((rd_T39 l0 x99_3).f2.f3)))))) = false := by simpa using c108
                clear c108
                have H' := Aside0.mk H
                clear H
                have p320 : 0 ≤ (x99_3 : Int) := of_decide_eq_true (by first | (with_reducible assumption) | assumption)
                have q320 : x99_3 < (l0.length : Int) := of_decide_eq_true (by first | (with_reducible assumption) | assumption)
                obtain ⟨ad320, e320, hx320_0, hx320_1, hx320_2, hx320_3, hx320_4, hx320_5⟩ := at_T39 HR0.out x99_3 p320 q320
                cases e320
                replace hx320_0 := (HB.out.cell (World.block_lt_of_cell? w _ hx320_0)).trans hx320_0
                replace hx320_1 := (HB.out.cell (World.block_lt_of_cell? w _ hx320_1)).trans hx320_1
                replace hx320_2 := (HB.out.cell (World.block_lt_of_cell? w _ hx320_2)).trans hx320_2
                replace hx320_3 := (HB.out.cell (World.block_lt_of_cell? w _ hx320_3)).trans hx320_3
                replace hx320_4 := (HB.out.cell (World.block_lt_of_cell? w _ hx320_4)).trans hx320_4
                replace hx320_5 := (HB.out.cell (World.block_lt_of_cell? w _ hx320_5)).trans hx320_5
                replace p320 := eq_true p320
                replace q320 := eq_true q320
                try go_wp2_with (first | ((with_reducible refine gate_dst (N := 20) rfl ?_); refine box_event ?hg (N := 20) ?hd (cs := #[.string (⟨#[]⟩ : ByteArray), .string (⟨#[]⟩ : ByteArray), .int .u64 0, .int .u64 0, .int .u64 0, .int .u64 0]) (t := 39) ?hr ?_; (case hd => rfl); (case hg => rfl); (case hr => first | (go_simp; done) | (go_simp; rfl)); intro gb321 hg w109 hbox hb; have n0_ := Aside0.mk (Kd.V_below (Kd.V_elderB (by (with_reducible repeat (first | apply Kd.V_alloc | apply Kd.V_drewN | apply Kd.V_drew)); exact HO_11.out) gb321 (Nat.le_of_eq hg.symm)) hb); have n1_ := Aside0.mk (blk_below (g := gb288) (o := .cells #[.int .u64 a3_0, .int .u64 a3_1, .int .u64 a3_2, .int .u64 a3_3] 25 (0, 0)) (by (with_reducible repeat (first | apply elN | apply elD | apply elA)); exact BK288.out) hb); have n2_ := Aside0.mk (blk_below (g := gb297) (o := .cells #[.int .u64 t292, .int .u64 t293, .int .u64 t294, .int .u64 t295] 25 (0, 0)) (by (with_reducible repeat (first | apply elN | apply elD | apply elA)); exact BK297.out) hb); have n3_ := Aside0.mk (blk_below (g := gb307) (o := .cells #[.int .u64 t302, .int .u64 t303, .int .u64 t304, .int .u64 t305] 25 (0, 0)) (by (with_reducible repeat (first | apply elN | apply elD | apply elA)); exact BK307.out) hb); have n4_ := Aside0.mk (blk_below (g := gb313) (o := .cells #[.int .u64 t308, .int .u64 t309, .int .u64 t310, .int .u64 t311] 25 (0, 0)) (by (with_reducible repeat (first | apply elN | apply elD | apply elA)); exact BK313.out) hb); have n5_ := Aside0.mk (below_step (by repeat (first | (with_reducible first | exact HB.out | apply below_alloc | apply pw_below_drewN | apply below_drew1 | refine below_set ?_ GE288.out | refine below_set ?_ GE297.out | refine below_set ?_ GE307.out | refine below_set ?_ GE313.out) | exact HB.out)) hb); have n6_ := Aside0.mk (hbox); have n7_ := Aside0.mk ((by rw [hg]; exact (below_size (by repeat (first | (with_reducible first | exact HB.out | apply below_alloc | apply pw_below_drewN | apply below_drew1 | refine below_set ?_ GE288.out | refine below_set ?_ GE297.out | refine below_set ?_ GE307.out | refine below_set ?_ GE313.out) | exact HB.out))) : w.heap.size ≤ gb321)); have n8_ := Aside0.mk ((by rw [hg]; exact (below_size (by repeat (first | (with_reducible first | exact HB.out | apply below_alloc | apply pw_below_drewN | apply below_drew1 | refine below_set ?_ GE288.out | refine below_set ?_ GE297.out | refine below_set ?_ GE307.out | refine below_set ?_ GE313.out) | exact HB.out))) : w.heap.size ≤ gb321)); have n9_ := Aside0.mk ((by rw [hg]; exact Nat.ne_of_lt (blk_lt (g := gb288) (o := .cells #[.int .u64 a3_0, .int .u64 a3_1, .int .u64 a3_2, .int .u64 a3_3] 25 (0, 0)) (by (with_reducible repeat (first | apply elN | apply elD | apply elA)); exact BK288.out)) : gb288 ≠ gb321)); have n10_ := Aside0.mk ((by rw [hg]; exact Nat.ne_of_gt (blk_lt (g := gb288) (o := .cells #[.int .u64 a3_0, .int .u64 a3_1, .int .u64 a3_2, .int .u64 a3_3] 25 (0, 0)) (by (with_reducible repeat (first | apply elN | apply elD | apply elA)); exact BK288.out)) : gb321 ≠ gb288)); have n11_ := Aside0.mk ((by rw [hg]; exact Nat.ne_of_lt (blk_lt (g := gb297) (o := .cells #[.int .u64 t292, .int .u64 t293, .int .u64 t294, .int .u64 t295] 25 (0, 0)) (by (with_reducible repeat (first | apply elN | apply elD | apply elA)); exact BK297.out)) : gb297 ≠ gb321)); have n12_ := Aside0.mk ((by rw [hg]; exact Nat.ne_of_gt (blk_lt (g := gb297) (o := .cells #[.int .u64 t292, .int .u64 t293, .int .u64 t294, .int .u64 t295] 25 (0, 0)) (by (with_reducible repeat (first | apply elN | apply elD | apply elA)); exact BK297.out)) : gb321 ≠ gb297)); have n13_ := Aside0.mk ((by rw [hg]; exact Nat.ne_of_lt (blk_lt (g := gb307) (o := .cells #[.int .u64 t302, .int .u64 t303, .int .u64 t304, .int .u64 t305] 25 (0, 0)) (by (with_reducible repeat (first | apply elN | apply elD | apply elA)); exact BK307.out)) : gb307 ≠ gb321)); have n14_ := Aside0.mk ((by rw [hg]; exact Nat.ne_of_gt (blk_lt (g := gb307) (o := .cells #[.int .u64 t302, .int .u64 t303, .int .u64 t304, .int .u64 t305] 25 (0, 0)) (by (with_reducible repeat (first | apply elN | apply elD | apply elA)); exact BK307.out)) : gb321 ≠ gb307)); have n15_ := Aside0.mk ((by rw [hg]; exact Nat.ne_of_lt (blk_lt (g := gb313) (o := .cells #[.int .u64 t308, .int .u64 t309, .int .u64 t310, .int .u64 t311] 25 (0, 0)) (by (with_reducible repeat (first | apply elN | apply elD | apply elA)); exact BK313.out)) : gb313 ≠ gb321)); have n16_ := Aside0.mk ((by rw [hg]; exact Nat.ne_of_gt (blk_lt (g := gb313) (o := .cells #[.int .u64 t308, .int .u64 t309, .int .u64 t310, .int .u64 t311] 25 (0, 0)) (by (with_reducible repeat (first | apply elN | apply elD | apply elA)); exact BK313.out)) : gb321 ≠ gb313)); clear HO_11; clear BK288; clear BK297; clear BK307; clear BK313; clear HB; have HO_11 := n0_; have BK288 := n1_; have BK297 := n2_; have BK307 := n3_; have BK313 := n4_; have HB := n5_; have BK321 := n6_; have GW321 := n7_; have GE321 := n8_; have NB288_321 := n9_; have NB321_288 := n10_; have NB297_321 := n11_; have NB321_297 := n12_; have NB307_321 := n13_; have NB321_307 := n14_; have NB313_321 := n15_; have NB321_313 := n16_; clear n0_ n1_ n2_ n3_ n4_ n5_ n6_ n7_ n8_ n9_ n10_ n11_ n12_ n13_ n14_ n15_ n16_; clear hb hbox hg; have hnb110 := NB321_288.out; have hnc110 := NB288_321.out; have hnb111 := NB321_297.out; have hnc111 := NB297_321.out; have hnb112 := NB321_307.out; have hnc112 := NB307_321.out; have hnb113 := NB321_313.out; have hnc113 := NB313_321.out; have hcz114_0 : w109.cell? ⟨gb321, 0, none⟩ = some (.string (⟨#[]⟩ : ByteArray)) := (blk_cell BK321.out 0).trans rfl; have hcz114_1 : w109.cell? ⟨gb321, 1, none⟩ = some (.string (⟨#[]⟩ : ByteArray)) := (blk_cell BK321.out 1).trans rfl; have hcz114_2 : w109.cell? ⟨gb321, 2, none⟩ = some (.int .u64 0) := (blk_cell BK321.out 2).trans rfl; have hcz114_3 : w109.cell? ⟨gb321, 3, none⟩ = some (.int .u64 0) := (blk_cell BK321.out 3).trans rfl; have hcz114_4 : w109.cell? ⟨gb321, 4, none⟩ = some (.int .u64 0) := (blk_cell BK321.out 4).trans rfl; have hcz114_5 : w109.cell? ⟨gb321, 5, none⟩ = some (.int .u64 0) := (blk_cell BK321.out 5).trans rfl; have hfz114_0 := blk_frozen BK321.out 0; have hfz114_1 := blk_frozen BK321.out 1; have hfz114_2 := blk_frozen BK321.out 2; have hfz114_3 := blk_frozen BK321.out 3; have hfz114_4 := blk_frozen BK321.out 4; have hfz114_5 := blk_frozen BK321.out 5))
                have n0_ : Aside0 (Kd.V k39 39 ((((((w109.setCell ⟨gb321, 0, none⟩ (.string ((rd_T39 l0 x99_3).f0))).setCell ⟨gb321, 1, none⟩ (.string ((rd_T39 l0 x99_3).f1))).setCell ⟨gb321, 2, none⟩ (.int .u64 ((rd_T39 l0 x99_3).f2.f0))).setCell ⟨gb321, 3, none⟩ (.int .u64 ((rd_T39 l0 x99_3).f2.f1))).setCell ⟨gb321, 4, none⟩ (.int .u64 ((rd_T39 l0 x99_3).f2.f2))).setCell ⟨gb321, 5, none⟩ (.int .u64 ((rd_T39 l0 x99_3).f2.f3))) w.heap.size (fun k_ => k_ ≠ gb288 ∧ k_ ≠ gb297 ∧ k_ ≠ gb307 ∧ k_ ≠ gb313 ∧ k_ ≠ gb321) (.slice Ao29 t298.length co29) t298) := ⟨by (with_reducible repeat (first | apply Kd.V_alloc | apply Kd.V_drewN | apply Kd.V_drew)); exact Kd.V_mono (Kd.V_far (p := ⟨gb321, 5, none⟩) (Kd.V_far (p := ⟨gb321, 4, none⟩) (Kd.V_far (p := ⟨gb321, 3, none⟩) (Kd.V_far (p := ⟨gb321, 2, none⟩) (Kd.V_far (p := ⟨gb321, 1, none⟩) (Kd.V_far (p := ⟨gb321, 0, none⟩) (Kd.V_mono HO_11.out (fun k_ hk => (⟨hk, hk.2⟩ : _ ∧ k_ ≠ gb321))) (fun _ hk => hk.2) (.string ((rd_T39 l0 x99_3).f0))) (fun _ hk => hk.2) (.string ((rd_T39 l0 x99_3).f1))) (fun _ hk => hk.2) (.int .u64 ((rd_T39 l0 x99_3).f2.f0))) (fun _ hk => hk.2) (.int .u64 ((rd_T39 l0 x99_3).f2.f1))) (fun _ hk => hk.2) (.int .u64 ((rd_T39 l0 x99_3).f2.f2))) (fun _ hk => hk.2) (.int .u64 ((rd_T39 l0 x99_3).f2.f3))) (fun _ hk => ⟨hk.1.1.1, ⟨hk.1.1.2.1, ⟨hk.1.1.2.2.1, ⟨hk.1.1.2.2.2, hk.1.2⟩⟩⟩⟩)⟩
                have n1_ : Aside0 (((((((w109.setCell ⟨gb321, 0, none⟩ (.string ((rd_T39 l0 x99_3).f0))).setCell ⟨gb321, 1, none⟩ (.string ((rd_T39 l0 x99_3).f1))).setCell ⟨gb321, 2, none⟩ (.int .u64 ((rd_T39 l0 x99_3).f2.f0))).setCell ⟨gb321, 3, none⟩ (.int .u64 ((rd_T39 l0 x99_3).f2.f1))).setCell ⟨gb321, 4, none⟩ (.int .u64 ((rd_T39 l0 x99_3).f2.f2))).setCell ⟨gb321, 5, none⟩ (.int .u64 ((rd_T39 l0 x99_3).f2.f3))).heap[gb288]? = some (.cells #[.int .u64 a3_0, .int .u64 a3_1, .int .u64 a3_2, .int .u64 a3_3] 25 (0, 0))) := ⟨by (with_reducible repeat (first | apply elN | apply elD | apply elA)); refine blk_far ?_ NB288_321.out _; (with_reducible repeat (first | apply elN | apply elD | apply elA)); refine blk_far ?_ NB288_321.out _; (with_reducible repeat (first | apply elN | apply elD | apply elA)); refine blk_far ?_ NB288_321.out _; (with_reducible repeat (first | apply elN | apply elD | apply elA)); refine blk_far ?_ NB288_321.out _; (with_reducible repeat (first | apply elN | apply elD | apply elA)); refine blk_far ?_ NB288_321.out _; (with_reducible repeat (first | apply elN | apply elD | apply elA)); refine blk_far ?_ NB288_321.out _; (with_reducible repeat (first | apply elN | apply elD | apply elA)); exact BK288.out⟩
                have n2_ : Aside0 (((((((w109.setCell ⟨gb321, 0, none⟩ (.string ((rd_T39 l0 x99_3).f0))).setCell ⟨gb321, 1, none⟩ (.string ((rd_T39 l0 x99_3).f1))).setCell ⟨gb321, 2, none⟩ (.int .u64 ((rd_T39 l0 x99_3).f2.f0))).setCell ⟨gb321, 3, none⟩ (.int .u64 ((rd_T39 l0 x99_3).f2.f1))).setCell ⟨gb321, 4, none⟩ (.int .u64 ((rd_T39 l0 x99_3).f2.f2))).setCell ⟨gb321, 5, none⟩ (.int .u64 ((rd_T39 l0 x99_3).f2.f3))).heap[gb297]? = some (.cells #[.int .u64 t292, .int .u64 t293, .int .u64 t294, .int .u64 t295] 25 (0, 0))) := ⟨by (with_reducible repeat (first | apply elN | apply elD | apply elA)); refine blk_far ?_ NB297_321.out _; (with_reducible repeat (first | apply elN | apply elD | apply elA)); refine blk_far ?_ NB297_321.out _; (with_reducible repeat (first | apply elN | apply elD | apply elA)); refine blk_far ?_ NB297_321.out _; (with_reducible repeat (first | apply elN | apply elD | apply elA)); refine blk_far ?_ NB297_321.out _; (with_reducible repeat (first | apply elN | apply elD | apply elA)); refine blk_far ?_ NB297_321.out _; (with_reducible repeat (first | apply elN | apply elD | apply elA)); refine blk_far ?_ NB297_321.out _; (with_reducible repeat (first | apply elN | apply elD | apply elA)); exact BK297.out⟩
                have n3_ : Aside0 (((((((w109.setCell ⟨gb321, 0, none⟩ (.string ((rd_T39 l0 x99_3).f0))).setCell ⟨gb321, 1, none⟩ (.string ((rd_T39 l0 x99_3).f1))).setCell ⟨gb321, 2, none⟩ (.int .u64 ((rd_T39 l0 x99_3).f2.f0))).setCell ⟨gb321, 3, none⟩ (.int .u64 ((rd_T39 l0 x99_3).f2.f1))).setCell ⟨gb321, 4, none⟩ (.int .u64 ((rd_T39 l0 x99_3).f2.f2))).setCell ⟨gb321, 5, none⟩ (.int .u64 ((rd_T39 l0 x99_3).f2.f3))).heap[gb307]? = some (.cells #[.int .u64 t302, .int .u64 t303, .int .u64 t304, .int .u64 t305] 25 (0, 0))) := ⟨by (with_reducible repeat (first | apply elN | apply elD | apply elA)); refine blk_far ?_ NB307_321.out _; (with_reducible repeat (first | apply elN | apply elD | apply elA)); refine blk_far ?_ NB307_321.out _; (with_reducible repeat (first | apply elN | apply elD | apply elA)); refine blk_far ?_ NB307_321.out _; (with_reducible repeat (first | apply elN | apply elD | apply elA)); refine blk_far ?_ NB307_321.out _; (with_reducible repeat (first | apply elN | apply elD | apply elA)); refine blk_far ?_ NB307_321.out _; (with_reducible repeat (first | apply elN | apply elD | apply elA)); refine blk_far ?_ NB307_321.out _; (with_reducible repeat (first | apply elN | apply elD | apply elA)); exact BK307.out⟩
                have n4_ : Aside0 (((((((w109.setCell ⟨gb321, 0, none⟩ (.string ((rd_T39 l0 x99_3).f0))).setCell ⟨gb321, 1, none⟩ (.string ((rd_T39 l0 x99_3).f1))).setCell ⟨gb321, 2, none⟩ (.int .u64 ((rd_T39 l0 x99_3).f2.f0))).setCell ⟨gb321, 3, none⟩ (.int .u64 ((rd_T39 l0 x99_3).f2.f1))).setCell ⟨gb321, 4, none⟩ (.int .u64 ((rd_T39 l0 x99_3).f2.f2))).setCell ⟨gb321, 5, none⟩ (.int .u64 ((rd_T39 l0 x99_3).f2.f3))).heap[gb313]? = some (.cells #[.int .u64 t308, .int .u64 t309, .int .u64 t310, .int .u64 t311] 25 (0, 0))) := ⟨by (with_reducible repeat (first | apply elN | apply elD | apply elA)); refine blk_far ?_ NB313_321.out _; (with_reducible repeat (first | apply elN | apply elD | apply elA)); refine blk_far ?_ NB313_321.out _; (with_reducible repeat (first | apply elN | apply elD | apply elA)); refine blk_far ?_ NB313_321.out _; (with_reducible repeat (first | apply elN | apply elD | apply elA)); refine blk_far ?_ NB313_321.out _; (with_reducible repeat (first | apply elN | apply elD | apply elA)); refine blk_far ?_ NB313_321.out _; (with_reducible repeat (first | apply elN | apply elD | apply elA)); refine blk_far ?_ NB313_321.out _; (with_reducible repeat (first | apply elN | apply elD | apply elA)); exact BK313.out⟩
                have n5_ : Aside0 (((((((w109.setCell ⟨gb321, 0, none⟩ (.string ((rd_T39 l0 x99_3).f0))).setCell ⟨gb321, 1, none⟩ (.string ((rd_T39 l0 x99_3).f1))).setCell ⟨gb321, 2, none⟩ (.int .u64 ((rd_T39 l0 x99_3).f2.f0))).setCell ⟨gb321, 3, none⟩ (.int .u64 ((rd_T39 l0 x99_3).f2.f1))).setCell ⟨gb321, 4, none⟩ (.int .u64 ((rd_T39 l0 x99_3).f2.f2))).setCell ⟨gb321, 5, none⟩ (.int .u64 ((rd_T39 l0 x99_3).f2.f3))).heap[gb321]? = some (.cells #[.string ((rd_T39 l0 x99_3).f0), .string ((rd_T39 l0 x99_3).f1), .int .u64 ((rd_T39 l0 x99_3).f2.f0), .int .u64 ((rd_T39 l0 x99_3).f2.f1), .int .u64 ((rd_T39 l0 x99_3).f2.f2), .int .u64 ((rd_T39 l0 x99_3).f2.f3)] 39 (0, 0))) := ⟨by (with_reducible repeat (first | apply elN | apply elD | apply elA)); refine blk_put (cs := #[.string ((rd_T39 l0 x99_3).f0), .string ((rd_T39 l0 x99_3).f1), .int .u64 ((rd_T39 l0 x99_3).f2.f0), .int .u64 ((rd_T39 l0 x99_3).f2.f1), .int .u64 ((rd_T39 l0 x99_3).f2.f2), .int .u64 0]) ?_ 5 _ rfl; (with_reducible repeat (first | apply elN | apply elD | apply elA)); refine blk_put (cs := #[.string ((rd_T39 l0 x99_3).f0), .string ((rd_T39 l0 x99_3).f1), .int .u64 ((rd_T39 l0 x99_3).f2.f0), .int .u64 ((rd_T39 l0 x99_3).f2.f1), .int .u64 0, .int .u64 0]) ?_ 4 _ rfl; (with_reducible repeat (first | apply elN | apply elD | apply elA)); refine blk_put (cs := #[.string ((rd_T39 l0 x99_3).f0), .string ((rd_T39 l0 x99_3).f1), .int .u64 ((rd_T39 l0 x99_3).f2.f0), .int .u64 0, .int .u64 0, .int .u64 0]) ?_ 3 _ rfl; (with_reducible repeat (first | apply elN | apply elD | apply elA)); refine blk_put (cs := #[.string ((rd_T39 l0 x99_3).f0), .string ((rd_T39 l0 x99_3).f1), .int .u64 0, .int .u64 0, .int .u64 0, .int .u64 0]) ?_ 2 _ rfl; (with_reducible repeat (first | apply elN | apply elD | apply elA)); refine blk_put (cs := #[.string ((rd_T39 l0 x99_3).f0), .string (⟨#[]⟩ : ByteArray), .int .u64 0, .int .u64 0, .int .u64 0, .int .u64 0]) ?_ 1 _ rfl; (with_reducible repeat (first | apply elN | apply elD | apply elA)); refine blk_put (cs := #[.string (⟨#[]⟩ : ByteArray), .string (⟨#[]⟩ : ByteArray), .int .u64 0, .int .u64 0, .int .u64 0, .int .u64 0]) ?_ 0 _ rfl; (with_reducible repeat (first | apply elN | apply elD | apply elA)); exact BK321.out⟩
                have n6_ : Aside0 (Below w.heap.size w ((((((w109.setCell ⟨gb321, 0, none⟩ (.string ((rd_T39 l0 x99_3).f0))).setCell ⟨gb321, 1, none⟩ (.string ((rd_T39 l0 x99_3).f1))).setCell ⟨gb321, 2, none⟩ (.int .u64 ((rd_T39 l0 x99_3).f2.f0))).setCell ⟨gb321, 3, none⟩ (.int .u64 ((rd_T39 l0 x99_3).f2.f1))).setCell ⟨gb321, 4, none⟩ (.int .u64 ((rd_T39 l0 x99_3).f2.f2))).setCell ⟨gb321, 5, none⟩ (.int .u64 ((rd_T39 l0 x99_3).f2.f3)))) := ⟨by repeat (first | (with_reducible first | exact HB.out | apply below_alloc | apply pw_below_drewN | apply below_drew1 | refine below_set ?_ GE288.out | refine below_set ?_ GE297.out | refine below_set ?_ GE307.out | refine below_set ?_ GE313.out | refine below_set ?_ GE321.out) | exact HB.out)⟩
                (try clear HO_11)
                (try clear BK288)
                (try clear BK297)
                (try clear BK307)
                (try clear BK313)
                (try clear BK321)
                (try clear HB)
                generalize ((((((w109.setCell ⟨gb321, 0, none⟩ (.string ((rd_T39 l0 x99_3).f0))).setCell ⟨gb321, 1, none⟩ (.string ((rd_T39 l0 x99_3).f1))).setCell ⟨gb321, 2, none⟩ (.int .u64 ((rd_T39 l0 x99_3).f2.f0))).setCell ⟨gb321, 3, none⟩ (.int .u64 ((rd_T39 l0 x99_3).f2.f1))).setCell ⟨gb321, 4, none⟩ (.int .u64 ((rd_T39 l0 x99_3).f2.f2))).setCell ⟨gb321, 5, none⟩ (.int .u64 ((rd_T39 l0 x99_3).f2.f3))) = w115 at n0_ n1_ n2_ n3_ n4_ n5_ n6_ ⊢
                have HO_11 := n0_
                have BK288 := n1_
                have BK297 := n2_
                have BK307 := n3_
                have BK313 := n4_
                have BK321 := n5_
                have HB := n6_
                clear n0_ n1_ n2_ n3_ n4_ n5_ n6_
                have n0_ := Aside0.mk (Kd.V_drew HO_11.out)
                have n1_ := Aside0.mk (blk_drew BK288.out)
                have n2_ := Aside0.mk (blk_drew BK297.out)
                have n3_ := Aside0.mk (blk_drew BK307.out)
                have n4_ := Aside0.mk (blk_drew BK313.out)
                have n5_ := Aside0.mk (blk_drew BK321.out)
                have n6_ := Aside0.mk (below_drew1 HB.out)
                clear HO_11
                clear BK288
                clear BK297
                clear BK307
                clear BK313
                clear BK321
                clear HB
                have HO_11 := n0_
                have BK288 := n1_
                have BK297 := n2_
                have BK307 := n3_
                have BK313 := n4_
                have BK321 := n5_
                have HB := n6_
                clear n0_ n1_ n2_ n3_ n4_ n5_ n6_
                refine start_ (n := 21) (S := fun w' => w'.cell? ⟨gb321, 0, none⟩ = some (.string ((rd_T39 l0 x99_3).f0)) ∧ w'.cell? ⟨gb321, 1, none⟩ = some (.string ((rd_T39 l0 x99_3).f1)) ∧ w'.cell? ⟨gb321, 2, none⟩ = some (.int .u64 ((rd_T39 l0 x99_3).f2.f0)) ∧ w'.cell? ⟨gb321, 3, none⟩ = some (.int .u64 ((rd_T39 l0 x99_3).f2.f1)) ∧ w'.cell? ⟨gb321, 4, none⟩ = some (.int .u64 ((rd_T39 l0 x99_3).f2.f2)) ∧ w'.cell? ⟨gb321, 5, none⟩ = some (.int .u64 ((rd_T39 l0 x99_3).f2.f3))) (ds := []) eT0 (by kernel_rfl) rfl rfl ⟨(blk_cell BK321.out 0).trans rfl, (blk_cell BK321.out 1).trans rfl, (blk_cell BK321.out 2).trans rfl, (blk_cell BK321.out 3).trans rfl, (blk_cell BK321.out 4).trans rfl, (blk_cell BK321.out 5).trans rfl⟩ (fun hHeld => ?_); refine with_tabW trucelaw16_AcctKeeps.tab14 trucelaw16_AcctKeeps.bits14 (fun HT_ HW_ => ?_)
                generalize w115.drew = w116 at HO_11 BK288 BK297 BK307 BK313 BK321 HB hHeld ⊢
                refine pure_ (i := 0) (N := some 103) (v := ?_) (a' := ?_) eT1 rfl rfl (any_of HT_.out (by kernel_rfl)) (fun _ _ _ h => h) (Or.inl ⟨by rfl, ?_⟩) ?_ ?_
                rotate_left
                ·intro w'
                 go_simp
                 with_reducible rfl
                rotate_left
                ·simp only [Act.put, List.setIfInBounds_toArray, List.set_cons_zero, List.set_cons_succ, i64_w, i32_w]
                 rfl
                refine pure_ (i := 2) (N := some 105) (v := ?_) (a' := ?_) eT2 rfl rfl (any_of HT_.out (by kernel_rfl)) (fun _ _ _ h => h) (Or.inl ⟨by rfl, ?_⟩) ?_ ?_
                rotate_left
                ·intro w'
                 go_simp
                 with_reducible rfl
                rotate_left
                ·simp only [Act.put, List.setIfInBounds_toArray, List.set_cons_zero, List.set_cons_succ, i64_w, i32_w]
                 rfl
                refine take_ (i := 1) (N := some 104) (v := ?_) (a' := ?_) eT3 rfl rfl (take_ofW HT_.out HW_.out (by kernel_rfl)) (fun _ _ _ h => h) (Or.inl ⟨by rfl, ?_⟩) hHeld ?_ ?_
                rotate_left
                ·rintro w' ⟨s0, s1, s2, s3, s4, s5⟩
                 go_simp
                 with_reducible rfl
                rotate_left
                ·simp only [Act.put, List.setIfInBounds_toArray, List.set_cons_zero, List.set_cons_succ, i64_w, i32_w]
                 rfl
                refine pure_ (i := 3) (N := some 106) (v := ?_) (a' := ?_) eT4 rfl rfl (any_of HT_.out (by kernel_rfl)) (fun _ _ _ h => h) (Or.inl ⟨by rfl, ?_⟩) ?_ ?_
                rotate_left
                ·intro w'
                 go_simp
                 with_reducible rfl
                rotate_left
                ·simp only [Act.put, List.setIfInBounds_toArray, List.set_cons_zero, List.set_cons_succ, i64_w, i32_w]
                 rfl
                refine pure_ (i := 4) (N := some 107) (v := ?_) (a' := ?_) eT5 rfl rfl (any_of HT_.out (by kernel_rfl)) (fun _ _ _ h => h) (Or.inl ⟨by rfl, ?_⟩) ?_ ?_
                rotate_left
                ·intro w'
                 go_simp
                 with_reducible rfl
                rotate_left
                ·simp only [Act.put, List.setIfInBounds_toArray, List.set_cons_zero, List.set_cons_succ, i64_w, i32_w]
                 rfl
                refine pure_ (i := 5) (N := some 108) (v := undef) (a' := ?_) eT6 rfl rfl (any_of HT_.out (by kernel_rfl)) (fun _ _ _ h => h) (Or.inr ⟨by rfl, rfl⟩) ?_ ?_
                rotate_left
                ·simp only [Act.put, List.setIfInBounds_toArray, List.set_cons_zero, List.set_cons_succ, i64_w, i32_w]
                 rfl
                refine pure_ (i := 6) (N := some 109) (v := undef) (a' := ?_) eT27 rfl rfl (any_of HT_.out (by kernel_rfl)) (fun _ _ _ h => h) (Or.inr ⟨by rfl, rfl⟩) ?_ ?_
                rotate_left
                ·simp only [Act.put, List.setIfInBounds_toArray, List.set_cons_zero, List.set_cons_succ, i64_w, i32_w]
                 rfl
                refine pure_ (i := 7) (N := some 110) (v := undef) (a' := ?_) eT7 rfl rfl (any_of HT_.out (by kernel_rfl)) (fun _ _ _ h => h) (Or.inr ⟨by rfl, rfl⟩) ?_ ?_
                rotate_left
                ·simp only [Act.put, List.setIfInBounds_toArray, List.set_cons_zero, List.set_cons_succ, i64_w, i32_w]
                 rfl
                refine pure_ (i := 8) (N := some 111) (v := undef) (a' := ?_) eT8 rfl rfl (any_of HT_.out (by kernel_rfl)) (fun _ _ _ h => h) (Or.inr ⟨by rfl, rfl⟩) ?_ ?_
                rotate_left
                ·simp only [Act.put, List.setIfInBounds_toArray, List.set_cons_zero, List.set_cons_succ, i64_w, i32_w]
                 rfl
                refine pure_ (i := 9) (N := some 112) (v := ?_) (a' := ?_) eT9 rfl rfl (any_of HT_.out (by kernel_rfl)) (fun _ _ _ h => h) (Or.inl ⟨by rfl, ?_⟩) ?_ ?_
                rotate_left
                ·intro w'
                 go_simp
                 with_reducible rfl
                rotate_left
                ·simp only [Act.put, List.setIfInBounds_toArray, List.set_cons_zero, List.set_cons_succ, i64_w, i32_w]
                 rfl
                refine pure_ (i := 10) (N := some 113) (v := ?_) (a' := ?_) eT10 rfl rfl (any_of HT_.out (by kernel_rfl)) (fun _ _ _ h => h) (Or.inl ⟨by rfl, ?_⟩) ?_ ?_
                rotate_left
                ·intro w'
                 go_simp
                 with_reducible rfl
                rotate_left
                ·simp only [Act.put, List.setIfInBounds_toArray, List.set_cons_zero, List.set_cons_succ, i64_w, i32_w]
                 rfl
                refine pure_ (i := 11) (N := some 114) (v := ?_) (a' := ?_) eT11 rfl rfl (any_of HT_.out (by kernel_rfl)) (fun _ _ _ h => h) (Or.inl ⟨by rfl, ?_⟩) ?_ ?_
                rotate_left
                ·intro w'
                 go_simp
                 with_reducible rfl
                rotate_left
                ·simp only [Act.put, List.setIfInBounds_toArray, List.set_cons_zero, List.set_cons_succ, i64_w, i32_w]
                 rfl
                refine pure_ (i := 12) (N := some 115) (v := ?_) (a' := ?_) eT12 rfl rfl (any_of HT_.out (by kernel_rfl)) (fun _ _ _ h => h) (Or.inl ⟨by rfl, ?_⟩) ?_ ?_
                rotate_left
                ·intro w'
                 go_simp
                 with_reducible rfl
                rotate_left
                ·simp only [Act.put, List.setIfInBounds_toArray, List.set_cons_zero, List.set_cons_succ, i64_w, i32_w]
                 rfl
                refine pure_ (i := 14) (N := some 117) (v := ?_) (a' := ?_) eT17 rfl rfl (any_of HT_.out (by kernel_rfl)) (fun _ _ _ h => h) (Or.inl ⟨by rfl, ?_⟩) ?_ ?_
                rotate_left
                ·intro w'
                 go_simp
                 with_reducible rfl
                rotate_left
                ·simp only [Act.put, List.setIfInBounds_toArray, List.set_cons_zero, List.set_cons_succ, i64_w, i32_w]
                 rfl
                refine pure_ (i := 17) (N := some 120) (v := ?_) (a' := ?_) eT18 rfl rfl (any_of HT_.out (by kernel_rfl)) (fun _ _ _ h => h) (Or.inl ⟨by rfl, ?_⟩) ?_ ?_
                rotate_left
                ·intro w'
                 go_simp
                 with_reducible rfl
                rotate_left
                ·simp only [Act.put, List.setIfInBounds_toArray, List.set_cons_zero, List.set_cons_succ, i64_w, i32_w]
                 rfl
                refine take_ (i := 13) (N := some 116) (v := ?_) (a' := ?_) eT19 rfl rfl (take_ofW HT_.out HW_.out (by kernel_rfl)) (fun _ _ _ h => h) (Or.inl ⟨by rfl, ?_⟩) hHeld ?_ ?_
                rotate_left
                ·rintro w' ⟨s0, s1, s2, s3, s4, s5⟩
                 go_simp
                 with_reducible rfl
                rotate_left
                ·simp only [Act.put, List.setIfInBounds_toArray, List.set_cons_zero, List.set_cons_succ, i64_w, i32_w]
                 rfl
                refine take_ (i := 15) (N := some 118) (v := ?_) (a' := ?_) eT20 rfl rfl (take_ofW HT_.out HW_.out (by kernel_rfl)) (fun _ _ _ h => h) (Or.inl ⟨by rfl, ?_⟩) hHeld ?_ ?_
                rotate_left
                ·rintro w' ⟨s0, s1, s2, s3, s4, s5⟩
                 go_simp
                 with_reducible rfl
                rotate_left
                ·simp only [Act.put, List.setIfInBounds_toArray, List.set_cons_zero, List.set_cons_succ, i64_w, i32_w]
                 rfl
                refine take_ (i := 18) (N := some 121) (v := ?_) (a' := ?_) eT21 rfl rfl (take_ofW HT_.out HW_.out (by kernel_rfl)) (fun _ _ _ h => h) (Or.inl ⟨by rfl, ?_⟩) hHeld ?_ ?_
                rotate_left
                ·rintro w' ⟨s0, s1, s2, s3, s4, s5⟩
                 go_simp
                 with_reducible rfl
                rotate_left
                ·simp only [Act.put, List.setIfInBounds_toArray, List.set_cons_zero, List.set_cons_succ, i64_w, i32_w]
                 rfl
                refine one_ (i := 16) (N := some 119) eT13 rfl rfl (one_of HT_.out (by kernel_rfl)) (by decide) (fun K hK => ?_)
                refine goes_ Try.func17 (by kernel_rfl) rfl #[.slice Ao29 t298.length co29, .string ((rd_T39 l0 x99_3).f0), .string ((rd_T39 l0 x99_3).f1)] (by rfl) rfl rfl (by (try simp only [List.map_toArray, List.map_cons, List.map_nil]); first | done | rfl | (simp only [List.length_drop, List.length_take]; rfl)) ?_
                with_reducible refine (truceref16_Get.calls k3 _ _ t298 ((rd_T39 l0 x99_3).f0) ((rd_T39 l0 x99_3).f1) t326 t327 t328 t329 _ ?side1 ?side2 A107.out).mono ?_
                (case side1 => repeat (first | exact (Kd.V_reads' HO_11.out).2.2 | (with_reducible refine Kd.C_alloc ?_ _) | (with_reducible refine Kd.C_drewN ?_ _) | (with_reducible refine Kd.C_drew ?_)))
                (case side2 => exact (Kd.V_reads' HO_11.out).2.1)
                rintro e w117 ⟨rfl, hb⟩
                refine ⟨_, rfl, ?_⟩
                have n0_ := Aside0.mk (Kd.V_below (by (with_reducible repeat (first | apply Kd.V_alloc | apply Kd.V_drewN | apply Kd.V_drew)); exact HO_11.out) hb)
                have n1_ := Aside0.mk (blk_below (g := gb288) (o := .cells #[.int .u64 a3_0, .int .u64 a3_1, .int .u64 a3_2, .int .u64 a3_3] 25 (0, 0)) (by (with_reducible repeat (first | apply elN | apply elD | apply elA)); exact BK288.out) hb)
                have n2_ := Aside0.mk (blk_below (g := gb297) (o := .cells #[.int .u64 t292, .int .u64 t293, .int .u64 t294, .int .u64 t295] 25 (0, 0)) (by (with_reducible repeat (first | apply elN | apply elD | apply elA)); exact BK297.out) hb)
                have n3_ := Aside0.mk (blk_below (g := gb307) (o := .cells #[.int .u64 t302, .int .u64 t303, .int .u64 t304, .int .u64 t305] 25 (0, 0)) (by (with_reducible repeat (first | apply elN | apply elD | apply elA)); exact BK307.out) hb)
                have n4_ := Aside0.mk (blk_below (g := gb313) (o := .cells #[.int .u64 t308, .int .u64 t309, .int .u64 t310, .int .u64 t311] 25 (0, 0)) (by (with_reducible repeat (first | apply elN | apply elD | apply elA)); exact BK313.out) hb)
                have n5_ := Aside0.mk (blk_below (g := gb321) (o := .cells #[.string ((rd_T39 l0 x99_3).f0), .string ((rd_T39 l0 x99_3).f1), .int .u64 ((rd_T39 l0 x99_3).f2.f0), .int .u64 ((rd_T39 l0 x99_3).f2.f1), .int .u64 ((rd_T39 l0 x99_3).f2.f2), .int .u64 ((rd_T39 l0 x99_3).f2.f3)] 39 (0, 0)) (by (with_reducible repeat (first | apply elN | apply elD | apply elA)); exact BK321.out) hb)
                have n6_ := Aside0.mk (below_step (by repeat (first | (with_reducible first | exact HB.out | apply below_alloc | apply pw_below_drewN | apply below_drew1 | refine below_set ?_ GE288.out | refine below_set ?_ GE297.out | refine below_set ?_ GE307.out | refine below_set ?_ GE313.out | refine below_set ?_ GE321.out) | exact HB.out)) hb)
                clear HO_11
                clear BK288
                clear BK297
                clear BK307
                clear BK313
                clear BK321
                clear HB
                have HO_11 := n0_
                have BK288 := n1_
                have BK297 := n2_
                have BK307 := n3_
                have BK313 := n4_
                have BK321 := n5_
                have HB := n6_
                clear n0_ n1_ n2_ n3_ n4_ n5_ n6_
                (try clear hb)
                (try clear hb2)
                (try clear hk)
                (try clear hi)
                refine hK.out _ _ ⟨(blk_cell BK321.out 0).trans rfl, (blk_cell BK321.out 1).trans rfl, (blk_cell BK321.out 2).trans rfl, (blk_cell BK321.out 3).trans rfl, (blk_cell BK321.out 4).trans rfl, (blk_cell BK321.out 5).trans rfl⟩ (fun hHeld => ?_)
                clear hK K
                refine norm_ (a' := ?_) ?_ ?_
                rotate_left
                ·show Act.put _ (some 119) _ = _
                 simp only [Act.put, List.setIfInBounds_toArray, List.set_cons_zero, List.set_cons_succ, i64_w, i32_w]
                 rfl
                refine pure_ (i := 19) (N := some 122) (v := ?_) (a' := ?_) eT14 rfl rfl (any_of HT_.out (by kernel_rfl)) (fun _ _ _ h => h) (Or.inl ⟨by rfl, ?_⟩) ?_ ?_
                rotate_left
                ·intro w'
                 go_simp
                 with_reducible rfl
                rotate_left
                ·simp only [Act.put, List.setIfInBounds_toArray, List.set_cons_zero, List.set_cons_succ, i64_w, i32_w]
                 rfl
                refine pure_ (i := 20) (N := some 123) (v := ?_) (a' := ?_) eT15 rfl rfl (any_of HT_.out (by kernel_rfl)) (fun _ _ _ h => h) (Or.inl ⟨by rfl, ?_⟩) ?_ ?_
                rotate_left
                ·intro w'
                 go_simp
                 with_reducible rfl
                rotate_left
                ·simp only [Act.put, List.setIfInBounds_toArray, List.set_cons_zero, List.set_cons_succ, i64_w, i32_w]
                 rfl
                refine done_ (done_of HT_.out (by kernel_rfl)) ?_
                try go_wp2
                go_roundg k3
                case measure => have := HJ4.out; have := HJ27.out; have := HK3.out; omega
                case rel => exact ⟨(wrap64 (x99_3 + 1)), (by first | rfl | (simp; done) | (simp [*]; done)), H', ⟨by have := HJ4.out; have := HJ27.out; have := HK3.out; omega⟩, ⟨by (with_reducible repeat (first | apply Kd.V_alloc | apply Kd.V_drewN | apply Kd.V_drew)); exact Kd.V_mono HO_11.out (fun _ hk => ⟨hk.1, ⟨hk.2.1, ⟨hk.2.2.1, hk.2.2.2.1⟩⟩⟩)⟩, ⟨by (with_reducible repeat (first | apply elN | apply elD | apply elA)); exact BK288.out⟩, ⟨by (with_reducible repeat (first | apply elN | apply elD | apply elA)); exact BK297.out⟩, ⟨by (with_reducible repeat (first | apply elN | apply elD | apply elA)); exact BK307.out⟩, ⟨by (with_reducible repeat (first | apply elN | apply elD | apply elA)); exact BK313.out⟩, ⟨by repeat (first | (with_reducible first | exact HB.out | apply below_alloc | apply pw_below_drewN | apply below_drew1 | refine below_set ?_ GE288.out | refine below_set ?_ GE297.out | refine below_set ?_ GE307.out | refine below_set ?_ GE313.out | refine below_set ?_ GE321.out) | exact HB.out)⟩⟩
             ·rw [if_neg c85] at H
              exact absurd H (by simp)
            ·rw [if_neg c84] at H
             exact absurd H (by simp)
           ·rw [if_neg c83] at H
            have c83b0 : decide (x99_3 < (l0.length : Int)) = false := decide_eq_false c83
            clear c83
            have H' := Aside0.mk H
            clear H
            go_wp2
            go_meet
            case rel => exact ⟨_, H', ⟨by have := HJ4.out; have := HJ27.out; have := HK3.out; first | omega | exact Nat.le_refl _⟩, ⟨by (with_reducible repeat (first | apply elN | apply elD | apply elA)); exact BK288.out⟩, ⟨by (with_reducible repeat (first | apply elN | apply elD | apply elA)); exact BK297.out⟩, ⟨by repeat (first | (with_reducible first | exact HB.out | apply below_alloc | apply pw_below_drewN | apply below_drew1 | refine below_set ?_ GE288.out | refine below_set ?_ GE297.out | refine below_set ?_ GE307.out | refine below_set ?_ GE313.out) | exact HB.out)⟩⟩
     ·rw [if_neg c24] at H
      have c24b0 : (t301 == 0) = false := beq_eq_false_iff_ne.mpr c24
      have c24b1 : (t301 != 0) = true := bne_iff_ne.mpr c24
      (first | rw [c24b0] | (simp only [i64_w, i32_w]; rw [c24b0]) | skip)
      have H' := Aside0.mk H
      clear H
      go_wp2
      go_meet
      case rel => exact ⟨_, H', ⟨by have := HJ4.out; first | omega | exact Nat.le_refl _⟩, ⟨by (with_reducible repeat (first | apply elN | apply elD | apply elA)); exact BK288.out⟩, ⟨by (with_reducible repeat (first | apply elN | apply elD | apply elA)); exact BK297.out⟩, ⟨by repeat (first | (with_reducible first | exact HB.out | apply below_alloc | apply pw_below_drewN | apply below_drew1 | refine below_set ?_ GE288.out | refine below_set ?_ GE297.out) | exact HB.out)⟩⟩
    case rest =>
     clear HC16
     try clear c1
     try clear c2
     try clear p2
     try clear p3
     try clear q3
     try clear hx3
     try clear p6
     try clear c8
     try clear c9
     try clear c10
     try clear c11
     try clear c17
     try clear c24
     try clear c24b0
     try clear c24b1
     try clear p32
     try clear q32
     try clear hx32
     try clear p64
     try clear c83
     try clear c83b0
     try clear c84
     try clear c85
     try clear c86
     try clear c86b0
     try clear c86b1
     try clear c87
     try clear c87b0
     try clear c87b1
     try clear c97
     try clear c97b0
     try clear c99
     try clear c100
     try clear c101
     try clear c102
     try clear c108
     try clear c108b0
     try clear c110
     try clear c111
     try clear c112
     try clear c113
     try clear hcz103_0
     try clear hcz103_1
     try clear hcz103_2
     try clear hcz103_3
     try clear hcz103_4
     try clear hcz103_5
     try clear hcz114_0
     try clear hcz114_1
     try clear hcz114_2
     try clear hcz114_3
     try clear hcz114_4
     try clear hcz114_5
     try clear hfz103_0
     try clear hfz103_1
     try clear hfz103_2
     try clear hfz103_3
     try clear hfz103_4
     try clear hfz103_5
     try clear hfz114_0
     try clear hfz114_1
     try clear hfz114_2
     try clear hfz114_3
     try clear hfz114_4
     try clear hfz114_5
     try clear hx320_0
     try clear hx320_1
     try clear hx320_2
     try clear hx320_3
     try clear hx320_4
     try clear hx320_5
     try clear p320
     try clear q320
     obtain ⟨kq, HA, HJ15, BK288, BK297, HB⟩ := hcut
     cases kq with
     | zero => exact absurd HA.out (by simp [trucelaw16_AcctKeeps.j3])
     | succ kj15 =>
      have H := HA.out
      clear HA
      simp only [trucelaw16_AcctKeeps.j3] at H
      replace H := Option.bind_eq_some_iff.mp H
      obtain ⟨⟨t330, t333⟩, A1180, H⟩ := H
      replace H : (if t333 = 0 then ((truceref16_Sum.f kj15 t330 a2).bind fun bt336 => ((truceref01_Sub.f t292 t293 t294 t295 a3_0 a3_1 a3_2 a3_3).bind fun bt342 => ((truceref16_Fit.f kj15 t330).bind fun t348 => (if t348 = true then (if bt342.2.2.2.2 = true then (some false) else (if (bt336.1 == bt342.1 && (bt336.2.1 == bt342.2.1 && (bt336.2.2.1 == bt342.2.2.1 && (bt336.2.2.2.1 == bt342.2.2.2.1)))) = true then ((trucelaw16_awake.f kj15).bind fun t349 => (some t349)) else (some false))) else (some false))))) else ((truceref16_Same.f kj15 t330 l0).bind fun t334 => (if t334 = true then ((trucelaw16_awake.f kj15).bind fun t335 => (some t335)) else (some false)))) = some r := H
      have A118 := Aside0.mk A1180
      clear A1180
      by_cases c119 : t333 = 0
      ·rw [if_pos c119] at H
       have c119b0 : (t333 == 0) = true := beq_iff_eq.mpr c119
       have c119b1 : (t333 != 0) = false := bne_eq_false_iff_eq.mpr c119
       clear c119
       replace H := Option.bind_eq_some_iff.mp H
       obtain ⟨⟨t336, t337, t338, t339, t340⟩, A1200, H⟩ := H
       replace H : ((truceref01_Sub.f t292 t293 t294 t295 a3_0 a3_1 a3_2 a3_3).bind fun bt342 => ((truceref16_Fit.f kj15 t330).bind fun t348 => (if t348 = true then (if bt342.2.2.2.2 = true then (some false) else (if (t336 == bt342.1 && (t337 == bt342.2.1 && (t338 == bt342.2.2.1 && (t339 == bt342.2.2.2.1)))) = true then ((trucelaw16_awake.f kj15).bind fun t349 => (some t349)) else (some false))) else (some false)))) = some r := H
       have A120 := Aside0.mk A1200
       clear A1200
       replace H := Option.bind_eq_some_iff.mp H
       obtain ⟨⟨t342, t343, t344, t345, t346⟩, A1210, H⟩ := H
       replace H : ((truceref16_Fit.f kj15 t330).bind fun t348 => (if t348 = true then (if t346 = true then (some false) else (if (t336 == t342 && (t337 == t343 && (t338 == t344 && (t339 == t345)))) = true then ((trucelaw16_awake.f kj15).bind fun t349 => (some t349)) else (some false))) else (some false))) = some r := H
       have A121 := Aside0.mk A1210
       clear A1210
       replace H := Option.bind_eq_some_iff.mp H
       obtain ⟨t348, A1220, H⟩ := H
       replace H : (if t348 = true then (if t346 = true then (some false) else (if (t336 == t342 && (t337 == t343 && (t338 == t344 && (t339 == t345)))) = true then ((trucelaw16_awake.f kj15).bind fun t349 => (some t349)) else (some false))) else (some false)) = some r := H
       have A122 := Aside0.mk A1220
       clear A1220
       by_cases c123 : t348 = true
       ·subst c123
        have H1 : (if t346 = true then (some false) else (if (t336 == t342 && (t337 == t343 && (t338 == t344 && (t339 == t345)))) = true then ((trucelaw16_awake.f kj15).bind fun t349 => (some t349)) else (some false))) = some r := by rw [if_pos rfl] at H; exact H
        clear H
        have H := H1
        clear H1
        by_cases c124 : t346 = true
        ·subst c124
         have H1 : (some false) = some r := by rw [if_pos rfl] at H; exact H
         clear H
         have H := H1
         clear H1
         exact absurd (hr_.out.symm.trans (Option.some.inj H).symm) (by simp)
        ·replace c124 := Bool.eq_false_iff.mpr c124
         subst c124
         have H1 : (if (t336 == t342 && (t337 == t343 && (t338 == t344 && (t339 == t345)))) = true then ((trucelaw16_awake.f kj15).bind fun t349 => (some t349)) else (some false)) = some r := by rw [if_neg (show ¬ (false = true) by decide)] at H; exact H
         clear H
         have H := H1
         clear H1
         by_cases c125 : (t336 == t342 && (t337 == t343 && (t338 == t344 && (t339 == t345)))) = true
         ·rw [if_pos c125] at H
          have c125b0 : (t336 == t342 && (t337 == t343 && (t338 == t344 && (t339 == t345)))) = true := c125
          (try (have c125b1 : decide (t336 = t342 && (t337 == t343 && (t338 == t344 && (t339 == t345)))) = true := by simpa using c125))
          (try (have c125b2 : (t336 == t342 && (t337 == t343 && (t338 == t344 && (t339 == t345)))) = true := by simpa using c125))
          clear c125
          replace H := Option.bind_eq_some_iff.mp H
          obtain ⟨t349, A1260, H⟩ := H
          replace H : (some t349) = some r := H
          have A126 := Aside0.mk A1260
          clear A1260
          obtain rfl := Option.some.inj H
          have hnb127 := NB288_297.out
          have hnc127 := NB297_288.out
          have hcz128_0 : wc.cell? ⟨gb288, 0, none⟩ = some (.int .u64 a3_0) := (blk_cell BK288.out 0).trans rfl
          have hcz128_1 : wc.cell? ⟨gb288, 1, none⟩ = some (.int .u64 a3_1) := (blk_cell BK288.out 1).trans rfl
          have hcz128_2 : wc.cell? ⟨gb288, 2, none⟩ = some (.int .u64 a3_2) := (blk_cell BK288.out 2).trans rfl
          have hcz128_3 : wc.cell? ⟨gb288, 3, none⟩ = some (.int .u64 a3_3) := (blk_cell BK288.out 3).trans rfl
          have hfz128_0 := blk_frozen BK288.out 0
          have hfz128_1 := blk_frozen BK288.out 1
          have hfz128_2 := blk_frozen BK288.out 2
          have hfz128_3 := blk_frozen BK288.out 3
          go_wp2_with (first | ((with_reducible refine gate_callee (f := 12) rfl ?_); refine goesL_ (some 130) rfl rfl Try.func12 (by kernel_rfl) rfl #[.slice A0 l0.length c0, .string a1, .string a2, .agg #[.int .u64 a3_0, .int .u64 a3_1, .int .u64 a3_2, .int .u64 a3_3]] rfl (by (try simp only [List.map_toArray, List.map_cons, List.map_nil]); first | done | rfl | (simp only [List.length_drop, List.length_take]; rfl)) ?_; (with_reducible refine (acct_Take.calls (fun k_ => k_ < w.heap.size) _ _ l0 a1 a2 a3_0 a3_1 a3_2 a3_3 t330 t333 _ ?side1 A118.out).mono ?_); (case side1 => exact Kd.V_mk HC0.out (Kd.F_below (Kd.C_F k39_heap HR0.out) (by repeat (first | (with_reducible first | exact HB.out | apply below_alloc | apply pw_below_drewN | apply below_drew1 | refine below_set ?_ GE288.out | refine below_set ?_ GE297.out) | exact HB.out)))); rintro e w129 ⟨v331, rfl, ho0, hb⟩; refine ⟨_, rfl, ?_⟩; have n0_ := Aside0.mk (Kd.V_lower (Kd.V_mono (ok' := fun k_ => k_ ≠ gb288 ∧ k_ ≠ gb297) ho0 (fun k_ hk_ => ⟨Or.elim hk_ (fun hs_ => fun e_ => Nat.not_le.2 hs_ (by rw [e_]; exact GW288.out)) (fun hn_ => (Kd.freshB (g := gb288) (o := .cells #[.int .u64 a3_0, .int .u64 a3_1, .int .u64 a3_2, .int .u64 a3_3] 25 (0, 0)) (by (with_reducible repeat (first | apply elN | apply elD | apply elA)); exact BK288.out) k_ hn_)), Or.elim hk_ (fun hs_ => fun e_ => Nat.not_le.2 hs_ (by rw [e_]; exact GW297.out)) (fun hn_ => (Kd.freshB (g := gb297) (o := .cells #[.int .u64 t292, .int .u64 t293, .int .u64 t294, .int .u64 t295] 25 (0, 0)) (by (with_reducible repeat (first | apply elN | apply elD | apply elA)); exact BK297.out) k_ hn_))⟩)) (below_size (by repeat (first | (with_reducible first | exact HB.out | apply below_alloc | apply pw_below_drewN | apply below_drew1 | refine below_set ?_ GE288.out | refine below_set ?_ GE297.out) | exact HB.out)))); have n1_ := Aside0.mk (blk_below (g := gb288) (o := .cells #[.int .u64 a3_0, .int .u64 a3_1, .int .u64 a3_2, .int .u64 a3_3] 25 (0, 0)) (by (with_reducible repeat (first | apply elN | apply elD | apply elA)); exact BK288.out) hb); have n2_ := Aside0.mk (blk_below (g := gb297) (o := .cells #[.int .u64 t292, .int .u64 t293, .int .u64 t294, .int .u64 t295] 25 (0, 0)) (by (with_reducible repeat (first | apply elN | apply elD | apply elA)); exact BK297.out) hb); have n3_ := Aside0.mk (below_step (by repeat (first | (with_reducible first | exact HB.out | apply below_alloc | apply pw_below_drewN | apply below_drew1 | refine below_set ?_ GE288.out | refine below_set ?_ GE297.out) | exact HB.out)) hb); clear BK288; clear BK297; clear HB; have HO332 := n0_; have BK288 := n1_; have BK297 := n2_; have HB := n3_; clear n0_ n1_ n2_ n3_; (try clear hb); (try clear hb2); (try clear hk); (try clear hi); (try clear ho0); obtain ⟨Ao130, co130, eo130⟩ := Kd.V_slice HO332.out; subst eo130) | ((with_reducible refine gate_callee (f := 15) rfl ?_); refine goesL_ (some 144) rfl rfl Try.func15 (by kernel_rfl) rfl #[.slice Ao130 t330.length co130, .string a2] rfl (by (try simp only [List.map_toArray, List.map_cons, List.map_nil]); first | done | rfl | (simp only [List.length_drop, List.length_take]; rfl)) ?_; (with_reducible refine (truceref16_Sum.calls kj15 _ _ t330 a2 t336 t337 t338 t339 t340 _ ?side1 ?side2 A120.out).mono ?_); (case side1 => repeat (first | exact (Kd.V_reads' HO332.out).2.2 | (with_reducible refine Kd.C_alloc ?_ _) | (with_reducible refine Kd.C_drewN ?_ _) | (with_reducible refine Kd.C_drew ?_))); (case side2 => exact (Kd.V_reads' HO332.out).2.1); rintro e w131 ⟨rfl, hb⟩; refine ⟨_, rfl, ?_⟩; have n0_ := Aside0.mk (Kd.V_below (by (with_reducible repeat (first | apply Kd.V_alloc | apply Kd.V_drewN | apply Kd.V_drew)); exact HO332.out) hb); have n1_ := Aside0.mk (blk_below (g := gb288) (o := .cells #[.int .u64 a3_0, .int .u64 a3_1, .int .u64 a3_2, .int .u64 a3_3] 25 (0, 0)) (by (with_reducible repeat (first | apply elN | apply elD | apply elA)); exact BK288.out) hb); have n2_ := Aside0.mk (blk_below (g := gb297) (o := .cells #[.int .u64 t292, .int .u64 t293, .int .u64 t294, .int .u64 t295] 25 (0, 0)) (by (with_reducible repeat (first | apply elN | apply elD | apply elA)); exact BK297.out) hb); have n3_ := Aside0.mk (below_step (by repeat (first | (with_reducible first | exact HB.out | apply below_alloc | apply pw_below_drewN | apply below_drew1 | refine below_set ?_ GE288.out | refine below_set ?_ GE297.out) | exact HB.out)) hb); clear HO332; clear BK288; clear BK297; clear HB; have HO332 := n0_; have BK288 := n1_; have BK297 := n2_; have HB := n3_; clear n0_ n1_ n2_ n3_; (try clear hb); (try clear hb2); (try clear hk); (try clear hi)) | ((with_reducible refine gate_dst (N := 23) rfl ?_); refine box_event ?hg (N := 23) ?hd (cs := #[.int .u64 0, .int .u64 0, .int .u64 0, .int .u64 0]) (t := 25) ?hr ?_; (case hd => rfl); (case hg => rfl); (case hr => first | (go_simp; done) | (go_simp; rfl)); intro gb341 hg w132 hbox hb; have n0_ := Aside0.mk (Kd.V_below (Kd.V_elderB (by (with_reducible repeat (first | apply Kd.V_alloc | apply Kd.V_drewN | apply Kd.V_drew)); exact HO332.out) gb341 (Nat.le_of_eq hg.symm)) hb); have n1_ := Aside0.mk (blk_below (g := gb288) (o := .cells #[.int .u64 a3_0, .int .u64 a3_1, .int .u64 a3_2, .int .u64 a3_3] 25 (0, 0)) (by (with_reducible repeat (first | apply elN | apply elD | apply elA)); exact BK288.out) hb); have n2_ := Aside0.mk (blk_below (g := gb297) (o := .cells #[.int .u64 t292, .int .u64 t293, .int .u64 t294, .int .u64 t295] 25 (0, 0)) (by (with_reducible repeat (first | apply elN | apply elD | apply elA)); exact BK297.out) hb); have n3_ := Aside0.mk (below_step (by repeat (first | (with_reducible first | exact HB.out | apply below_alloc | apply pw_below_drewN | apply below_drew1 | refine below_set ?_ GE288.out | refine below_set ?_ GE297.out) | exact HB.out)) hb); have n4_ := Aside0.mk (hbox); have n5_ := Aside0.mk ((by rw [hg]; exact (below_size (by repeat (first | (with_reducible first | exact HB.out | apply below_alloc | apply pw_below_drewN | apply below_drew1 | refine below_set ?_ GE288.out | refine below_set ?_ GE297.out) | exact HB.out))) : w.heap.size ≤ gb341)); have n6_ := Aside0.mk ((by rw [hg]; exact (below_size (by repeat (first | (with_reducible first | exact HB.out | apply below_alloc | apply pw_below_drewN | apply below_drew1 | refine below_set ?_ GE288.out | refine below_set ?_ GE297.out) | exact HB.out))) : w.heap.size ≤ gb341)); have n7_ := Aside0.mk ((by rw [hg]; exact Nat.ne_of_lt (blk_lt (g := gb288) (o := .cells #[.int .u64 a3_0, .int .u64 a3_1, .int .u64 a3_2, .int .u64 a3_3] 25 (0, 0)) (by (with_reducible repeat (first | apply elN | apply elD | apply elA)); exact BK288.out)) : gb288 ≠ gb341)); have n8_ := Aside0.mk ((by rw [hg]; exact Nat.ne_of_gt (blk_lt (g := gb288) (o := .cells #[.int .u64 a3_0, .int .u64 a3_1, .int .u64 a3_2, .int .u64 a3_3] 25 (0, 0)) (by (with_reducible repeat (first | apply elN | apply elD | apply elA)); exact BK288.out)) : gb341 ≠ gb288)); have n9_ := Aside0.mk ((by rw [hg]; exact Nat.ne_of_lt (blk_lt (g := gb297) (o := .cells #[.int .u64 t292, .int .u64 t293, .int .u64 t294, .int .u64 t295] 25 (0, 0)) (by (with_reducible repeat (first | apply elN | apply elD | apply elA)); exact BK297.out)) : gb297 ≠ gb341)); have n10_ := Aside0.mk ((by rw [hg]; exact Nat.ne_of_gt (blk_lt (g := gb297) (o := .cells #[.int .u64 t292, .int .u64 t293, .int .u64 t294, .int .u64 t295] 25 (0, 0)) (by (with_reducible repeat (first | apply elN | apply elD | apply elA)); exact BK297.out)) : gb341 ≠ gb297)); clear HO332; clear BK288; clear BK297; clear HB; have HO332 := n0_; have BK288 := n1_; have BK297 := n2_; have HB := n3_; have BK341 := n4_; have GW341 := n5_; have GE341 := n6_; have NB288_341 := n7_; have NB341_288 := n8_; have NB297_341 := n9_; have NB341_297 := n10_; clear n0_ n1_ n2_ n3_ n4_ n5_ n6_ n7_ n8_ n9_ n10_; clear hb hbox hg; have hnb133 := NB341_288.out; have hnc133 := NB288_341.out; have hnb134 := NB341_297.out; have hnc134 := NB297_341.out; have hcz135_0 : w132.cell? ⟨gb341, 0, none⟩ = some (.int .u64 0) := (blk_cell BK341.out 0).trans rfl; have hcz135_1 : w132.cell? ⟨gb341, 1, none⟩ = some (.int .u64 0) := (blk_cell BK341.out 1).trans rfl; have hcz135_2 : w132.cell? ⟨gb341, 2, none⟩ = some (.int .u64 0) := (blk_cell BK341.out 2).trans rfl; have hcz135_3 : w132.cell? ⟨gb341, 3, none⟩ = some (.int .u64 0) := (blk_cell BK341.out 3).trans rfl; have hfz135_0 := blk_frozen BK341.out 0; have hfz135_1 := blk_frozen BK341.out 1; have hfz135_2 := blk_frozen BK341.out 2; have hfz135_3 := blk_frozen BK341.out 3; have hcz136_0 : w132.cell? ⟨gb297, 0, none⟩ = some (.int .u64 t292) := (blk_cell BK297.out 0).trans rfl; have hcz136_1 : w132.cell? ⟨gb297, 1, none⟩ = some (.int .u64 t293) := (blk_cell BK297.out 1).trans rfl; have hcz136_2 : w132.cell? ⟨gb297, 2, none⟩ = some (.int .u64 t294) := (blk_cell BK297.out 2).trans rfl; have hcz136_3 : w132.cell? ⟨gb297, 3, none⟩ = some (.int .u64 t295) := (blk_cell BK297.out 3).trans rfl; have hfz136_0 := blk_frozen BK297.out 0; have hfz136_1 := blk_frozen BK297.out 1; have hfz136_2 := blk_frozen BK297.out 2; have hfz136_3 := blk_frozen BK297.out 3; have hcz137_0 : w132.cell? ⟨gb288, 0, none⟩ = some (.int .u64 a3_0) := (blk_cell BK288.out 0).trans rfl; have hcz137_1 : w132.cell? ⟨gb288, 1, none⟩ = some (.int .u64 a3_1) := (blk_cell BK288.out 1).trans rfl; have hcz137_2 : w132.cell? ⟨gb288, 2, none⟩ = some (.int .u64 a3_2) := (blk_cell BK288.out 2).trans rfl; have hcz137_3 : w132.cell? ⟨gb288, 3, none⟩ = some (.int .u64 a3_3) := (blk_cell BK288.out 3).trans rfl; have hfz137_0 := blk_frozen BK288.out 0; have hfz137_1 := blk_frozen BK288.out 1; have hfz137_2 := blk_frozen BK288.out 2; have hfz137_3 := blk_frozen BK288.out 3) | ((with_reducible refine gate_callee (f := 18) rfl ?_); refine goesL_ (some 150) rfl rfl Try.func18 (by kernel_rfl) rfl #[.agg #[.int .u64 t292, .int .u64 t293, .int .u64 t294, .int .u64 t295], .agg #[.int .u64 a3_0, .int .u64 a3_1, .int .u64 a3_2, .int .u64 a3_3]] rfl (by (try simp only [List.map_toArray, List.map_cons, List.map_nil]); first | done | rfl | (simp only [List.length_drop, List.length_take]; rfl)) ?_; (with_reducible refine (truceref01_Sub.calls t292 t293 t294 t295 a3_0 a3_1 a3_2 a3_3 t342 t343 t344 t345 false _ A121.out).mono ?_); rintro e w138 ⟨rfl, hb⟩; refine ⟨_, rfl, ?_⟩; have n0_ := Aside0.mk (Kd.V_below (by (with_reducible repeat (first | apply Kd.V_alloc | apply Kd.V_drewN | apply Kd.V_drew)); exact (Kd.V_mono (Kd.V_far (p := ⟨gb341, 3, none⟩) (Kd.V_far (p := ⟨gb341, 2, none⟩) (Kd.V_far (p := ⟨gb341, 1, none⟩) (Kd.V_far (p := ⟨gb341, 0, none⟩) (Kd.V_mono HO332.out (fun k_ hk => (⟨hk, hk.2⟩ : _ ∧ k_ ≠ gb341))) (fun _ hk => hk.2) (.int .u64 t336)) (fun _ hk => hk.2) (.int .u64 t337)) (fun _ hk => hk.2) (.int .u64 t338)) (fun _ hk => hk.2) (.int .u64 t339)) (fun _ h_ => h_.1))) hb); have n1_ := Aside0.mk (blk_below (g := gb288) (o := .cells #[.int .u64 a3_0, .int .u64 a3_1, .int .u64 a3_2, .int .u64 a3_3] 25 (0, 0)) (by (with_reducible repeat (first | apply elN | apply elD | apply elA)); refine blk_far ?_ NB288_341.out _; (with_reducible repeat (first | apply elN | apply elD | apply elA)); refine blk_far ?_ NB288_341.out _; (with_reducible repeat (first | apply elN | apply elD | apply elA)); refine blk_far ?_ NB288_341.out _; (with_reducible repeat (first | apply elN | apply elD | apply elA)); refine blk_far ?_ NB288_341.out _; (with_reducible repeat (first | apply elN | apply elD | apply elA)); exact BK288.out) hb); have n2_ := Aside0.mk (blk_below (g := gb297) (o := .cells #[.int .u64 t292, .int .u64 t293, .int .u64 t294, .int .u64 t295] 25 (0, 0)) (by (with_reducible repeat (first | apply elN | apply elD | apply elA)); refine blk_far ?_ NB297_341.out _; (with_reducible repeat (first | apply elN | apply elD | apply elA)); refine blk_far ?_ NB297_341.out _; (with_reducible repeat (first | apply elN | apply elD | apply elA)); refine blk_far ?_ NB297_341.out _; (with_reducible repeat (first | apply elN | apply elD | apply elA)); refine blk_far ?_ NB297_341.out _; (with_reducible repeat (first | apply elN | apply elD | apply elA)); exact BK297.out) hb); have n3_ := Aside0.mk (blk_below (g := gb341) (o := .cells #[.int .u64 t336, .int .u64 t337, .int .u64 t338, .int .u64 t339] 25 (0, 0)) (by (with_reducible repeat (first | apply elN | apply elD | apply elA)); refine blk_put (cs := #[.int .u64 t336, .int .u64 t337, .int .u64 t338, .int .u64 0]) ?_ 3 _ rfl; (with_reducible repeat (first | apply elN | apply elD | apply elA)); refine blk_put (cs := #[.int .u64 t336, .int .u64 t337, .int .u64 0, .int .u64 0]) ?_ 2 _ rfl; (with_reducible repeat (first | apply elN | apply elD | apply elA)); refine blk_put (cs := #[.int .u64 t336, .int .u64 0, .int .u64 0, .int .u64 0]) ?_ 1 _ rfl; (with_reducible repeat (first | apply elN | apply elD | apply elA)); refine blk_put (cs := #[.int .u64 0, .int .u64 0, .int .u64 0, .int .u64 0]) ?_ 0 _ rfl; (with_reducible repeat (first | apply elN | apply elD | apply elA)); exact BK341.out) hb); have n4_ := Aside0.mk (below_step (by repeat (first | (with_reducible first | exact HB.out | apply below_alloc | apply pw_below_drewN | apply below_drew1 | refine below_set ?_ GE288.out | refine below_set ?_ GE297.out | refine below_set ?_ GE341.out) | exact HB.out)) hb); clear HO332; clear BK288; clear BK297; clear BK341; clear HB; have HO332 := n0_; have BK288 := n1_; have BK297 := n2_; have BK341 := n3_; have HB := n4_; clear n0_ n1_ n2_ n3_ n4_; (try clear hb); (try clear hb2); (try clear hk); (try clear hi)) | ((with_reducible refine gate_dst (N := 25) rfl ?_); refine box_event ?hg (N := 25) ?hd (cs := #[.int .u64 0, .int .u64 0, .int .u64 0, .int .u64 0]) (t := 25) ?hr ?_; (case hd => rfl); (case hg => rfl); (case hr => first | (go_simp; done) | (go_simp; rfl)); intro gb347 hg w139 hbox hb; have n0_ := Aside0.mk (Kd.V_below (Kd.V_elderB (by (with_reducible repeat (first | apply Kd.V_alloc | apply Kd.V_drewN | apply Kd.V_drew)); exact HO332.out) gb347 (Nat.le_of_eq hg.symm)) hb); have n1_ := Aside0.mk (blk_below (g := gb288) (o := .cells #[.int .u64 a3_0, .int .u64 a3_1, .int .u64 a3_2, .int .u64 a3_3] 25 (0, 0)) (by (with_reducible repeat (first | apply elN | apply elD | apply elA)); exact BK288.out) hb); have n2_ := Aside0.mk (blk_below (g := gb297) (o := .cells #[.int .u64 t292, .int .u64 t293, .int .u64 t294, .int .u64 t295] 25 (0, 0)) (by (with_reducible repeat (first | apply elN | apply elD | apply elA)); exact BK297.out) hb); have n3_ := Aside0.mk (blk_below (g := gb341) (o := .cells #[.int .u64 t336, .int .u64 t337, .int .u64 t338, .int .u64 t339] 25 (0, 0)) (by (with_reducible repeat (first | apply elN | apply elD | apply elA)); exact BK341.out) hb); have n4_ := Aside0.mk (below_step (by repeat (first | (with_reducible first | exact HB.out | apply below_alloc | apply pw_below_drewN | apply below_drew1 | refine below_set ?_ GE288.out | refine below_set ?_ GE297.out | refine below_set ?_ GE341.out) | exact HB.out)) hb); have n5_ := Aside0.mk (hbox); have n6_ := Aside0.mk ((by rw [hg]; exact (below_size (by repeat (first | (with_reducible first | exact HB.out | apply below_alloc | apply pw_below_drewN | apply below_drew1 | refine below_set ?_ GE288.out | refine below_set ?_ GE297.out | refine below_set ?_ GE341.out) | exact HB.out))) : w.heap.size ≤ gb347)); have n7_ := Aside0.mk ((by rw [hg]; exact (below_size (by repeat (first | (with_reducible first | exact HB.out | apply below_alloc | apply pw_below_drewN | apply below_drew1 | refine below_set ?_ GE288.out | refine below_set ?_ GE297.out | refine below_set ?_ GE341.out) | exact HB.out))) : w.heap.size ≤ gb347)); have n8_ := Aside0.mk ((by rw [hg]; exact Nat.ne_of_lt (blk_lt (g := gb288) (o := .cells #[.int .u64 a3_0, .int .u64 a3_1, .int .u64 a3_2, .int .u64 a3_3] 25 (0, 0)) (by (with_reducible repeat (first | apply elN | apply elD | apply elA)); exact BK288.out)) : gb288 ≠ gb347)); have n9_ := Aside0.mk ((by rw [hg]; exact Nat.ne_of_gt (blk_lt (g := gb288) (o := .cells #[.int .u64 a3_0, .int .u64 a3_1, .int .u64 a3_2, .int .u64 a3_3] 25 (0, 0)) (by (with_reducible repeat (first | apply elN | apply elD | apply elA)); exact BK288.out)) : gb347 ≠ gb288)); have n10_ := Aside0.mk ((by rw [hg]; exact Nat.ne_of_lt (blk_lt (g := gb297) (o := .cells #[.int .u64 t292, .int .u64 t293, .int .u64 t294, .int .u64 t295] 25 (0, 0)) (by (with_reducible repeat (first | apply elN | apply elD | apply elA)); exact BK297.out)) : gb297 ≠ gb347)); have n11_ := Aside0.mk ((by rw [hg]; exact Nat.ne_of_gt (blk_lt (g := gb297) (o := .cells #[.int .u64 t292, .int .u64 t293, .int .u64 t294, .int .u64 t295] 25 (0, 0)) (by (with_reducible repeat (first | apply elN | apply elD | apply elA)); exact BK297.out)) : gb347 ≠ gb297)); have n12_ := Aside0.mk ((by rw [hg]; exact Nat.ne_of_lt (blk_lt (g := gb341) (o := .cells #[.int .u64 t336, .int .u64 t337, .int .u64 t338, .int .u64 t339] 25 (0, 0)) (by (with_reducible repeat (first | apply elN | apply elD | apply elA)); exact BK341.out)) : gb341 ≠ gb347)); have n13_ := Aside0.mk ((by rw [hg]; exact Nat.ne_of_gt (blk_lt (g := gb341) (o := .cells #[.int .u64 t336, .int .u64 t337, .int .u64 t338, .int .u64 t339] 25 (0, 0)) (by (with_reducible repeat (first | apply elN | apply elD | apply elA)); exact BK341.out)) : gb347 ≠ gb341)); clear HO332; clear BK288; clear BK297; clear BK341; clear HB; have HO332 := n0_; have BK288 := n1_; have BK297 := n2_; have BK341 := n3_; have HB := n4_; have BK347 := n5_; have GW347 := n6_; have GE347 := n7_; have NB288_347 := n8_; have NB347_288 := n9_; have NB297_347 := n10_; have NB347_297 := n11_; have NB341_347 := n12_; have NB347_341 := n13_; clear n0_ n1_ n2_ n3_ n4_ n5_ n6_ n7_ n8_ n9_ n10_ n11_ n12_ n13_; clear hb hbox hg; have hnb140 := NB347_288.out; have hnc140 := NB288_347.out; have hnb141 := NB347_297.out; have hnc141 := NB297_347.out; have hnb142 := NB347_341.out; have hnc142 := NB341_347.out; have hcz143_0 : w139.cell? ⟨gb347, 0, none⟩ = some (.int .u64 0) := (blk_cell BK347.out 0).trans rfl; have hcz143_1 : w139.cell? ⟨gb347, 1, none⟩ = some (.int .u64 0) := (blk_cell BK347.out 1).trans rfl; have hcz143_2 : w139.cell? ⟨gb347, 2, none⟩ = some (.int .u64 0) := (blk_cell BK347.out 2).trans rfl; have hcz143_3 : w139.cell? ⟨gb347, 3, none⟩ = some (.int .u64 0) := (blk_cell BK347.out 3).trans rfl; have hfz143_0 := blk_frozen BK347.out 0; have hfz143_1 := blk_frozen BK347.out 1; have hfz143_2 := blk_frozen BK347.out 2; have hfz143_3 := blk_frozen BK347.out 3) | ((with_reducible refine gate_callee (f := 8) rfl ?_); refine goesL_ (some 154) rfl rfl Try.func8 (by kernel_rfl) rfl #[.slice Ao130 t330.length co130] rfl (by (try simp only [List.map_toArray, List.map_cons, List.map_nil]); first | done | rfl | (simp only [List.length_drop, List.length_take]; rfl)) ?_; (with_reducible refine (truceref16_Fit.calls kj15 _ _ t330 true _ ?side1 ?side2 A122.out).mono ?_); (case side1 => refine (Kd.V_reads' (e := 39) (base := w.heap.size) (ok := fun k_ => (((k_ ≠ gb288 ∧ k_ ≠ gb297) ∧ k_ ≠ gb341) ∧ k_ ≠ gb347)) (n := t330.length) (c := co130) ?_).2.2; exact (by (with_reducible repeat (first | apply Kd.V_alloc | apply Kd.V_drewN | apply Kd.V_drew)); exact (Kd.V_mono (Kd.V_far (p := ⟨gb347, 3, none⟩) (Kd.V_far (p := ⟨gb347, 2, none⟩) (Kd.V_far (p := ⟨gb347, 1, none⟩) (Kd.V_far (p := ⟨gb347, 0, none⟩) (Kd.V_mono HO332.out (fun k_ hk => (⟨hk, hk.2⟩ : _ ∧ k_ ≠ gb347))) (fun _ hk => hk.2) (.int .u64 t342)) (fun _ hk => hk.2) (.int .u64 t343)) (fun _ hk => hk.2) (.int .u64 t344)) (fun _ hk => hk.2) (.int .u64 t345)) (fun _ h_ => h_.1)))); (case side2 => exact (Kd.V_reads' HO332.out).2.1); rintro e w144 ⟨rfl, hb⟩; refine ⟨_, rfl, ?_⟩; have n0_ := Aside0.mk (Kd.V_below (by (with_reducible repeat (first | apply Kd.V_alloc | apply Kd.V_drewN | apply Kd.V_drew)); exact (Kd.V_mono (Kd.V_far (p := ⟨gb347, 3, none⟩) (Kd.V_far (p := ⟨gb347, 2, none⟩) (Kd.V_far (p := ⟨gb347, 1, none⟩) (Kd.V_far (p := ⟨gb347, 0, none⟩) (Kd.V_mono HO332.out (fun k_ hk => (⟨hk, hk.2⟩ : _ ∧ k_ ≠ gb347))) (fun _ hk => hk.2) (.int .u64 t342)) (fun _ hk => hk.2) (.int .u64 t343)) (fun _ hk => hk.2) (.int .u64 t344)) (fun _ hk => hk.2) (.int .u64 t345)) (fun _ h_ => h_.1))) hb); have n1_ := Aside0.mk (blk_below (g := gb288) (o := .cells #[.int .u64 a3_0, .int .u64 a3_1, .int .u64 a3_2, .int .u64 a3_3] 25 (0, 0)) (by (with_reducible repeat (first | apply elN | apply elD | apply elA)); refine blk_far ?_ NB288_347.out _; (with_reducible repeat (first | apply elN | apply elD | apply elA)); refine blk_far ?_ NB288_347.out _; (with_reducible repeat (first | apply elN | apply elD | apply elA)); refine blk_far ?_ NB288_347.out _; (with_reducible repeat (first | apply elN | apply elD | apply elA)); refine blk_far ?_ NB288_347.out _; (with_reducible repeat (first | apply elN | apply elD | apply elA)); exact BK288.out) hb); have n2_ := Aside0.mk (blk_below (g := gb297) (o := .cells #[.int .u64 t292, .int .u64 t293, .int .u64 t294, .int .u64 t295] 25 (0, 0)) (by (with_reducible repeat (first | apply elN | apply elD | apply elA)); refine blk_far ?_ NB297_347.out _; (with_reducible repeat (first | apply elN | apply elD | apply elA)); refine blk_far ?_ NB297_347.out _; (with_reducible repeat (first | apply elN | apply elD | apply elA)); refine blk_far ?_ NB297_347.out _; (with_reducible repeat (first | apply elN | apply elD | apply elA)); refine blk_far ?_ NB297_347.out _; (with_reducible repeat (first | apply elN | apply elD | apply elA)); exact BK297.out) hb); have n3_ := Aside0.mk (blk_below (g := gb341) (o := .cells #[.int .u64 t336, .int .u64 t337, .int .u64 t338, .int .u64 t339] 25 (0, 0)) (by (with_reducible repeat (first | apply elN | apply elD | apply elA)); refine blk_far ?_ NB341_347.out _; (with_reducible repeat (first | apply elN | apply elD | apply elA)); refine blk_far ?_ NB341_347.out _; (with_reducible repeat (first | apply elN | apply elD | apply elA)); refine blk_far ?_ NB341_347.out _; (with_reducible repeat (first | apply elN | apply elD | apply elA)); refine blk_far ?_ NB341_347.out _; (with_reducible repeat (first | apply elN | apply elD | apply elA)); exact BK341.out) hb); have n4_ := Aside0.mk (blk_below (g := gb347) (o := .cells #[.int .u64 t342, .int .u64 t343, .int .u64 t344, .int .u64 t345] 25 (0, 0)) (by (with_reducible repeat (first | apply elN | apply elD | apply elA)); refine blk_put (cs := #[.int .u64 t342, .int .u64 t343, .int .u64 t344, .int .u64 0]) ?_ 3 _ rfl; (with_reducible repeat (first | apply elN | apply elD | apply elA)); refine blk_put (cs := #[.int .u64 t342, .int .u64 t343, .int .u64 0, .int .u64 0]) ?_ 2 _ rfl; (with_reducible repeat (first | apply elN | apply elD | apply elA)); refine blk_put (cs := #[.int .u64 t342, .int .u64 0, .int .u64 0, .int .u64 0]) ?_ 1 _ rfl; (with_reducible repeat (first | apply elN | apply elD | apply elA)); refine blk_put (cs := #[.int .u64 0, .int .u64 0, .int .u64 0, .int .u64 0]) ?_ 0 _ rfl; (with_reducible repeat (first | apply elN | apply elD | apply elA)); exact BK347.out) hb); have n5_ := Aside0.mk (below_step (by repeat (first | (with_reducible first | exact HB.out | apply below_alloc | apply pw_below_drewN | apply below_drew1 | refine below_set ?_ GE288.out | refine below_set ?_ GE297.out | refine below_set ?_ GE341.out | refine below_set ?_ GE347.out) | exact HB.out)) hb); clear HO332; clear BK288; clear BK297; clear BK341; clear BK347; clear HB; have HO332 := n0_; have BK288 := n1_; have BK297 := n2_; have BK341 := n3_; have BK347 := n4_; have HB := n5_; clear n0_ n1_ n2_ n3_ n4_ n5_; (try clear hb); (try clear hb2); (try clear hk); (try clear hi); have hcz145_0 : w144.cell? ⟨gb341, 0, none⟩ = some (.int .u64 t336) := (blk_cell BK341.out 0).trans rfl; have hcz145_1 : w144.cell? ⟨gb341, 1, none⟩ = some (.int .u64 t337) := (blk_cell BK341.out 1).trans rfl; have hcz145_2 : w144.cell? ⟨gb341, 2, none⟩ = some (.int .u64 t338) := (blk_cell BK341.out 2).trans rfl; have hcz145_3 : w144.cell? ⟨gb341, 3, none⟩ = some (.int .u64 t339) := (blk_cell BK341.out 3).trans rfl; have hfz145_0 := blk_frozen BK341.out 0; have hfz145_1 := blk_frozen BK341.out 1; have hfz145_2 := blk_frozen BK341.out 2; have hfz145_3 := blk_frozen BK341.out 3; have hcz146_0 : w144.cell? ⟨gb347, 0, none⟩ = some (.int .u64 t342) := (blk_cell BK347.out 0).trans rfl; have hcz146_1 : w144.cell? ⟨gb347, 1, none⟩ = some (.int .u64 t343) := (blk_cell BK347.out 1).trans rfl; have hcz146_2 : w144.cell? ⟨gb347, 2, none⟩ = some (.int .u64 t344) := (blk_cell BK347.out 2).trans rfl; have hcz146_3 : w144.cell? ⟨gb347, 3, none⟩ = some (.int .u64 t345) := (blk_cell BK347.out 3).trans rfl; have hfz146_0 := blk_frozen BK347.out 0; have hfz146_1 := blk_frozen BK347.out 1; have hfz146_2 := blk_frozen BK347.out 2; have hfz146_3 := blk_frozen BK347.out 3) | (go_at_call 9; (with_reducible refine (trucelaw16_awake.calls kj15  t349 _ A126.out).mono ?_); rintro e w147 ⟨rfl, hb⟩; have n0_ := Aside0.mk (Kd.V_below (by (with_reducible repeat (first | apply Kd.V_alloc | apply Kd.V_drewN | apply Kd.V_drew)); exact HO332.out) hb); have n1_ := Aside0.mk (blk_below (g := gb288) (o := .cells #[.int .u64 a3_0, .int .u64 a3_1, .int .u64 a3_2, .int .u64 a3_3] 25 (0, 0)) (by (with_reducible repeat (first | apply elN | apply elD | apply elA)); exact BK288.out) hb); have n2_ := Aside0.mk (blk_below (g := gb297) (o := .cells #[.int .u64 t292, .int .u64 t293, .int .u64 t294, .int .u64 t295] 25 (0, 0)) (by (with_reducible repeat (first | apply elN | apply elD | apply elA)); exact BK297.out) hb); have n3_ := Aside0.mk (blk_below (g := gb341) (o := .cells #[.int .u64 t336, .int .u64 t337, .int .u64 t338, .int .u64 t339] 25 (0, 0)) (by (with_reducible repeat (first | apply elN | apply elD | apply elA)); exact BK341.out) hb); have n4_ := Aside0.mk (blk_below (g := gb347) (o := .cells #[.int .u64 t342, .int .u64 t343, .int .u64 t344, .int .u64 t345] 25 (0, 0)) (by (with_reducible repeat (first | apply elN | apply elD | apply elA)); exact BK347.out) hb); have n5_ := Aside0.mk (below_step (by repeat (first | (with_reducible first | exact HB.out | apply below_alloc | apply pw_below_drewN | apply below_drew1 | refine below_set ?_ GE288.out | refine below_set ?_ GE297.out | refine below_set ?_ GE341.out | refine below_set ?_ GE347.out) | exact HB.out)) hb); clear HO332; clear BK288; clear BK297; clear BK341; clear BK347; clear HB; have HO332 := n0_; have BK288 := n1_; have BK297 := n2_; have BK341 := n3_; have BK347 := n4_; have HB := n5_; clear n0_ n1_ n2_ n3_ n4_ n5_; (try clear hb); (try clear hb2); (try clear hk); (try clear hi)))
          go_ret
          exact ⟨by first | rfl | (simp [errW_none, errW_some] <;> rfl) | (simp [*, errW_none, errW_some] <;> rfl), by repeat (first | (with_reducible first | exact HB.out | apply below_alloc | apply pw_below_drewN | apply below_drew1 | refine below_set ?_ GE288.out | refine below_set ?_ GE297.out | refine below_set ?_ GE341.out | refine below_set ?_ GE347.out) | exact HB.out)⟩
         ·rw [if_neg c125] at H
          have c125b0 : (t336 == t342 && (t337 == t343 && (t338 == t344 && (t339 == t345)))) = false := by simpa using c125
          (try (have c125b1 : decide (t336 = t342 && (t337 == t343 && (t338 == t344 && (t339 == t345)))) = false := by simpa using c125))
          (try (have c125b2 : (t336 == t342 && (t337 == t343 && (t338 == t344 && (t339 == t345)))) = false := by simpa using c125))
          (try (have c125b3 : ¬ (t336 = t342 && (t337 == t343 && (t338 == t344 && (t339 == t345)))) := by simpa using c125))
          clear c125
          exact absurd (hr_.out.symm.trans (Option.some.inj H).symm) (by simp)
       ·replace c123 := Bool.eq_false_iff.mpr c123
        subst c123
        have H1 : (some false) = some r := by rw [if_neg (show ¬ (false = true) by decide)] at H; exact H
        clear H
        have H := H1
        clear H1
        exact absurd (hr_.out.symm.trans (Option.some.inj H).symm) (by simp)
      ·rw [if_neg c119] at H
       have c119b0 : (t333 == 0) = false := beq_eq_false_iff_ne.mpr c119
       have c119b1 : (t333 != 0) = true := bne_iff_ne.mpr c119
       replace H := Option.bind_eq_some_iff.mp H
       obtain ⟨t334, A1480, H⟩ := H
       replace H : (if t334 = true then ((trucelaw16_awake.f kj15).bind fun t335 => (some t335)) else (some false)) = some r := H
       have A148 := Aside0.mk A1480
       clear A1480
       by_cases c149 : t334 = true
       ·subst c149
        have H1 : ((trucelaw16_awake.f kj15).bind fun t335 => (some t335)) = some r := by rw [if_pos rfl] at H; exact H
        clear H
        have H := H1
        clear H1
        replace H := Option.bind_eq_some_iff.mp H
        obtain ⟨t335, A1500, H⟩ := H
        replace H : (some t335) = some r := H
        have A150 := Aside0.mk A1500
        clear A1500
        obtain rfl := Option.some.inj H
        have hnb151 := NB288_297.out
        have hnc151 := NB297_288.out
        have hcz152_0 : wc.cell? ⟨gb288, 0, none⟩ = some (.int .u64 a3_0) := (blk_cell BK288.out 0).trans rfl
        have hcz152_1 : wc.cell? ⟨gb288, 1, none⟩ = some (.int .u64 a3_1) := (blk_cell BK288.out 1).trans rfl
        have hcz152_2 : wc.cell? ⟨gb288, 2, none⟩ = some (.int .u64 a3_2) := (blk_cell BK288.out 2).trans rfl
        have hcz152_3 : wc.cell? ⟨gb288, 3, none⟩ = some (.int .u64 a3_3) := (blk_cell BK288.out 3).trans rfl
        have hfz152_0 := blk_frozen BK288.out 0
        have hfz152_1 := blk_frozen BK288.out 1
        have hfz152_2 := blk_frozen BK288.out 2
        have hfz152_3 := blk_frozen BK288.out 3
        go_wp2_with (first | ((with_reducible refine gate_callee (f := 12) rfl ?_); refine goesL_ (some 130) rfl rfl Try.func12 (by kernel_rfl) rfl #[.slice A0 l0.length c0, .string a1, .string a2, .agg #[.int .u64 a3_0, .int .u64 a3_1, .int .u64 a3_2, .int .u64 a3_3]] rfl (by (try simp only [List.map_toArray, List.map_cons, List.map_nil]); first | done | rfl | (simp only [List.length_drop, List.length_take]; rfl)) ?_; (with_reducible refine (acct_Take.calls (fun k_ => k_ < w.heap.size) _ _ l0 a1 a2 a3_0 a3_1 a3_2 a3_3 t330 t333 _ ?side1 A118.out).mono ?_); (case side1 => exact Kd.V_mk HC0.out (Kd.F_below (Kd.C_F k39_heap HR0.out) (by repeat (first | (with_reducible first | exact HB.out | apply below_alloc | apply pw_below_drewN | apply below_drew1 | refine below_set ?_ GE288.out | refine below_set ?_ GE297.out) | exact HB.out)))); rintro e w153 ⟨v331, rfl, ho0, hb⟩; refine ⟨_, rfl, ?_⟩; have n0_ := Aside0.mk (Kd.V_lower (Kd.V_mono (ok' := fun k_ => k_ ≠ gb288 ∧ k_ ≠ gb297) ho0 (fun k_ hk_ => ⟨Or.elim hk_ (fun hs_ => fun e_ => Nat.not_le.2 hs_ (by rw [e_]; exact GW288.out)) (fun hn_ => (Kd.freshB (g := gb288) (o := .cells #[.int .u64 a3_0, .int .u64 a3_1, .int .u64 a3_2, .int .u64 a3_3] 25 (0, 0)) (by (with_reducible repeat (first | apply elN | apply elD | apply elA)); exact BK288.out) k_ hn_)), Or.elim hk_ (fun hs_ => fun e_ => Nat.not_le.2 hs_ (by rw [e_]; exact GW297.out)) (fun hn_ => (Kd.freshB (g := gb297) (o := .cells #[.int .u64 t292, .int .u64 t293, .int .u64 t294, .int .u64 t295] 25 (0, 0)) (by (with_reducible repeat (first | apply elN | apply elD | apply elA)); exact BK297.out) k_ hn_))⟩)) (below_size (by repeat (first | (with_reducible first | exact HB.out | apply below_alloc | apply pw_below_drewN | apply below_drew1 | refine below_set ?_ GE288.out | refine below_set ?_ GE297.out) | exact HB.out)))); have n1_ := Aside0.mk (blk_below (g := gb288) (o := .cells #[.int .u64 a3_0, .int .u64 a3_1, .int .u64 a3_2, .int .u64 a3_3] 25 (0, 0)) (by (with_reducible repeat (first | apply elN | apply elD | apply elA)); exact BK288.out) hb); have n2_ := Aside0.mk (blk_below (g := gb297) (o := .cells #[.int .u64 t292, .int .u64 t293, .int .u64 t294, .int .u64 t295] 25 (0, 0)) (by (with_reducible repeat (first | apply elN | apply elD | apply elA)); exact BK297.out) hb); have n3_ := Aside0.mk (below_step (by repeat (first | (with_reducible first | exact HB.out | apply below_alloc | apply pw_below_drewN | apply below_drew1 | refine below_set ?_ GE288.out | refine below_set ?_ GE297.out) | exact HB.out)) hb); clear BK288; clear BK297; clear HB; have HO332 := n0_; have BK288 := n1_; have BK297 := n2_; have HB := n3_; clear n0_ n1_ n2_ n3_; (try clear hb); (try clear hb2); (try clear hk); (try clear hi); (try clear ho0); obtain ⟨Ao154, co154, eo154⟩ := Kd.V_slice HO332.out; subst eo154) | ((with_reducible refine gate_callee (f := 14) rfl ?_); refine goesL_ (some 137) rfl rfl Try.func14 (by kernel_rfl) rfl #[.slice Ao154 t330.length co154, .slice A0 l0.length c0] rfl (by (try simp only [List.map_toArray, List.map_cons, List.map_nil]); first | done | rfl | (simp only [List.length_drop, List.length_take]; rfl)) ?_; (with_reducible refine (truceref16_Same.calls kj15 _ _ t330 _ _ l0 true _ ?side1 ?side2 ?side3 ?side4 A148.out).mono ?_); (case side1 => repeat (first | exact (Kd.V_reads' HO332.out).2.2 | (with_reducible refine Kd.C_alloc ?_ _) | (with_reducible refine Kd.C_drewN ?_ _) | (with_reducible refine Kd.C_drew ?_))); (case side2 => exact (Kd.V_reads' HO332.out).2.1); (case side3 => repeat (first | exact (Kd.C_below HR0.out HB.out) | (with_reducible refine Kd.C_alloc ?_ _) | (with_reducible refine Kd.C_drewN ?_ _) | (with_reducible refine Kd.C_drew ?_))); (case side4 => exact HC0.out); rintro e w' ⟨rfl, ⟨nd, rfl⟩⟩; refine ⟨_, rfl, ?_⟩) | (go_at_call 9; (with_reducible refine (trucelaw16_awake.calls kj15  t335 _ A150.out).mono ?_); rintro e w155 ⟨rfl, hb⟩; have n0_ := Aside0.mk (Kd.V_below (by (with_reducible repeat (first | apply Kd.V_alloc | apply Kd.V_drewN | apply Kd.V_drew)); exact HO332.out) hb); have n1_ := Aside0.mk (blk_below (g := gb288) (o := .cells #[.int .u64 a3_0, .int .u64 a3_1, .int .u64 a3_2, .int .u64 a3_3] 25 (0, 0)) (by (with_reducible repeat (first | apply elN | apply elD | apply elA)); exact BK288.out) hb); have n2_ := Aside0.mk (blk_below (g := gb297) (o := .cells #[.int .u64 t292, .int .u64 t293, .int .u64 t294, .int .u64 t295] 25 (0, 0)) (by (with_reducible repeat (first | apply elN | apply elD | apply elA)); exact BK297.out) hb); have n3_ := Aside0.mk (below_step (by repeat (first | (with_reducible first | exact HB.out | apply below_alloc | apply pw_below_drewN | apply below_drew1 | refine below_set ?_ GE288.out | refine below_set ?_ GE297.out) | exact HB.out)) hb); clear HO332; clear BK288; clear BK297; clear HB; have HO332 := n0_; have BK288 := n1_; have BK297 := n2_; have HB := n3_; clear n0_ n1_ n2_ n3_; (try clear hb); (try clear hb2); (try clear hk); (try clear hi)))
        go_ret
        exact ⟨by first | rfl | (simp [errW_none, errW_some] <;> rfl) | (simp [*, errW_none, errW_some] <;> rfl), by repeat (first | (with_reducible first | exact HB.out | apply below_alloc | apply pw_below_drewN | apply below_drew1 | refine below_set ?_ GE288.out | refine below_set ?_ GE297.out) | exact HB.out)⟩
       ·replace c149 := Bool.eq_false_iff.mpr c149
        subst c149
        have H1 : (some false) = some r := by rw [if_neg (show ¬ (false = true) by decide)] at H; exact H
        clear H
        have H := H1
        clear H1
        exact absurd (hr_.out.symm.trans (Option.some.inj H).symm) (by simp)

end Go.Proofs.Ytnedmaddjikmkaa.P


