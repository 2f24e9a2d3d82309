import Derived.Test.YtnedmaddjikmkaaDtrucelaw16AcctMoves
/- A function of the program as a Lean function, and the proof that the code comes to its answers; written by a program of this session. -/
namespace Go.Proofs.Ytnedmaddjikmkaa.P
open Go.RowKit Go.Proofs.YtnedmaddjikmkaaW.PrintWords Go.Proofs.YtnedmaddjikmkaaW.PrintLast Go.Proofs.YtnedmaddjikmkaaW.PrintMore
attribute [local go_sem] max2_int min2_int max_two min_two max_three min_three max_four min_four   -- for this text's walks alone
set_option linter.unusedVariables false
set_option linter.unusedSimpArgs false

attribute [local go_sem high] eqA25
set_option maxHeartbeats 8000000 in
set_option maxRecDepth 100000 in
theorem trucelaw16_AcctMoves.callsT (k : Nat) (A0 : Option Addr) (c0 : Nat) (l0 : List (S39)) (a1 : ByteArray) (a2 : ByteArray) (a3 : ByteArray) (a4_0 : Int) (a4_1 : Int) (a4_2 : Int) (a4_3 : Int) (r : Bool) (w : World) (hr0 : Kd.C k39 w A0 l0.length l0) (hc0 : l0.length ≤ c0) (hr_ : Aside0 (r = true)) (h : trucelaw16_AcctMoves.f k l0 a1 a2 a3 a4_0 a4_1 a4_2 a4_3 = some r) :
  Calls Try.prog 5 #[.slice A0 l0.length c0, .string a1, .string a2, .string a3, .agg #[.int .u64 a4_0, .int .u64 a4_1, .int .u64 a4_2, .int .u64 a4_3]] w fun e w' => e = .returned (.bool r) ∧ Below w.heap.size w w' := by
 have hu25 := Try.underlying25
 have hu39 := Try.underlying39
 have HR0 := Aside0.mk hr0
 have HC0 := Aside0.mk hc0
 clear hr0 hc0
 have HB := Aside0.mk (Below.refl w.heap.size w)
 have H : ((trucelaw16_few.f l0).bind fun t235 => (if t235 = true then ((truceref16_Fit.f k l0).bind fun t236 => (if t236 = true then (trucelaw16_AcctMoves.j0 k l0 a1 a2 a3 (a1.toList == a2.toList) a4_0 a4_1 a4_2 a4_3) else (trucelaw16_AcctMoves.j0 k l0 a1 a2 a3 true a4_0 a4_1 a4_2 a4_3))) else (trucelaw16_AcctMoves.j0 k l0 a1 a2 a3 true a4_0 a4_1 a4_2 a4_3))) = some r := h
 clear h
 have HC6 := Aside0.mk H
 clear H
 go_enter Try.func5, Try.ntmps5
 go_upto_region 1 with (first | ((with_reducible refine gate_dst (N := 9) rfl ?_); refine box_event ?hg (N := 9) ?hd (cs := #[.int .u64 a4_0, .int .u64 a4_1, .int .u64 a4_2, .int .u64 a4_3]) (t := 25) ?hr ?_; (case hd => rfl); (case hg => rfl); (case hr => first | (go_simp; done) | (go_simp; rfl)); intro gb234 hg w7 hbox hb; have n0_ := Aside0.mk (below_step (by repeat (first | (with_reducible first | exact HB.out | apply below_alloc | apply pw_below_drewN | apply below_drew1) | exact HB.out)) hb); have n1_ := Aside0.mk (hbox); have n2_ := Aside0.mk ((by rw [hg]; exact (below_size (by repeat (first | (with_reducible first | exact HB.out | apply below_alloc | apply pw_below_drewN | apply below_drew1) | exact HB.out))) : w.heap.size ≤ gb234)); have n3_ := Aside0.mk ((by rw [hg]; exact (below_size (by repeat (first | (with_reducible first | exact HB.out | apply below_alloc | apply pw_below_drewN | apply below_drew1) | exact HB.out))) : w.heap.size ≤ gb234)); clear HB; have HB := n0_; have BK234 := n1_; have GW234 := n2_; have GE234 := n3_; clear n0_ n1_ n2_ n3_; clear hb hbox hg))
 (try simp only [Act.put, List.setIfInBounds_toArray, List.set_cons_zero, List.set_cons_succ])
 go_cut [33] (fun v33 wc => ∃ (kq : Nat) (x33_5 : Bool), v33 = .bool x33_5 ∧ Aside0 (trucelaw16_AcctMoves.j0 kq l0 a1 a2 a3 x33_5 a4_0 a4_1 a4_2 a4_3 = some r) ∧ Aside0 (kq ≤ k) ∧ Aside0 (wc.heap[gb234]? = some (.cells #[.int .u64 a4_0, .int .u64 a4_1, .int .u64 a4_2, .int .u64 a4_3] 25 (0, 0))) ∧ Aside0 (Below w.heap.size w wc))
 case first =>
  have H := HC6.out
  clear HC6
  replace H := Option.bind_eq_some_iff.mp H
  obtain ⟨t235, A80, H⟩ := H
  replace H : (if t235 = true then ((truceref16_Fit.f k l0).bind fun t236 => (if t236 = true then (trucelaw16_AcctMoves.j0 k l0 a1 a2 a3 (a1.toList == a2.toList) a4_0 a4_1 a4_2 a4_3) else (trucelaw16_AcctMoves.j0 k l0 a1 a2 a3 true a4_0 a4_1 a4_2 a4_3))) else (trucelaw16_AcctMoves.j0 k l0 a1 a2 a3 true a4_0 a4_1 a4_2 a4_3)) = some r := H
  have A8 := Aside0.mk A80
  clear A80
  by_cases c9 : t235 = true
  ·subst c9
   have H1 : ((truceref16_Fit.f k l0).bind fun t236 => (if t236 = true then (trucelaw16_AcctMoves.j0 k l0 a1 a2 a3 (a1.toList == a2.toList) a4_0 a4_1 a4_2 a4_3) else (trucelaw16_AcctMoves.j0 k l0 a1 a2 a3 true a4_0 a4_1 a4_2 a4_3))) = some r := by rw [if_pos rfl] at H; exact H
   clear H
   have H := H1
   clear H1
   replace H := Option.bind_eq_some_iff.mp H
   obtain ⟨t236, A100, H⟩ := H
   replace H : (if t236 = true then (trucelaw16_AcctMoves.j0 k l0 a1 a2 a3 (a1.toList == a2.toList) a4_0 a4_1 a4_2 a4_3) else (trucelaw16_AcctMoves.j0 k l0 a1 a2 a3 true a4_0 a4_1 a4_2 a4_3)) = some r := H
   have A10 := Aside0.mk A100
   clear A100
   by_cases c11 : t236 = true
   ·subst c11
    have H1 : (trucelaw16_AcctMoves.j0 k l0 a1 a2 a3 (a1.toList == a2.toList) a4_0 a4_1 a4_2 a4_3) = some r := by rw [if_pos rfl] at H; exact H
    clear H
    have H := H1
    clear H1
    have H' := Aside0.mk H
    clear H
    go_wp2_with (first | ((with_reducible refine gate_callee (f := 7) rfl ?_); refine goesL_ (some 22) rfl rfl Try.func7 (by kernel_rfl) rfl #[.slice A0 l0.length c0] rfl (by (try simp only [List.map_toArray, List.map_cons, List.map_nil]); first | done | rfl | (simp only [List.length_drop, List.length_take]; rfl)) ?_; (with_reducible refine (trucelaw16_few.calls _ _ l0 true _ ?side1 ?side2 A8.out).mono ?_); (case side1 => repeat (first | exact (Kd.C_below HR0.out HB.out) | (with_reducible refine Kd.C_alloc ?_ _) | (with_reducible refine Kd.C_drewN ?_ _) | (with_reducible refine Kd.C_drew ?_))); (case side2 => exact HC0.out); rintro e w' ⟨rfl, ⟨nd, rfl⟩⟩; refine ⟨_, rfl, ?_⟩) | (go_at_call 8; (with_reducible refine (truceref16_Fit.calls k _ _ l0 true _ ?side1 ?side2 A10.out).mono ?_); (case side1 => repeat (first | exact (Kd.C_below HR0.out (by repeat (first | (with_reducible first | exact HB.out | apply below_alloc | apply pw_below_drewN | apply below_drew1 | refine below_set ?_ GE234.out) | exact HB.out))) | (with_reducible refine Kd.C_alloc ?_ _) | (with_reducible refine Kd.C_drewN ?_ _) | (with_reducible refine Kd.C_drew ?_))); (case side2 => exact HC0.out); rintro e w12 ⟨rfl, hb⟩; have n0_ := Aside0.mk (blk_below (g := gb234) (o := .cells #[.int .u64 a4_0, .int .u64 a4_1, .int .u64 a4_2, .int .u64 a4_3] 25 (0, 0)) (by (with_reducible repeat (first | apply mlN | apply mlD | apply mlA)); exact BK234.out) hb); have n1_ := Aside0.mk (below_step (by repeat (first | (with_reducible first | exact HB.out | apply below_alloc | apply pw_below_drewN | apply below_drew1 | refine below_set ?_ GE234.out) | exact HB.out)) hb); clear BK234; clear HB; have BK234 := n0_; have HB := n1_; clear n0_ n1_; (try clear hb); (try clear hb2); (try clear hk); (try clear hi)))
    go_meet
    case rel => exact ⟨_, ((a1.toList == a2.toList)), (by first | rfl | (simp; done) | (simp [*]; done)), H', ⟨by first | omega | exact Nat.le_refl _⟩, ⟨by (with_reducible repeat (first | apply mlN | apply mlD | apply mlA)); exact BK234.out⟩, ⟨by repeat (first | (with_reducible first | exact HB.out | apply below_alloc | apply pw_below_drewN | apply below_drew1 | refine below_set ?_ GE234.out) | exact HB.out)⟩⟩
   ·replace c11 := Bool.eq_false_iff.mpr c11
    subst c11
    have H1 : (trucelaw16_AcctMoves.j0 k l0 a1 a2 a3 true a4_0 a4_1 a4_2 a4_3) = some r := by rw [if_neg (show ¬ (false = true) by decide)] at H; exact H
    clear H
    have H := H1
    clear H1
    have H' := Aside0.mk H
    clear H
    go_wp2_with (first | ((with_reducible refine gate_callee (f := 7) rfl ?_); refine goesL_ (some 22) rfl rfl Try.func7 (by kernel_rfl) rfl #[.slice A0 l0.length c0] rfl (by (try simp only [List.map_toArray, List.map_cons, List.map_nil]); first | done | rfl | (simp only [List.length_drop, List.length_take]; rfl)) ?_; (with_reducible refine (trucelaw16_few.calls _ _ l0 true _ ?side1 ?side2 A8.out).mono ?_); (case side1 => repeat (first | exact (Kd.C_below HR0.out HB.out) | (with_reducible refine Kd.C_alloc ?_ _) | (with_reducible refine Kd.C_drewN ?_ _) | (with_reducible refine Kd.C_drew ?_))); (case side2 => exact HC0.out); rintro e w' ⟨rfl, ⟨nd, rfl⟩⟩; refine ⟨_, rfl, ?_⟩) | (go_at_call 8; (with_reducible refine (truceref16_Fit.calls k _ _ l0 false _ ?side1 ?side2 A10.out).mono ?_); (case side1 => repeat (first | exact (Kd.C_below HR0.out (by repeat (first | (with_reducible first | exact HB.out | apply below_alloc | apply pw_below_drewN | apply below_drew1 | refine below_set ?_ GE234.out) | exact HB.out))) | (with_reducible refine Kd.C_alloc ?_ _) | (with_reducible refine Kd.C_drewN ?_ _) | (with_reducible refine Kd.C_drew ?_))); (case side2 => exact HC0.out); rintro e w13 ⟨rfl, hb⟩; have n0_ := Aside0.mk (blk_below (g := gb234) (o := .cells #[.int .u64 a4_0, .int .u64 a4_1, .int .u64 a4_2, .int .u64 a4_3] 25 (0, 0)) (by (with_reducible repeat (first | apply mlN | apply mlD | apply mlA)); exact BK234.out) hb); have n1_ := Aside0.mk (below_step (by repeat (first | (with_reducible first | exact HB.out | apply below_alloc | apply pw_below_drewN | apply below_drew1 | refine below_set ?_ GE234.out) | exact HB.out)) hb); clear BK234; clear HB; have BK234 := n0_; have HB := n1_; clear n0_ n1_; (try clear hb); (try clear hb2); (try clear hk); (try clear hi)))
    go_meet
    case rel => exact ⟨_, (true), (by first | rfl | (simp; done) | (simp [*]; done)), H', ⟨by first | omega | exact Nat.le_refl _⟩, ⟨by (with_reducible repeat (first | apply mlN | apply mlD | apply mlA)); exact BK234.out⟩, ⟨by repeat (first | (with_reducible first | exact HB.out | apply below_alloc | apply pw_below_drewN | apply below_drew1 | refine below_set ?_ GE234.out) | exact HB.out)⟩⟩
  ·replace c9 := Bool.eq_false_iff.mpr c9
   subst c9
   have H1 : (trucelaw16_AcctMoves.j0 k l0 a1 a2 a3 true a4_0 a4_1 a4_2 a4_3) = some r := by rw [if_neg (show ¬ (false = true) by decide)] at H; exact H
   clear H
   have H := H1
   clear H1
   have H' := Aside0.mk H
   clear H
   go_wp2_with (first | ((with_reducible refine gate_callee (f := 7) rfl ?_); refine goesL_ (some 22) rfl rfl Try.func7 (by kernel_rfl) rfl #[.slice A0 l0.length c0] rfl (by (try simp only [List.map_toArray, List.map_cons, List.map_nil]); first | done | rfl | (simp only [List.length_drop, List.length_take]; rfl)) ?_; (with_reducible refine (trucelaw16_few.calls _ _ l0 false _ ?side1 ?side2 A8.out).mono ?_); (case side1 => repeat (first | exact (Kd.C_below HR0.out HB.out) | (with_reducible refine Kd.C_alloc ?_ _) | (with_reducible refine Kd.C_drewN ?_ _) | (with_reducible refine Kd.C_drew ?_))); (case side2 => exact HC0.out); rintro e w' ⟨rfl, ⟨nd, rfl⟩⟩; refine ⟨_, rfl, ?_⟩))
   go_meet
   case rel => exact ⟨_, (true), (by first | rfl | (simp; done) | (simp [*]; done)), H', ⟨by first | omega | exact Nat.le_refl _⟩, ⟨by (with_reducible repeat (first | apply mlN | apply mlD | apply mlA)); exact BK234.out⟩, ⟨by repeat (first | (with_reducible first | exact HB.out | apply below_alloc | apply pw_below_drewN | apply below_drew1 | refine below_set ?_ GE234.out) | exact HB.out)⟩⟩
 case rest =>
  clear HC6
  try clear c1
  try clear p2
  try clear c5
  try clear c7
  try clear c9
  try clear c11
  obtain ⟨kq, x33_5, rfl, HA, HJ5, BK234, HB⟩ := hcut
  cases kq with
  | zero => exact absurd HA.out (by simp [trucelaw16_AcctMoves.j0])
  | succ kj5 =>
   have H := HA.out
   clear HA
   simp only [trucelaw16_AcctMoves.j0] at H
   by_cases c14 : x33_5 = true
   ·subst c14
    have H1 : ((trucelaw16_awake.f kj5).bind fun t237 => (some t237)) = some r := by rw [if_pos rfl] at H; exact H
    clear H
    have H := H1
    clear H1
    replace H := Option.bind_eq_some_iff.mp H
    obtain ⟨t237, A150, H⟩ := H
    replace H : (some t237) = some r := H
    have A15 := Aside0.mk A150
    clear A150
    obtain rfl := Option.some.inj H
    go_wp2_with (first | ((with_reducible refine gate_callee (f := 9) rfl ?_); refine goesL_ (some 34) rfl rfl Try.func9 (by kernel_rfl) rfl #[] rfl (by (try simp only [List.map_toArray, List.map_cons, List.map_nil]); first | done | rfl | (simp only [List.length_drop, List.length_take]; rfl)) ?_; (with_reducible refine (trucelaw16_awake.calls kj5  t237 _ A15.out).mono ?_); rintro e w16 ⟨rfl, hb⟩; refine ⟨_, rfl, ?_⟩; have n0_ := Aside0.mk (blk_below (g := gb234) (o := .cells #[.int .u64 a4_0, .int .u64 a4_1, .int .u64 a4_2, .int .u64 a4_3] 25 (0, 0)) (by (with_reducible repeat (first | apply mlN | apply mlD | apply mlA)); exact BK234.out) hb); have n1_ := Aside0.mk (below_step (by repeat (first | (with_reducible first | exact HB.out | apply below_alloc | apply pw_below_drewN | apply below_drew1 | refine below_set ?_ GE234.out) | exact HB.out)) hb); clear BK234; clear HB; have BK234 := n0_; have HB := n1_; clear n0_ n1_; (try clear hb); (try clear hb2); (try clear hk); (try clear hi)))
    go_ret
    exact ⟨by first | rfl | (simp [errW_none, errW_some] <;> rfl) | (simp [*, errW_none, errW_some] <;> rfl), by repeat (first | (with_reducible first | exact HB.out | apply below_alloc | apply pw_below_drewN | apply below_drew1 | refine below_set ?_ GE234.out) | exact HB.out)⟩
   ·replace c14 := Bool.eq_false_iff.mpr c14
    subst c14
    have H1 : ((acct_Take.f l0 a1 a3 a4_0 a4_1 a4_2 a4_3).bind fun bt238 => ((acct_Give.f bt238.1 a2 a3 a4_0 a4_1 a4_2 a4_3).bind fun bt242 => (if bt238.2 = 0 then (trucelaw16_AcctMoves.j1 kj5 l0 a1 a2 a3 bt242.1 (bt242.2 != 0)) else (trucelaw16_AcctMoves.j1 kj5 l0 a1 a2 a3 bt242.1 true)))) = some r := by rw [if_neg (show ¬ (false = true) by decide)] at H; exact H
    clear H
    have H := H1
    clear H1
    replace H := Option.bind_eq_some_iff.mp H
    obtain ⟨⟨t238, t241⟩, A170, H⟩ := H
    replace H : ((acct_Give.f t238 a2 a3 a4_0 a4_1 a4_2 a4_3).bind fun bt242 => (if t241 = 0 then (trucelaw16_AcctMoves.j1 kj5 l0 a1 a2 a3 bt242.1 (bt242.2 != 0)) else (trucelaw16_AcctMoves.j1 kj5 l0 a1 a2 a3 bt242.1 true))) = some r := H
    have A17 := Aside0.mk A170
    clear A170
    replace H := Option.bind_eq_some_iff.mp H
    obtain ⟨⟨t242, t245⟩, A180, H⟩ := H
    replace H : (if t241 = 0 then (trucelaw16_AcctMoves.j1 kj5 l0 a1 a2 a3 t242 (t245 != 0)) else (trucelaw16_AcctMoves.j1 kj5 l0 a1 a2 a3 t242 true)) = some r := H
    have A18 := Aside0.mk A180
    clear A180
    have HC19 := Aside0.mk H
    clear H
    have hcz20_0 : wc.cell? ⟨gb234, 0, none⟩ = some (.int .u64 a4_0) := (blk_cell BK234.out 0).trans rfl
    have hcz20_1 : wc.cell? ⟨gb234, 1, none⟩ = some (.int .u64 a4_1) := (blk_cell BK234.out 1).trans rfl
    have hcz20_2 : wc.cell? ⟨gb234, 2, none⟩ = some (.int .u64 a4_2) := (blk_cell BK234.out 2).trans rfl
    have hcz20_3 : wc.cell? ⟨gb234, 3, none⟩ = some (.int .u64 a4_3) := (blk_cell BK234.out 3).trans rfl
    have hfz20_0 := blk_frozen BK234.out 0
    have hfz20_1 := blk_frozen BK234.out 1
    have hfz20_2 := blk_frozen BK234.out 2
    have hfz20_3 := blk_frozen BK234.out 3
    go_upto_region 5 with (first | ((with_reducible refine gate_callee (f := 12) rfl ?_); refine goesL_ (some 40) rfl rfl Try.func12 (by kernel_rfl) rfl #[.slice A0 l0.length c0, .string a1, .string a3, .agg #[.int .u64 a4_0, .int .u64 a4_1, .int .u64 a4_2, .int .u64 a4_3]] rfl (by (try simp only [List.map_toArray, List.map_cons, List.map_nil]); first | done | rfl | (simp only [List.length_drop, List.length_take]; rfl)) ?_; (with_reducible refine (acct_Take.calls (fun k_ => k_ < w.heap.size) _ _ l0 a1 a3 a4_0 a4_1 a4_2 a4_3 t238 t241 _ ?side1 A17.out).mono ?_); (case side1 => exact Kd.V_mk HC0.out (Kd.F_below (Kd.C_F k39_heap HR0.out) (by repeat (first | (with_reducible first | exact HB.out | apply below_alloc | apply pw_below_drewN | apply below_drew1 | refine below_set ?_ GE234.out) | exact HB.out)))); rintro e w21 ⟨v239, rfl, ho0, hb⟩; refine ⟨_, rfl, ?_⟩; have n0_ := Aside0.mk (Kd.V_lower (Kd.V_mono (ok' := fun k_ => k_ ≠ gb234) ho0 (fun k_ hk_ => Or.elim hk_ (fun hs_ => fun e_ => Nat.not_le.2 hs_ (by rw [e_]; exact GW234.out)) (fun hn_ => (Kd.freshB (g := gb234) (o := .cells #[.int .u64 a4_0, .int .u64 a4_1, .int .u64 a4_2, .int .u64 a4_3] 25 (0, 0)) (by (with_reducible repeat (first | apply mlN | apply mlD | apply mlA)); exact BK234.out) k_ hn_)))) (below_size (by repeat (first | (with_reducible first | exact HB.out | apply below_alloc | apply pw_below_drewN | apply below_drew1 | refine below_set ?_ GE234.out) | exact HB.out)))); have n1_ := Aside0.mk (blk_below (g := gb234) (o := .cells #[.int .u64 a4_0, .int .u64 a4_1, .int .u64 a4_2, .int .u64 a4_3] 25 (0, 0)) (by (with_reducible repeat (first | apply mlN | apply mlD | apply mlA)); exact BK234.out) hb); have n2_ := Aside0.mk (below_step (by repeat (first | (with_reducible first | exact HB.out | apply below_alloc | apply pw_below_drewN | apply below_drew1 | refine below_set ?_ GE234.out) | exact HB.out)) hb); clear BK234; clear HB; have HO240 := n0_; have BK234 := n1_; have HB := n2_; clear n0_ n1_ n2_; (try clear hb); (try clear hb2); (try clear hk); (try clear hi); (try clear ho0); have hcz22_0 : w21.cell? ⟨gb234, 0, none⟩ = some (.int .u64 a4_0) := (blk_cell BK234.out 0).trans rfl; have hcz22_1 : w21.cell? ⟨gb234, 1, none⟩ = some (.int .u64 a4_1) := (blk_cell BK234.out 1).trans rfl; have hcz22_2 : w21.cell? ⟨gb234, 2, none⟩ = some (.int .u64 a4_2) := (blk_cell BK234.out 2).trans rfl; have hcz22_3 : w21.cell? ⟨gb234, 3, none⟩ = some (.int .u64 a4_3) := (blk_cell BK234.out 3).trans rfl; have hfz22_0 := blk_frozen BK234.out 0; have hfz22_1 := blk_frozen BK234.out 1; have hfz22_2 := blk_frozen BK234.out 2; have hfz22_3 := blk_frozen BK234.out 3; obtain ⟨Ao23, co23, eo23⟩ := Kd.V_slice HO240.out; subst eo23) | ((with_reducible refine gate_callee (f := 10) rfl ?_); refine goesL_ (some 48) rfl rfl Try.func10 (by kernel_rfl) rfl #[.slice Ao23 t238.length co23, .string a2, .string a3, .agg #[.int .u64 a4_0, .int .u64 a4_1, .int .u64 a4_2, .int .u64 a4_3]] rfl (by (try simp only [List.map_toArray, List.map_cons, List.map_nil]); first | done | rfl | (simp only [List.length_drop, List.length_take]; rfl)) ?_; (with_reducible refine (acct_Give.calls (fun k_ => k_ ≠ gb234) _ _ t238 a2 a3 a4_0 a4_1 a4_2 a4_3 t242 t245 _ ?side1 A18.out).mono ?_); (case side1 => exact HO240.out); rintro e w24 ⟨v243, rfl, ho0, hb⟩; refine ⟨_, rfl, ?_⟩; have n0_ := Aside0.mk (Kd.V_below (by (with_reducible repeat (first | apply Kd.V_alloc | apply Kd.V_drewN | apply Kd.V_drew)); exact HO240.out) hb); have n1_ := Aside0.mk (Kd.V_lower (Kd.V_mono (ok' := fun k_ => k_ ≠ gb234) ho0 (fun k_ hk_ => Or.elim hk_ (fun hs_ => hs_) (fun hn_ => (Kd.freshB (g := gb234) (o := .cells #[.int .u64 a4_0, .int .u64 a4_1, .int .u64 a4_2, .int .u64 a4_3] 25 (0, 0)) (by (with_reducible repeat (first | apply mlN | apply mlD | apply mlA)); exact BK234.out) k_ hn_)))) (below_size (by repeat (first | (with_reducible first | exact HB.out | apply below_alloc | apply pw_below_drewN | apply below_drew1 | refine below_set ?_ GE234.out) | exact HB.out)))); have n2_ := Aside0.mk (blk_below (g := gb234) (o := .cells #[.int .u64 a4_0, .int .u64 a4_1, .int .u64 a4_2, .int .u64 a4_3] 25 (0, 0)) (by (with_reducible repeat (first | apply mlN | apply mlD | apply mlA)); exact BK234.out) hb); have n3_ := Aside0.mk (below_step (by repeat (first | (with_reducible first | exact HB.out | apply below_alloc | apply pw_below_drewN | apply below_drew1 | refine below_set ?_ GE234.out) | exact HB.out)) hb); clear HO240; clear BK234; clear HB; have HO240 := n0_; have HO244 := n1_; have BK234 := n2_; have HB := n3_; clear n0_ n1_ n2_ n3_; (try clear hb); (try clear hb2); (try clear hk); (try clear hi); (try clear ho0)))
    (try simp only [Act.put, List.setIfInBounds_toArray, List.set_cons_zero, List.set_cons_succ])
    go_cut [56] (fun v56 wc => ∃ (kq : Nat) (x56_18 : Bool), v56 = .bool x56_18 ∧ Aside0 (trucelaw16_AcctMoves.j1 kq l0 a1 a2 a3 t242 x56_18 = some r) ∧ Aside0 (kq ≤ kj5) ∧ Aside0 (Kd.V k39 39 wc w.heap.size (fun k_ => k_ ≠ gb234) v243 t242) ∧ Aside0 (wc.heap[gb234]? = some (.cells #[.int .u64 a4_0, .int .u64 a4_1, .int .u64 a4_2, .int .u64 a4_3] 25 (0, 0))) ∧ Aside0 (Below w.heap.size w wc))
    case first =>
     have H := HC19.out
     clear HC19
     by_cases c25 : t241 = 0
     ·rw [if_pos c25] at H
      have c25b0 : (t241 == 0) = true := beq_iff_eq.mpr c25
      have c25b1 : (t241 != 0) = false := bne_eq_false_iff_eq.mpr c25
      clear c25
      (first | rw [c25b0] | (simp only [i64_w, i32_w]; rw [c25b0]) | skip)
      have H' := Aside0.mk H
      clear H
      go_wp2
      go_meet
      case rel => exact ⟨_, ((t245 != 0)), (by first | rfl | (simp; done) | (simp [*]; done)), H', ⟨by have := HJ5.out; first | omega | exact Nat.le_refl _⟩, ⟨by (with_reducible repeat (first | apply Kd.V_alloc | apply Kd.V_drewN | apply Kd.V_drew)); exact HO244.out⟩, ⟨by (with_reducible repeat (first | apply mlN | apply mlD | apply mlA)); exact BK234.out⟩, ⟨by repeat (first | (with_reducible first | exact HB.out | apply below_alloc | apply pw_below_drewN | apply below_drew1 | refine below_set ?_ GE234.out) | exact HB.out)⟩⟩
     ·rw [if_neg c25] at H
      have c25b0 : (t241 == 0) = false := beq_eq_false_iff_ne.mpr c25
      have c25b1 : (t241 != 0) = true := bne_iff_ne.mpr c25
      (first | rw [c25b0] | (simp only [i64_w, i32_w]; rw [c25b0]) | skip)
      have H' := Aside0.mk H
      clear H
      go_wp2
      go_meet
      case rel => exact ⟨_, (true), (by first | rfl | (simp; done) | (simp [*]; done)), H', ⟨by have := HJ5.out; first | omega | exact Nat.le_refl _⟩, ⟨by (with_reducible repeat (first | apply Kd.V_alloc | apply Kd.V_drewN | apply Kd.V_drew)); exact HO244.out⟩, ⟨by (with_reducible repeat (first | apply mlN | apply mlD | apply mlA)); exact BK234.out⟩, ⟨by repeat (first | (with_reducible first | exact HB.out | apply below_alloc | apply pw_below_drewN | apply below_drew1 | refine below_set ?_ GE234.out) | exact HB.out)⟩⟩
    case rest =>
     clear HC19
     try clear c1
     try clear c2
     try clear p2
     try clear c5
     try clear c7
     try clear c9
     try clear c10
     try clear c11
     try clear c12
     try clear c14
     try clear c25
     try clear c25b0
     try clear c25b1
     try clear hcz20_0
     try clear hcz20_1
     try clear hcz20_2
     try clear hcz20_3
     try clear hcz22_0
     try clear hcz22_1
     try clear hcz22_2
     try clear hcz22_3
     try clear hfz20_0
     try clear hfz20_1
     try clear hfz20_2
     try clear hfz20_3
     try clear hfz22_0
     try clear hfz22_1
     try clear hfz22_2
     try clear hfz22_3
     try clear p2
     obtain ⟨kq, x56_18, rfl, HA, HJ18, HO_13, BK234, HB⟩ := hcut
     cases kq with
     | zero => exact absurd HA.out (by simp [trucelaw16_AcctMoves.j1])
     | succ kj18 =>
      have H := HA.out
      clear HA
      simp only [trucelaw16_AcctMoves.j1] at H
      by_cases c26 : x56_18 = true
      ·subst c26
       have H1 : ((trucelaw16_awake.f kj18).bind fun t246 => (some t246)) = some r := by rw [if_pos rfl] at H; exact H
       clear H
       have H := H1
       clear H1
       replace H := Option.bind_eq_some_iff.mp H
       obtain ⟨t246, A270, H⟩ := H
       replace H : (some t246) = some r := H
       have A27 := Aside0.mk A270
       clear A270
       obtain rfl := Option.some.inj H
       go_wp2_with (first | ((with_reducible refine gate_callee (f := 9) rfl ?_); refine goesL_ (some 57) rfl rfl Try.func9 (by kernel_rfl) rfl #[] rfl (by (try simp only [List.map_toArray, List.map_cons, List.map_nil]); first | done | rfl | (simp only [List.length_drop, List.length_take]; rfl)) ?_; (with_reducible refine (trucelaw16_awake.calls kj18  t246 _ A27.out).mono ?_); rintro e w28 ⟨rfl, hb⟩; refine ⟨_, rfl, ?_⟩; have n0_ := Aside0.mk (Kd.V_below (by (with_reducible repeat (first | apply Kd.V_alloc | apply Kd.V_drewN | apply Kd.V_drew)); exact HO_13.out) hb); have n1_ := Aside0.mk (blk_below (g := gb234) (o := .cells #[.int .u64 a4_0, .int .u64 a4_1, .int .u64 a4_2, .int .u64 a4_3] 25 (0, 0)) (by (with_reducible repeat (first | apply mlN | apply mlD | apply mlA)); exact BK234.out) hb); have n2_ := Aside0.mk (below_step (by repeat (first | (with_reducible first | exact HB.out | apply below_alloc | apply pw_below_drewN | apply below_drew1 | refine below_set ?_ GE234.out) | exact HB.out)) hb); clear HO_13; clear BK234; clear HB; have HO_13 := n0_; have BK234 := n1_; have HB := n2_; clear n0_ n1_ n2_; (try clear hb); (try clear hb2); (try clear hk); (try clear hi)))
       go_ret
       exact ⟨by first | rfl | (simp [errW_none, errW_some] <;> rfl) | (simp [*, errW_none, errW_some] <;> rfl), by repeat (first | (with_reducible first | exact HB.out | apply below_alloc | apply pw_below_drewN | apply below_drew1 | refine below_set ?_ GE234.out) | exact HB.out)⟩
      ·replace c26 := Bool.eq_false_iff.mpr c26
       subst c26
       have H1 : ((truceref16_Sum.f kj18 l0 a3).bind fun bt247 => ((truceref16_Sum.f kj18 t242 a3).bind fun bt253 => (if bt253.2.2.2.2 = true then (if (!(bt247.1 == bt253.1) || (!(bt247.2.1 == bt253.2.1) || (!(bt247.2.2.1 == bt253.2.2.1) || (!(bt247.2.2.2.1 == bt253.2.2.2.1))))) = true then (trucelaw16_AcctMoves.j2 kj18 l0 a1 a2 a3 t242 true) else ((truceref16_Fit.f kj18 t242).bind fun t259 => (trucelaw16_AcctMoves.j2 kj18 l0 a1 a2 a3 t242 (!t259)))) else (trucelaw16_AcctMoves.j2 kj18 l0 a1 a2 a3 t242 true)))) = some r := by rw [if_neg (show ¬ (false = true) by decide)] at H; exact H
       clear H
       have H := H1
       clear H1
       replace H := Option.bind_eq_some_iff.mp H
       obtain ⟨⟨t247, t248, t249, t250, t251⟩, A290, H⟩ := H
       replace H : ((truceref16_Sum.f kj18 t242 a3).bind fun bt253 => (if bt253.2.2.2.2 = true then (if (!(t247 == bt253.1) || (!(t248 == bt253.2.1) || (!(t249 == bt253.2.2.1) || (!(t250 == bt253.2.2.2.1))))) = true then (trucelaw16_AcctMoves.j2 kj18 l0 a1 a2 a3 t242 true) else ((truceref16_Fit.f kj18 t242).bind fun t259 => (trucelaw16_AcctMoves.j2 kj18 l0 a1 a2 a3 t242 (!t259)))) else (trucelaw16_AcctMoves.j2 kj18 l0 a1 a2 a3 t242 true))) = some r := H
       have A29 := Aside0.mk A290
       clear A290
       replace H := Option.bind_eq_some_iff.mp H
       obtain ⟨⟨t253, t254, t255, t256, t257⟩, A300, H⟩ := H
       replace H : (if t257 = true then (if (!(t247 == t253) || (!(t248 == t254) || (!(t249 == t255) || (!(t250 == t256))))) = true then (trucelaw16_AcctMoves.j2 kj18 l0 a1 a2 a3 t242 true) else ((truceref16_Fit.f kj18 t242).bind fun t259 => (trucelaw16_AcctMoves.j2 kj18 l0 a1 a2 a3 t242 (!t259)))) else (trucelaw16_AcctMoves.j2 kj18 l0 a1 a2 a3 t242 true)) = some r := H
       have A30 := Aside0.mk A300
       clear A300
       have HC31 := Aside0.mk H
       clear H
       go_upto_region 9 with (first | ((with_reducible refine gate_callee (f := 15) rfl ?_); refine goesL_ (some 61) rfl rfl Try.func15 (by kernel_rfl) rfl #[.slice A0 l0.length c0, .string a3] rfl (by (try simp only [List.map_toArray, List.map_cons, List.map_nil]); first | done | rfl | (simp only [List.length_drop, List.length_take]; rfl)) ?_; (with_reducible refine (truceref16_Sum.calls kj18 _ _ l0 a3 t247 t248 t249 t250 t251 _ ?side1 ?side2 A29.out).mono ?_); (case side1 => repeat (first | exact (Kd.C_below HR0.out HB.out) | (with_reducible refine Kd.C_alloc ?_ _) | (with_reducible refine Kd.C_drewN ?_ _) | (with_reducible refine Kd.C_drew ?_))); (case side2 => exact HC0.out); rintro e w32 ⟨rfl, hb⟩; refine ⟨_, rfl, ?_⟩; have n0_ := Aside0.mk (Kd.V_below (by (with_reducible repeat (first | apply Kd.V_alloc | apply Kd.V_drewN | apply Kd.V_drew)); exact HO_13.out) hb); have n1_ := Aside0.mk (blk_below (g := gb234) (o := .cells #[.int .u64 a4_0, .int .u64 a4_1, .int .u64 a4_2, .int .u64 a4_3] 25 (0, 0)) (by (with_reducible repeat (first | apply mlN | apply mlD | apply mlA)); exact BK234.out) hb); have n2_ := Aside0.mk (below_step (by repeat (first | (with_reducible first | exact HB.out | apply below_alloc | apply pw_below_drewN | apply below_drew1 | refine below_set ?_ GE234.out) | exact HB.out)) hb); clear HO_13; clear BK234; clear HB; have HO_13 := n0_; have BK234 := n1_; have HB := n2_; clear n0_ n1_ n2_; (try clear hb); (try clear hb2); (try clear hk); (try clear hi)) | ((with_reducible refine gate_dst (N := 15) rfl ?_); refine box_event ?hg (N := 15) ?hd (cs := #[.int .u64 0, .int .u64 0, .int .u64 0, .int .u64 0]) (t := 25) ?hr ?_; (case hd => rfl); (case hg => rfl); (case hr => first | (go_simp; done) | (go_simp; rfl)); intro gb252 hg w33 hbox hb; have n0_ := Aside0.mk (Kd.V_below (Kd.V_elderB (by (with_reducible repeat (first | apply Kd.V_alloc | apply Kd.V_drewN | apply Kd.V_drew)); exact HO_13.out) gb252 (Nat.le_of_eq hg.symm)) hb); have n1_ := Aside0.mk (blk_below (g := gb234) (o := .cells #[.int .u64 a4_0, .int .u64 a4_1, .int .u64 a4_2, .int .u64 a4_3] 25 (0, 0)) (by (with_reducible repeat (first | apply mlN | apply mlD | apply mlA)); exact BK234.out) hb); have n2_ := Aside0.mk (below_step (by repeat (first | (with_reducible first | exact HB.out | apply below_alloc | apply pw_below_drewN | apply below_drew1 | refine below_set ?_ GE234.out) | exact HB.out)) hb); have n3_ := Aside0.mk (hbox); have n4_ := Aside0.mk ((by rw [hg]; exact (below_size (by repeat (first | (with_reducible first | exact HB.out | apply below_alloc | apply pw_below_drewN | apply below_drew1 | refine below_set ?_ GE234.out) | exact HB.out))) : w.heap.size ≤ gb252)); have n5_ := Aside0.mk ((by rw [hg]; exact (below_size (by repeat (first | (with_reducible first | exact HB.out | apply below_alloc | apply pw_below_drewN | apply below_drew1 | refine below_set ?_ GE234.out) | exact HB.out))) : w.heap.size ≤ gb252)); have n6_ := Aside0.mk ((by rw [hg]; exact Nat.ne_of_lt (blk_lt (g := gb234) (o := .cells #[.int .u64 a4_0, .int .u64 a4_1, .int .u64 a4_2, .int .u64 a4_3] 25 (0, 0)) (by (with_reducible repeat (first | apply mlN | apply mlD | apply mlA)); exact BK234.out)) : gb234 ≠ gb252)); have n7_ := Aside0.mk ((by rw [hg]; exact Nat.ne_of_gt (blk_lt (g := gb234) (o := .cells #[.int .u64 a4_0, .int .u64 a4_1, .int .u64 a4_2, .int .u64 a4_3] 25 (0, 0)) (by (with_reducible repeat (first | apply mlN | apply mlD | apply mlA)); exact BK234.out)) : gb252 ≠ gb234)); clear HO_13; clear BK234; clear HB; have HO_13 := n0_; have BK234 := n1_; have HB := n2_; have BK252 := n3_; have GW252 := n4_; have GE252 := n5_; have NB234_252 := n6_; have NB252_234 := n7_; clear n0_ n1_ n2_ n3_ n4_ n5_ n6_ n7_; clear hb hbox hg; have hnb34 := NB252_234.out; have hnc34 := NB234_252.out; have hcz35_0 : w33.cell? ⟨gb252, 0, none⟩ = some (.int .u64 0) := (blk_cell BK252.out 0).trans rfl; have hcz35_1 : w33.cell? ⟨gb252, 1, none⟩ = some (.int .u64 0) := (blk_cell BK252.out 1).trans rfl; have hcz35_2 : w33.cell? ⟨gb252, 2, none⟩ = some (.int .u64 0) := (blk_cell BK252.out 2).trans rfl; have hcz35_3 : w33.cell? ⟨gb252, 3, none⟩ = some (.int .u64 0) := (blk_cell BK252.out 3).trans rfl; have hfz35_0 := blk_frozen BK252.out 0; have hfz35_1 := blk_frozen BK252.out 1; have hfz35_2 := blk_frozen BK252.out 2; have hfz35_3 := blk_frozen BK252.out 3; obtain ⟨Ao36, co36, eo36⟩ := Kd.V_slice HO_13.out; subst eo36) | ((with_reducible refine gate_callee (f := 15) rfl ?_); refine goesL_ (some 67) rfl rfl Try.func15 (by kernel_rfl) rfl #[.slice Ao36 t242.length co36, .string a3] rfl (by (try simp only [List.map_toArray, List.map_cons, List.map_nil]); first | done | rfl | (simp only [List.length_drop, List.length_take]; rfl)) ?_; (with_reducible refine (truceref16_Sum.calls kj18 _ _ t242 a3 t253 t254 t255 t256 t257 _ ?side1 ?side2 A30.out).mono ?_); (case side1 => refine (Kd.V_reads' (e := 39) (base := w.heap.size) (ok := fun k_ => (k_ ≠ gb234 ∧ k_ ≠ gb252)) (n := t242.length) (c := co36) ?_).2.2; exact (by (with_reducible repeat (first | apply Kd.V_alloc | apply Kd.V_drewN | apply Kd.V_drew)); exact (Kd.V_mono (Kd.V_far (p := ⟨gb252, 3, none⟩) (Kd.V_far (p := ⟨gb252, 2, none⟩) (Kd.V_far (p := ⟨gb252, 1, none⟩) (Kd.V_far (p := ⟨gb252, 0, none⟩) (Kd.V_mono HO_13.out (fun k_ hk => (⟨hk, hk.2⟩ : _ ∧ k_ ≠ gb252))) (fun _ hk => hk.2) (.int .u64 t247)) (fun _ hk => hk.2) (.int .u64 t248)) (fun _ hk => hk.2) (.int .u64 t249)) (fun _ hk => hk.2) (.int .u64 t250)) (fun _ h_ => h_.1)))); (case side2 => exact (Kd.V_reads' HO_13.out).2.1); rintro e w37 ⟨rfl, hb⟩; refine ⟨_, rfl, ?_⟩; have n0_ := Aside0.mk (Kd.V_below (by (with_reducible repeat (first | apply Kd.V_alloc | apply Kd.V_drewN | apply Kd.V_drew)); exact (Kd.V_mono (Kd.V_far (p := ⟨gb252, 3, none⟩) (Kd.V_far (p := ⟨gb252, 2, none⟩) (Kd.V_far (p := ⟨gb252, 1, none⟩) (Kd.V_far (p := ⟨gb252, 0, none⟩) (Kd.V_mono HO_13.out (fun k_ hk => (⟨hk, hk.2⟩ : _ ∧ k_ ≠ gb252))) (fun _ hk => hk.2) (.int .u64 t247)) (fun _ hk => hk.2) (.int .u64 t248)) (fun _ hk => hk.2) (.int .u64 t249)) (fun _ hk => hk.2) (.int .u64 t250)) (fun _ h_ => h_.1))) hb); have n1_ := Aside0.mk (blk_below (g := gb234) (o := .cells #[.int .u64 a4_0, .int .u64 a4_1, .int .u64 a4_2, .int .u64 a4_3] 25 (0, 0)) (by (with_reducible repeat (first | apply mlN | apply mlD | apply mlA)); refine blk_far ?_ NB234_252.out _; (with_reducible repeat (first | apply mlN | apply mlD | apply mlA)); refine blk_far ?_ NB234_252.out _; (with_reducible repeat (first | apply mlN | apply mlD | apply mlA)); refine blk_far ?_ NB234_252.out _; (with_reducible repeat (first | apply mlN | apply mlD | apply mlA)); refine blk_far ?_ NB234_252.out _; (with_reducible repeat (first | apply mlN | apply mlD | apply mlA)); exact BK234.out) hb); have n2_ := Aside0.mk (blk_below (g := gb252) (o := .cells #[.int .u64 t247, .int .u64 t248, .int .u64 t249, .int .u64 t250] 25 (0, 0)) (by (with_reducible repeat (first | apply mlN | apply mlD | apply mlA)); refine blk_put (cs := #[.int .u64 t247, .int .u64 t248, .int .u64 t249, .int .u64 0]) ?_ 3 _ rfl; (with_reducible repeat (first | apply mlN | apply mlD | apply mlA)); refine blk_put (cs := #[.int .u64 t247, .int .u64 t248, .int .u64 0, .int .u64 0]) ?_ 2 _ rfl; (with_reducible repeat (first | apply mlN | apply mlD | apply mlA)); refine blk_put (cs := #[.int .u64 t247, .int .u64 0, .int .u64 0, .int .u64 0]) ?_ 1 _ rfl; (with_reducible repeat (first | apply mlN | apply mlD | apply mlA)); refine blk_put (cs := #[.int .u64 0, .int .u64 0, .int .u64 0, .int .u64 0]) ?_ 0 _ rfl; (with_reducible repeat (first | apply mlN | apply mlD | apply mlA)); exact BK252.out) hb); have n3_ := Aside0.mk (below_step (by repeat (first | (with_reducible first | exact HB.out | apply below_alloc | apply pw_below_drewN | apply below_drew1 | refine below_set ?_ GE234.out | refine below_set ?_ GE252.out) | exact HB.out)) hb); clear HO_13; clear BK234; clear BK252; clear HB; have HO_13 := n0_; have BK234 := n1_; have BK252 := n2_; have HB := n3_; clear n0_ n1_ n2_ n3_; (try clear hb); (try clear hb2); (try clear hk); (try clear hi)) | ((with_reducible refine gate_dst (N := 17) rfl ?_); refine box_event ?hg (N := 17) ?hd (cs := #[.int .u64 0, .int .u64 0, .int .u64 0, .int .u64 0]) (t := 25) ?hr ?_; (case hd => rfl); (case hg => rfl); (case hr => first | (go_simp; done) | (go_simp; rfl)); intro gb258 hg w38 hbox hb; have n0_ := Aside0.mk (Kd.V_below (Kd.V_elderB (by (with_reducible repeat (first | apply Kd.V_alloc | apply Kd.V_drewN | apply Kd.V_drew)); exact HO_13.out) gb258 (Nat.le_of_eq hg.symm)) hb); have n1_ := Aside0.mk (blk_below (g := gb234) (o := .cells #[.int .u64 a4_0, .int .u64 a4_1, .int .u64 a4_2, .int .u64 a4_3] 25 (0, 0)) (by (with_reducible repeat (first | apply mlN | apply mlD | apply mlA)); exact BK234.out) hb); have n2_ := Aside0.mk (blk_below (g := gb252) (o := .cells #[.int .u64 t247, .int .u64 t248, .int .u64 t249, .int .u64 t250] 25 (0, 0)) (by (with_reducible repeat (first | apply mlN | apply mlD | apply mlA)); exact BK252.out) hb); have n3_ := Aside0.mk (below_step (by repeat (first | (with_reducible first | exact HB.out | apply below_alloc | apply pw_below_drewN | apply below_drew1 | refine below_set ?_ GE234.out | refine below_set ?_ GE252.out) | exact HB.out)) hb); have n4_ := Aside0.mk (hbox); have n5_ := Aside0.mk ((by rw [hg]; exact (below_size (by repeat (first | (with_reducible first | exact HB.out | apply below_alloc | apply pw_below_drewN | apply below_drew1 | refine below_set ?_ GE234.out | refine below_set ?_ GE252.out) | exact HB.out))) : w.heap.size ≤ gb258)); have n6_ := Aside0.mk ((by rw [hg]; exact (below_size (by repeat (first | (with_reducible first | exact HB.out | apply below_alloc | apply pw_below_drewN | apply below_drew1 | refine below_set ?_ GE234.out | refine below_set ?_ GE252.out) | exact HB.out))) : w.heap.size ≤ gb258)); have n7_ := Aside0.mk ((by rw [hg]; exact Nat.ne_of_lt (blk_lt (g := gb234) (o := .cells #[.int .u64 a4_0, .int .u64 a4_1, .int .u64 a4_2, .int .u64 a4_3] 25 (0, 0)) (by (with_reducible repeat (first | apply mlN | apply mlD | apply mlA)); exact BK234.out)) : gb234 ≠ gb258)); have n8_ := Aside0.mk ((by rw [hg]; exact Nat.ne_of_gt (blk_lt (g := gb234) (o := .cells #[.int .u64 a4_0, .int .u64 a4_1, .int .u64 a4_2, .int .u64 a4_3] 25 (0, 0)) (by (with_reducible repeat (first | apply mlN | apply mlD | apply mlA)); exact BK234.out)) : gb258 ≠ gb234)); have n9_ := Aside0.mk ((by rw [hg]; exact Nat.ne_of_lt (blk_lt (g := gb252) (o := .cells #[.int .u64 t247, .int .u64 t248, .int .u64 t249, .int .u64 t250] 25 (0, 0)) (by (with_reducible repeat (first | apply mlN | apply mlD | apply mlA)); exact BK252.out)) : gb252 ≠ gb258)); have n10_ := Aside0.mk ((by rw [hg]; exact Nat.ne_of_gt (blk_lt (g := gb252) (o := .cells #[.int .u64 t247, .int .u64 t248, .int .u64 t249, .int .u64 t250] 25 (0, 0)) (by (with_reducible repeat (first | apply mlN | apply mlD | apply mlA)); exact BK252.out)) : gb258 ≠ gb252)); clear HO_13; clear BK234; clear BK252; clear HB; have HO_13 := n0_; have BK234 := n1_; have BK252 := n2_; have HB := n3_; have BK258 := n4_; have GW258 := n5_; have GE258 := n6_; have NB234_258 := n7_; have NB258_234 := n8_; have NB252_258 := n9_; have NB258_252 := n10_; clear n0_ n1_ n2_ n3_ n4_ n5_ n6_ n7_ n8_ n9_ n10_; clear hb hbox hg; have hnb39 := NB258_234.out; have hnc39 := NB234_258.out; have hnb40 := NB258_252.out; have hnc40 := NB252_258.out; have hcz41_0 : w38.cell? ⟨gb258, 0, none⟩ = some (.int .u64 0) := (blk_cell BK258.out 0).trans rfl; have hcz41_1 : w38.cell? ⟨gb258, 1, none⟩ = some (.int .u64 0) := (blk_cell BK258.out 1).trans rfl; have hcz41_2 : w38.cell? ⟨gb258, 2, none⟩ = some (.int .u64 0) := (blk_cell BK258.out 2).trans rfl; have hcz41_3 : w38.cell? ⟨gb258, 3, none⟩ = some (.int .u64 0) := (blk_cell BK258.out 3).trans rfl; have hfz41_0 := blk_frozen BK258.out 0; have hfz41_1 := blk_frozen BK258.out 1; have hfz41_2 := blk_frozen BK258.out 2; have hfz41_3 := blk_frozen BK258.out 3))
       (try simp only [Act.put, List.setIfInBounds_toArray, List.set_cons_zero, List.set_cons_succ])
       go_cut [81] (fun v81 wc => ∃ (kq : Nat) (x81_30 : Bool), v81 = .bool x81_30 ∧ Aside0 (trucelaw16_AcctMoves.j2 kq l0 a1 a2 a3 t242 x81_30 = some r) ∧ Aside0 (kq ≤ kj18) ∧ Aside0 (Kd.V k39 39 wc w.heap.size (fun k_ => k_ ≠ gb234 ∧ k_ ≠ gb252 ∧ k_ ≠ gb258) (.slice Ao36 t242.length co36) t242) ∧ Aside0 (wc.heap[gb234]? = some (.cells #[.int .u64 a4_0, .int .u64 a4_1, .int .u64 a4_2, .int .u64 a4_3] 25 (0, 0))) ∧ Aside0 (wc.heap[gb252]? = some (.cells #[.int .u64 t247, .int .u64 t248, .int .u64 t249, .int .u64 t250] 25 (0, 0))) ∧ Aside0 (wc.heap[gb258]? = some (.cells #[.int .u64 t253, .int .u64 t254, .int .u64 t255, .int .u64 t256] 25 (0, 0))) ∧ Aside0 (Below w.heap.size w wc))
       case first =>
        have H := HC31.out
        clear HC31
        by_cases c42 : t257 = true
        ·subst c42
         have H1 : (if (!(t247 == t253) || (!(t248 == t254) || (!(t249 == t255) || (!(t250 == t256))))) = true then (trucelaw16_AcctMoves.j2 kj18 l0 a1 a2 a3 t242 true) else ((truceref16_Fit.f kj18 t242).bind fun t259 => (trucelaw16_AcctMoves.j2 kj18 l0 a1 a2 a3 t242 (!t259)))) = some r := by rw [if_pos rfl] at H; exact H
         clear H
         have H := H1
         clear H1
         by_cases c43 : (!(t247 == t253) || (!(t248 == t254) || (!(t249 == t255) || (!(t250 == t256))))) = true
         ·rw [if_pos c43] at H
          have c43b0 : (!(t247 == t253) || (!(t248 == t254) || (!(t249 == t255) || (!(t250 == t256))))) = true := c43
          clear c43
          (first | rw [c43b0] | (simp only [i64_w, i32_w]; rw [c43b0]) | skip)
          have H' := Aside0.mk H
          clear H
          have hnb44 := NB252_234.out
          have hnc44 := NB234_252.out
          have hnb45 := NB252_258.out
          have hnc45 := NB258_252.out
          have hcz46_0 : w38.cell? ⟨gb252, 0, none⟩ = some (.int .u64 t247) := (blk_cell BK252.out 0).trans rfl
          have hcz46_1 : w38.cell? ⟨gb252, 1, none⟩ = some (.int .u64 t248) := (blk_cell BK252.out 1).trans rfl
          have hcz46_2 : w38.cell? ⟨gb252, 2, none⟩ = some (.int .u64 t249) := (blk_cell BK252.out 2).trans rfl
          have hcz46_3 : w38.cell? ⟨gb252, 3, none⟩ = some (.int .u64 t250) := (blk_cell BK252.out 3).trans rfl
          have hfz46_0 := blk_frozen BK252.out 0
          have hfz46_1 := blk_frozen BK252.out 1
          have hfz46_2 := blk_frozen BK252.out 2
          have hfz46_3 := blk_frozen BK252.out 3
          have hnb47 := NB258_234.out
          have hnc47 := NB234_258.out
          have hcz48_0 : w38.cell? ⟨gb258, 0, none⟩ = some (.int .u64 0) := (blk_cell BK258.out 0).trans rfl
          have hcz48_1 : w38.cell? ⟨gb258, 1, none⟩ = some (.int .u64 0) := (blk_cell BK258.out 1).trans rfl
          have hcz48_2 : w38.cell? ⟨gb258, 2, none⟩ = some (.int .u64 0) := (blk_cell BK258.out 2).trans rfl
          have hcz48_3 : w38.cell? ⟨gb258, 3, none⟩ = some (.int .u64 0) := (blk_cell BK258.out 3).trans rfl
          have hfz48_0 := blk_frozen BK258.out 0
          have hfz48_1 := blk_frozen BK258.out 1
          have hfz48_2 := blk_frozen BK258.out 2
          have hfz48_3 := blk_frozen BK258.out 3
          go_wp2
          go_meet
          case rel => exact ⟨_, (true), (by first | rfl | (simp; done) | (simp [*]; done)), H', ⟨by have := HJ5.out; have := HJ18.out; first | omega | exact Nat.le_refl _⟩, ⟨by (with_reducible repeat (first | apply Kd.V_alloc | apply Kd.V_drewN | apply Kd.V_drew)); exact Kd.V_mono (Kd.V_far (p := ⟨gb258, 3, none⟩) (Kd.V_far (p := ⟨gb258, 2, none⟩) (Kd.V_far (p := ⟨gb258, 1, none⟩) (Kd.V_far (p := ⟨gb258, 0, none⟩) (Kd.V_mono HO_13.out (fun k_ hk => (⟨hk, hk.2⟩ : _ ∧ k_ ≠ gb258))) (fun _ hk => hk.2) (.int .u64 t253)) (fun _ hk => hk.2) (.int .u64 t254)) (fun _ hk => hk.2) (.int .u64 t255)) (fun _ hk => hk.2) (.int .u64 t256)) (fun _ hk => ⟨hk.1.1.1, ⟨hk.1.1.2, hk.1.2⟩⟩)⟩, ⟨by (with_reducible repeat (first | apply mlN | apply mlD | apply mlA)); refine blk_far ?_ NB234_258.out _; (with_reducible repeat (first | apply mlN | apply mlD | apply mlA)); refine blk_far ?_ NB234_258.out _; (with_reducible repeat (first | apply mlN | apply mlD | apply mlA)); refine blk_far ?_ NB234_258.out _; (with_reducible repeat (first | apply mlN | apply mlD | apply mlA)); refine blk_far ?_ NB234_258.out _; (with_reducible repeat (first | apply mlN | apply mlD | apply mlA)); exact BK234.out⟩, ⟨by (with_reducible repeat (first | apply mlN | apply mlD | apply mlA)); refine blk_far ?_ NB252_258.out _; (with_reducible repeat (first | apply mlN | apply mlD | apply mlA)); refine blk_far ?_ NB252_258.out _; (with_reducible repeat (first | apply mlN | apply mlD | apply mlA)); refine blk_far ?_ NB252_258.out _; (with_reducible repeat (first | apply mlN | apply mlD | apply mlA)); refine blk_far ?_ NB252_258.out _; (with_reducible repeat (first | apply mlN | apply mlD | apply mlA)); exact BK252.out⟩, ⟨by (with_reducible repeat (first | apply mlN | apply mlD | apply mlA)); refine blk_put (cs := #[.int .u64 t253, .int .u64 t254, .int .u64 t255, .int .u64 0]) ?_ 3 _ rfl; (with_reducible repeat (first | apply mlN | apply mlD | apply mlA)); refine blk_put (cs := #[.int .u64 t253, .int .u64 t254, .int .u64 0, .int .u64 0]) ?_ 2 _ rfl; (with_reducible repeat (first | apply mlN | apply mlD | apply mlA)); refine blk_put (cs := #[.int .u64 t253, .int .u64 0, .int .u64 0, .int .u64 0]) ?_ 1 _ rfl; (with_reducible repeat (first | apply mlN | apply mlD | apply mlA)); refine blk_put (cs := #[.int .u64 0, .int .u64 0, .int .u64 0, .int .u64 0]) ?_ 0 _ rfl; (with_reducible repeat (first | apply mlN | apply mlD | apply mlA)); exact BK258.out⟩, ⟨by repeat (first | (with_reducible first | exact HB.out | apply below_alloc | apply pw_below_drewN | apply below_drew1 | refine below_set ?_ GE234.out | refine below_set ?_ GE252.out | refine below_set ?_ GE258.out) | exact HB.out)⟩⟩
         ·rw [if_neg c43] at H
          have c43b0 : (!(t247 == t253) || (!(t248 == t254) || (!(t249 == t255) || (!(t250 == t256))))) = false := by simpa using c43
          clear c43
          (first | rw [c43b0] | (simp only [i64_w, i32_w]; rw [c43b0]) | skip)
          replace H := Option.bind_eq_some_iff.mp H
          obtain ⟨t259, A490, H⟩ := H
          replace H : (trucelaw16_AcctMoves.j2 kj18 l0 a1 a2 a3 t242 (!t259)) = some r := H
          have A49 := Aside0.mk A490
          clear A490
          have H' := Aside0.mk H
          clear H
          have hnb50 := NB252_234.out
          have hnc50 := NB234_252.out
          have hnb51 := NB252_258.out
          have hnc51 := NB258_252.out
          have hcz52_0 : w38.cell? ⟨gb252, 0, none⟩ = some (.int .u64 t247) := (blk_cell BK252.out 0).trans rfl
          have hcz52_1 : w38.cell? ⟨gb252, 1, none⟩ = some (.int .u64 t248) := (blk_cell BK252.out 1).trans rfl
          have hcz52_2 : w38.cell? ⟨gb252, 2, none⟩ = some (.int .u64 t249) := (blk_cell BK252.out 2).trans rfl
          have hcz52_3 : w38.cell? ⟨gb252, 3, none⟩ = some (.int .u64 t250) := (blk_cell BK252.out 3).trans rfl
          have hfz52_0 := blk_frozen BK252.out 0
          have hfz52_1 := blk_frozen BK252.out 1
          have hfz52_2 := blk_frozen BK252.out 2
          have hfz52_3 := blk_frozen BK252.out 3
          have hnb53 := NB258_234.out
          have hnc53 := NB234_258.out
          have hcz54_0 : w38.cell? ⟨gb258, 0, none⟩ = some (.int .u64 0) := (blk_cell BK258.out 0).trans rfl
          have hcz54_1 : w38.cell? ⟨gb258, 1, none⟩ = some (.int .u64 0) := (blk_cell BK258.out 1).trans rfl
          have hcz54_2 : w38.cell? ⟨gb258, 2, none⟩ = some (.int .u64 0) := (blk_cell BK258.out 2).trans rfl
          have hcz54_3 : w38.cell? ⟨gb258, 3, none⟩ = some (.int .u64 0) := (blk_cell BK258.out 3).trans rfl
          have hfz54_0 := blk_frozen BK258.out 0
          have hfz54_1 := blk_frozen BK258.out 1
          have hfz54_2 := blk_frozen BK258.out 2
          have hfz54_3 := blk_frozen BK258.out 3
          go_wp2_with (first | (go_at_call 8; (with_reducible refine (truceref16_Fit.calls kj18 _ _ t242 t259 _ ?side1 ?side2 A49.out).mono ?_); (case side1 => refine (Kd.V_reads' (e := 39) (base := w.heap.size) (ok := fun k_ => ((k_ ≠ gb234 ∧ k_ ≠ gb252) ∧ k_ ≠ gb258)) (n := t242.length) (c := co36) ?_).2.2; exact (by (with_reducible repeat (first | apply Kd.V_alloc | apply Kd.V_drewN | apply Kd.V_drew)); exact (Kd.V_mono (Kd.V_far (p := ⟨gb258, 3, none⟩) (Kd.V_far (p := ⟨gb258, 2, none⟩) (Kd.V_far (p := ⟨gb258, 1, none⟩) (Kd.V_far (p := ⟨gb258, 0, none⟩) (Kd.V_mono HO_13.out (fun k_ hk => (⟨hk, hk.2⟩ : _ ∧ k_ ≠ gb258))) (fun _ hk => hk.2) (.int .u64 t253)) (fun _ hk => hk.2) (.int .u64 t254)) (fun _ hk => hk.2) (.int .u64 t255)) (fun _ hk => hk.2) (.int .u64 t256)) (fun _ h_ => h_.1)))); (case side2 => exact (Kd.V_reads' HO_13.out).2.1); rintro e w55 ⟨rfl, hb⟩; have n0_ := Aside0.mk (Kd.V_below (by (with_reducible repeat (first | apply Kd.V_alloc | apply Kd.V_drewN | apply Kd.V_drew)); exact (Kd.V_mono (Kd.V_far (p := ⟨gb258, 3, none⟩) (Kd.V_far (p := ⟨gb258, 2, none⟩) (Kd.V_far (p := ⟨gb258, 1, none⟩) (Kd.V_far (p := ⟨gb258, 0, none⟩) (Kd.V_mono HO_13.out (fun k_ hk => (⟨hk, hk.2⟩ : _ ∧ k_ ≠ gb258))) (fun _ hk => hk.2) (.int .u64 t253)) (fun _ hk => hk.2) (.int .u64 t254)) (fun _ hk => hk.2) (.int .u64 t255)) (fun _ hk => hk.2) (.int .u64 t256)) (fun _ h_ => h_.1))) hb); have n1_ := Aside0.mk (blk_below (g := gb234) (o := .cells #[.int .u64 a4_0, .int .u64 a4_1, .int .u64 a4_2, .int .u64 a4_3] 25 (0, 0)) (by (with_reducible repeat (first | apply mlN | apply mlD | apply mlA)); refine blk_far ?_ NB234_258.out _; (with_reducible repeat (first | apply mlN | apply mlD | apply mlA)); refine blk_far ?_ NB234_258.out _; (with_reducible repeat (first | apply mlN | apply mlD | apply mlA)); refine blk_far ?_ NB234_258.out _; (with_reducible repeat (first | apply mlN | apply mlD | apply mlA)); refine blk_far ?_ NB234_258.out _; (with_reducible repeat (first | apply mlN | apply mlD | apply mlA)); exact BK234.out) hb); have n2_ := Aside0.mk (blk_below (g := gb252) (o := .cells #[.int .u64 t247, .int .u64 t248, .int .u64 t249, .int .u64 t250] 25 (0, 0)) (by (with_reducible repeat (first | apply mlN | apply mlD | apply mlA)); refine blk_far ?_ NB252_258.out _; (with_reducible repeat (first | apply mlN | apply mlD | apply mlA)); refine blk_far ?_ NB252_258.out _; (with_reducible repeat (first | apply mlN | apply mlD | apply mlA)); refine blk_far ?_ NB252_258.out _; (with_reducible repeat (first | apply mlN | apply mlD | apply mlA)); refine blk_far ?_ NB252_258.out _; (with_reducible repeat (first | apply mlN | apply mlD | apply mlA)); exact BK252.out) hb); have n3_ := Aside0.mk (blk_below (g := gb258) (o := .cells #[.int .u64 t253, .int .u64 t254, .int .u64 t255, .int .u64 t256] 25 (0, 0)) (by (with_reducible repeat (first | apply mlN | apply mlD | apply mlA)); refine blk_put (cs := #[.int .u64 t253, .int .u64 t254, .int .u64 t255, .int .u64 0]) ?_ 3 _ rfl; (with_reducible repeat (first | apply mlN | apply mlD | apply mlA)); refine blk_put (cs := #[.int .u64 t253, .int .u64 t254, .int .u64 0, .int .u64 0]) ?_ 2 _ rfl; (with_reducible repeat (first | apply mlN | apply mlD | apply mlA)); refine blk_put (cs := #[.int .u64 t253, .int .u64 0, .int .u64 0, .int .u64 0]) ?_ 1 _ rfl; (with_reducible repeat (first | apply mlN | apply mlD | apply mlA)); refine blk_put (cs := #[.int .u64 0, .int .u64 0, .int .u64 0, .int .u64 0]) ?_ 0 _ rfl; (with_reducible repeat (first | apply mlN | apply mlD | apply mlA)); exact BK258.out) hb); have n4_ := Aside0.mk (below_step (by repeat (first | (with_reducible first | exact HB.out | apply below_alloc | apply pw_below_drewN | apply below_drew1 | refine below_set ?_ GE234.out | refine below_set ?_ GE252.out | refine below_set ?_ GE258.out) | exact HB.out)) hb); clear HO_13; clear BK234; clear BK252; clear BK258; clear HB; have HO_13 := n0_; have BK234 := n1_; have BK252 := n2_; have BK258 := n3_; have HB := n4_; clear n0_ n1_ n2_ n3_ n4_; (try clear hb); (try clear hb2); (try clear hk); (try clear hi)))
          go_meet
          case rel => exact ⟨_, (!t259), (by first | rfl | (simp; done) | (simp [*]; done)), H', ⟨by have := HJ5.out; have := HJ18.out; first | omega | exact Nat.le_refl _⟩, ⟨by (with_reducible repeat (first | apply Kd.V_alloc | apply Kd.V_drewN | apply Kd.V_drew)); exact Kd.V_mono HO_13.out (fun _ hk => ⟨hk.1.1, ⟨hk.1.2, hk.2⟩⟩)⟩, ⟨by (with_reducible repeat (first | apply mlN | apply mlD | apply mlA)); exact BK234.out⟩, ⟨by (with_reducible repeat (first | apply mlN | apply mlD | apply mlA)); exact BK252.out⟩, ⟨by (with_reducible repeat (first | apply mlN | apply mlD | apply mlA)); exact BK258.out⟩, ⟨by repeat (first | (with_reducible first | exact HB.out | apply below_alloc | apply pw_below_drewN | apply below_drew1 | refine below_set ?_ GE234.out | refine below_set ?_ GE252.out | refine below_set ?_ GE258.out) | exact HB.out)⟩⟩
        ·replace c42 := Bool.eq_false_iff.mpr c42
         subst c42
         have H1 : (trucelaw16_AcctMoves.j2 kj18 l0 a1 a2 a3 t242 true) = some r := by rw [if_neg (show ¬ (false = true) by decide)] at H; exact H
         clear H
         have H := H1
         clear H1
         have H' := Aside0.mk H
         clear H
         go_wp2
         go_meet
         case rel => exact ⟨_, (true), (by first | rfl | (simp; done) | (simp [*]; done)), H', ⟨by have := HJ5.out; have := HJ18.out; first | omega | exact Nat.le_refl _⟩, ⟨by (with_reducible repeat (first | apply Kd.V_alloc | apply Kd.V_drewN | apply Kd.V_drew)); exact Kd.V_mono (Kd.V_far (p := ⟨gb258, 3, none⟩) (Kd.V_far (p := ⟨gb258, 2, none⟩) (Kd.V_far (p := ⟨gb258, 1, none⟩) (Kd.V_far (p := ⟨gb258, 0, none⟩) (Kd.V_mono HO_13.out (fun k_ hk => (⟨hk, hk.2⟩ : _ ∧ k_ ≠ gb258))) (fun _ hk => hk.2) (.int .u64 t253)) (fun _ hk => hk.2) (.int .u64 t254)) (fun _ hk => hk.2) (.int .u64 t255)) (fun _ hk => hk.2) (.int .u64 t256)) (fun _ hk => ⟨hk.1.1.1, ⟨hk.1.1.2, hk.1.2⟩⟩)⟩, ⟨by (with_reducible repeat (first | apply mlN | apply mlD | apply mlA)); refine blk_far ?_ NB234_258.out _; (with_reducible repeat (first | apply mlN | apply mlD | apply mlA)); refine blk_far ?_ NB234_258.out _; (with_reducible repeat (first | apply mlN | apply mlD | apply mlA)); refine blk_far ?_ NB234_258.out _; (with_reducible repeat (first | apply mlN | apply mlD | apply mlA)); refine blk_far ?_ NB234_258.out _; (with_reducible repeat (first | apply mlN | apply mlD | apply mlA)); exact BK234.out⟩, ⟨by (with_reducible repeat (first | apply mlN | apply mlD | apply mlA)); refine blk_far ?_ NB252_258.out _; (with_reducible repeat (first | apply mlN | apply mlD | apply mlA)); refine blk_far ?_ NB252_258.out _; (with_reducible repeat (first | apply mlN | apply mlD | apply mlA)); refine blk_far ?_ NB252_258.out _; (with_reducible repeat (first | apply mlN | apply mlD | apply mlA)); refine blk_far ?_ NB252_258.out _; (with_reducible repeat (first | apply mlN | apply mlD | apply mlA)); exact BK252.out⟩, ⟨by (with_reducible repeat (first | apply mlN | apply mlD | apply mlA)); refine blk_put (cs := #[.int .u64 t253, .int .u64 t254, .int .u64 t255, .int .u64 0]) ?_ 3 _ rfl; (with_reducible repeat (first | apply mlN | apply mlD | apply mlA)); refine blk_put (cs := #[.int .u64 t253, .int .u64 t254, .int .u64 0, .int .u64 0]) ?_ 2 _ rfl; (with_reducible repeat (first | apply mlN | apply mlD | apply mlA)); refine blk_put (cs := #[.int .u64 t253, .int .u64 0, .int .u64 0, .int .u64 0]) ?_ 1 _ rfl; (with_reducible repeat (first | apply mlN | apply mlD | apply mlA)); refine blk_put (cs := #[.int .u64 0, .int .u64 0, .int .u64 0, .int .u64 0]) ?_ 0 _ rfl; (with_reducible repeat (first | apply mlN | apply mlD | apply mlA)); exact BK258.out⟩, ⟨by repeat (first | (with_reducible first | exact HB.out | apply below_alloc | apply pw_below_drewN | apply below_drew1 | refine below_set ?_ GE234.out | refine below_set ?_ GE252.out | refine below_set ?_ GE258.out) | exact HB.out)⟩⟩
       case rest =>
        clear HC31
        try clear c1
        try clear c2
        try clear p2
        try clear c3
        try clear c4
        try clear c5
        try clear c7
        try clear c9
        try clear c10
        try clear c11
        try clear c12
        try clear c14
        try clear c15
        try clear c25
        try clear c25b0
        try clear c25b1
        try clear c26
        try clear c34
        try clear c39
        try clear c40
        try clear c42
        try clear c43
        try clear c43b0
        try clear c44
        try clear c45
        try clear c47
        try clear c50
        try clear c51
        try clear c53
        try clear hcz20_0
        try clear hcz20_1
        try clear hcz20_2
        try clear hcz20_3
        try clear hcz22_0
        try clear hcz22_1
        try clear hcz22_2
        try clear hcz22_3
        try clear hcz35_0
        try clear hcz35_1
        try clear hcz35_2
        try clear hcz35_3
        try clear hcz41_0
        try clear hcz41_1
        try clear hcz41_2
        try clear hcz41_3
        try clear hcz46_0
        try clear hcz46_1
        try clear hcz46_2
        try clear hcz46_3
        try clear hcz48_0
        try clear hcz48_1
        try clear hcz48_2
        try clear hcz48_3
        try clear hcz52_0
        try clear hcz52_1
        try clear hcz52_2
        try clear hcz52_3
        try clear hcz54_0
        try clear hcz54_1
        try clear hcz54_2
        try clear hcz54_3
        try clear hfz20_0
        try clear hfz20_1
        try clear hfz20_2
        try clear hfz20_3
        try clear hfz22_0
        try clear hfz22_1
        try clear hfz22_2
        try clear hfz22_3
        try clear hfz35_0
        try clear hfz35_1
        try clear hfz35_2
        try clear hfz35_3
        try clear hfz41_0
        try clear hfz41_1
        try clear hfz41_2
        try clear hfz41_3
        try clear hfz46_0
        try clear hfz46_1
        try clear hfz46_2
        try clear hfz46_3
        try clear hfz48_0
        try clear hfz48_1
        try clear hfz48_2
        try clear hfz48_3
        try clear hfz52_0
        try clear hfz52_1
        try clear hfz52_2
        try clear hfz52_3
        try clear hfz54_0
        try clear hfz54_1
        try clear hfz54_2
        try clear hfz54_3
        try clear p2
        obtain ⟨kq, x81_30, rfl, HA, HJ30, HO_13, BK234, BK252, BK258, HB⟩ := hcut
        cases kq with
        | zero => exact absurd HA.out (by simp [trucelaw16_AcctMoves.j2])
        | succ kj30 =>
         have H := HA.out
         clear HA
         simp only [trucelaw16_AcctMoves.j2] at H
         by_cases c56 : x81_30 = true
         ·subst c56
          have H1 : (some false) = some r := by rw [if_pos rfl] at H; exact H
          clear H
          have H := H1
          clear H1
          exact absurd (hr_.out.symm.trans (Option.some.inj H).symm) (by simp)
         ·replace c56 := Bool.eq_false_iff.mpr c56
          subst c56
          have H1 : ((some (([] : List (S39)) : List (S39))).bind fun y260 => (if y260.length + l0.length < 2199023255552 then ((some (y260 ++ l0 : List (S39))).bind fun y263 => (if y263.length + t242.length < 2199023255552 then ((some (y263 ++ t242 : List (S39))).bind fun y266 => (trucelaw16_AcctMoves.l0 kj30 l0 a1 a2 a3 t242 y266 (y266.length : Int) 0)) else (none))) else (none))) = some r := by rw [if_neg (show ¬ (false = true) by decide)] at H; exact H
          clear H
          have H := H1
          clear H1
          obtain ⟨y260, hy260⟩ : ∃ y_ : List (S39), y_ = (([] : List (S39))) := ⟨_, rfl⟩
          replace H : (if y260.length + l0.length < 2199023255552 then ((some (y260 ++ l0 : List (S39))).bind fun y263 => (if y263.length + t242.length < 2199023255552 then ((some (y263 ++ t242 : List (S39))).bind fun y266 => (trucelaw16_AcctMoves.l0 kj30 l0 a1 a2 a3 t242 y266 (y266.length : Int) 0)) else (none))) else (none)) = some r := by first | (rw [hy260]; with_reducible exact H) | (have H2_ := (Option.bind_some _ _).symm.trans H; rw [hy260]; with_reducible exact H2_) | (have H2_ := (Option.bind_some _ _).symm.trans H; with_reducible exact H2_) | with_reducible exact H | (rw [hy260]; exact H) | exact H
          have Ny260 := Aside0.mk hy260
          clear hy260
          by_cases c57 : y260.length + l0.length < 2199023255552
          ·rw [if_pos c57] at H
           have LMc57 := Aside0.mk c57
           clear c57
           obtain ⟨y263, hy263⟩ : ∃ y_ : List (S39), y_ = (y260 ++ l0) := ⟨_, rfl⟩
           replace H : (if y263.length + t242.length < 2199023255552 then ((some (y263 ++ t242 : List (S39))).bind fun y266 => (trucelaw16_AcctMoves.l0 kj30 l0 a1 a2 a3 t242 y266 (y266.length : Int) 0)) else (none)) = some r := by first | (rw [hy263]; with_reducible exact H) | (have H2_ := (Option.bind_some _ _).symm.trans H; rw [hy263]; with_reducible exact H2_) | (have H2_ := (Option.bind_some _ _).symm.trans H; with_reducible exact H2_) | with_reducible exact H | (rw [hy263]; exact H) | exact H
           have Ny263 := Aside0.mk hy263
           clear hy263
           by_cases c58 : y263.length + t242.length < 2199023255552
           ·rw [if_pos c58] at H
            have LMc58 := Aside0.mk c58
            clear c58
            obtain ⟨y266, hy266⟩ : ∃ y_ : List (S39), y_ = (y263 ++ t242) := ⟨_, rfl⟩
            replace H : (trucelaw16_AcctMoves.l0 kj30 l0 a1 a2 a3 t242 y266 (y266.length : Int) 0) = some r := by first | (rw [hy266]; with_reducible exact H) | (have H2_ := (Option.bind_some _ _).symm.trans H; rw [hy266]; with_reducible exact H2_) | (have H2_ := (Option.bind_some _ _).symm.trans H; with_reducible exact H2_) | with_reducible exact H | (rw [hy266]; exact H) | exact H
            have Ny266 := Aside0.mk hy266
            clear hy266
            have H' := Aside0.mk H
            clear H
            go_wp2_with (first | ((with_reducible refine gate_dst (N := 82) rfl ?_); refine Kd.R_lit k39 _ 39 ?hg (N := 82) ?hd (xs := ([] : List (S39))) (inner := []) (ok := fun _ => True) (okp := fun _ => True) ?hr ?hp (fun _ hk => hk) trivial (Below.refl _ _) (Nat.le_refl _) (by simp) ?_; (case hd => rfl); (case hg => rfl); (case hr => first | (go_simp; done) | (go_simp; rfl)); (case hp => exact (Reps.none _ _)); intro v261 w59 ho60 hb hg_ hnew_; clear hg_ hnew_; (first | rw [← Ny260.out] at ho60 | (simp only [Int.reduceToNat] at ho60; rw [← Ny260.out] at ho60)); have n0_ := Aside0.mk (Kd.V_elder' (by (with_reducible repeat (first | apply Kd.V_alloc | apply Kd.V_drewN | apply Kd.V_drew)); exact HO_13.out) (Kd.R_base ho60) hb); have n1_ := Aside0.mk (Kd.R_lower ho60 (below_size (by repeat (first | (with_reducible first | exact HB.out | apply below_alloc | apply pw_below_drewN | apply below_drew1 | refine below_set ?_ GE234.out | refine below_set ?_ GE252.out | refine below_set ?_ GE258.out) | exact HB.out)))); have n2_ := Aside0.mk (blk_below (g := gb234) (o := .cells #[.int .u64 a4_0, .int .u64 a4_1, .int .u64 a4_2, .int .u64 a4_3] 25 (0, 0)) (by (with_reducible repeat (first | apply mlN | apply mlD | apply mlA)); exact BK234.out) hb); have n3_ := Aside0.mk (blk_below (g := gb252) (o := .cells #[.int .u64 t247, .int .u64 t248, .int .u64 t249, .int .u64 t250] 25 (0, 0)) (by (with_reducible repeat (first | apply mlN | apply mlD | apply mlA)); exact BK252.out) hb); have n4_ := Aside0.mk (blk_below (g := gb258) (o := .cells #[.int .u64 t253, .int .u64 t254, .int .u64 t255, .int .u64 t256] 25 (0, 0)) (by (with_reducible repeat (first | apply mlN | apply mlD | apply mlA)); exact BK258.out) hb); have n5_ := Aside0.mk (below_step (by repeat (first | (with_reducible first | exact HB.out | apply below_alloc | apply pw_below_drewN | apply below_drew1 | refine below_set ?_ GE234.out | refine below_set ?_ GE252.out | refine below_set ?_ GE258.out) | exact HB.out)) hb); clear HO_13; clear BK234; clear BK252; clear BK258; clear HB; have HO_13 := n0_; have HO262 := n1_; have BK234 := n2_; have BK252 := n3_; have BK258 := n4_; have HB := n5_; clear n0_ n1_ n2_ n3_ n4_ n5_; clear hb ho60) | ((with_reducible refine gate_builtin (b := .append) (xs := #[.tmp 82, .tmp 83]) rfl ?_); at_builtin; refine Kd.R_append_rows k39 (w0 := w) w.heap.size rfl (.tmp 82) (.tmp 83) 22 39 (.agg #[(.string ⟨#[]⟩), (.string ⟨#[]⟩), (.int .u64 0), (.int .u64 0), (.int .u64 0), (.int .u64 0)]) 64 rfl Try.underlying22 info39 rfl (by decide) (by omega) v261 y260 l0 _ _ _ (fun _ => True) (fun _ => False) rfl rfl ?aO ?aR (fun _ _ h => h) (fun _ h => h.elim) ?aF ?aB ?aS ?aL ?_; (case aR => repeat (first | exact (Kd.C_below HR0.out HB.out) | (with_reducible refine Kd.C_alloc ?_ _) | (with_reducible refine Kd.C_drewN ?_ _) | (with_reducible refine Kd.C_drew ?_))); (case aB => exact (by repeat (first | (with_reducible first | exact HB.out | apply below_alloc | apply pw_below_drewN | apply below_drew1 | refine below_set ?_ GE234.out | refine below_set ?_ GE252.out | refine below_set ?_ GE258.out) | exact HB.out))); (case aF => exact (fun _ _ => trivial)); (case aO => exact (by (with_reducible repeat (first | apply Kd.R_alloc | apply Kd.R_drewN | apply Kd.R_drew)); exact HO262.out)); (case aS => exact (below_size (by repeat (first | (with_reducible first | exact HB.out | apply below_alloc | apply pw_below_drewN | apply below_drew1 | refine below_set ?_ GE234.out | refine below_set ?_ GE252.out | refine below_set ?_ GE258.out) | exact HB.out)))); (case aL => have := LMc57.out; omega); intro v264 w61 ho hb hg hat; rw [← Ny263.out] at ho; have n0_ := Aside0.mk (Kd.V_afterv (ok := (fun k_ => k_ ≠ gb234 ∧ k_ ≠ gb252 ∧ k_ ≠ gb258)) (by (with_reducible repeat (first | apply Kd.V_alloc | apply Kd.V_drewN | apply Kd.V_drew)); exact HO_13.out) hg hat); have n1_ := Aside0.mk (blk_grown (g := gb234) (o := .cells #[.int .u64 a4_0, .int .u64 a4_1, .int .u64 a4_2, .int .u64 a4_3] 25 (0, 0)) (by (with_reducible repeat (first | apply mlN | apply mlD | apply mlA)); exact BK234.out) hg (Kd.R_ne HO262.out BK234.out (by decide))); have n2_ := Aside0.mk (blk_grown (g := gb252) (o := .cells #[.int .u64 t247, .int .u64 t248, .int .u64 t249, .int .u64 t250] 25 (0, 0)) (by (with_reducible repeat (first | apply mlN | apply mlD | apply mlA)); exact BK252.out) hg (Kd.R_ne HO262.out BK252.out (by decide))); have n3_ := Aside0.mk (blk_grown (g := gb258) (o := .cells #[.int .u64 t253, .int .u64 t254, .int .u64 t255, .int .u64 t256] 25 (0, 0)) (by (with_reducible repeat (first | apply mlN | apply mlD | apply mlA)); exact BK258.out) hg (Kd.R_ne HO262.out BK258.out (by decide))); have n4_ := Aside0.mk (hb); have n5_ := Aside0.mk (ho); clear HO_13; clear BK234; clear BK252; clear BK258; clear HB; clear HO262; have HO_13 := n0_; have BK234 := n1_; have BK252 := n2_; have BK258 := n3_; have HB := n4_; have HO265 := n5_; clear n0_ n1_ n2_ n3_ n4_ n5_; clear ho hb hg hat) | ((with_reducible refine gate_builtin (b := .append) (xs := #[.tmp 84, .tmp 85]) rfl ?_); at_builtin; refine Kd.R_append_rows k39 (w0 := w) w.heap.size rfl (.tmp 84) (.tmp 85) 22 39 (.agg #[(.string ⟨#[]⟩), (.string ⟨#[]⟩), (.int .u64 0), (.int .u64 0), (.int .u64 0), (.int .u64 0)]) 64 rfl Try.underlying22 info39 rfl (by decide) (by omega) v264 y263 t242 _ _ _ (fun _ => True) (fun _ => False) rfl rfl ?aO ?aR (fun _ _ h => h) (fun _ h => h.elim) ?aF ?aB ?aS ?aL ?_; (case aR => repeat (first | exact (Kd.V_reads' HO_13.out).2.2 | (with_reducible refine Kd.C_alloc ?_ _) | (with_reducible refine Kd.C_drewN ?_ _) | (with_reducible refine Kd.C_drew ?_))); (case aB => exact (by repeat (first | (with_reducible first | exact HB.out | apply below_alloc | apply pw_below_drewN | apply below_drew1 | refine below_set ?_ GE234.out | refine below_set ?_ GE252.out | refine below_set ?_ GE258.out) | exact HB.out))); (case aF => exact (fun _ _ => trivial)); (case aO => exact (by (with_reducible repeat (first | apply Kd.R_alloc | apply Kd.R_drewN | apply Kd.R_drew)); exact HO265.out)); (case aS => exact (below_size (by repeat (first | (with_reducible first | exact HB.out | apply below_alloc | apply pw_below_drewN | apply below_drew1 | refine below_set ?_ GE234.out | refine below_set ?_ GE252.out | refine below_set ?_ GE258.out) | exact HB.out)))); (case aL => have := LMc58.out; omega); intro v267 w62 ho hb hg hat; rw [← Ny266.out] at ho; have n0_ := Aside0.mk (Kd.V_afterv (ok := (fun k_ => k_ ≠ gb234 ∧ k_ ≠ gb252 ∧ k_ ≠ gb258)) (by (with_reducible repeat (first | apply Kd.V_alloc | apply Kd.V_drewN | apply Kd.V_drew)); exact HO_13.out) hg hat); have n1_ := Aside0.mk (blk_grown (g := gb234) (o := .cells #[.int .u64 a4_0, .int .u64 a4_1, .int .u64 a4_2, .int .u64 a4_3] 25 (0, 0)) (by (with_reducible repeat (first | apply mlN | apply mlD | apply mlA)); exact BK234.out) hg (Kd.R_ne HO265.out BK234.out (by decide))); have n2_ := Aside0.mk (blk_grown (g := gb252) (o := .cells #[.int .u64 t247, .int .u64 t248, .int .u64 t249, .int .u64 t250] 25 (0, 0)) (by (with_reducible repeat (first | apply mlN | apply mlD | apply mlA)); exact BK252.out) hg (Kd.R_ne HO265.out BK252.out (by decide))); have n3_ := Aside0.mk (blk_grown (g := gb258) (o := .cells #[.int .u64 t253, .int .u64 t254, .int .u64 t255, .int .u64 t256] 25 (0, 0)) (by (with_reducible repeat (first | apply mlN | apply mlD | apply mlA)); exact BK258.out) hg (Kd.R_ne HO265.out BK258.out (by decide))); have n4_ := Aside0.mk (hb); have n5_ := Aside0.mk (ho); clear HO_13; clear BK234; clear BK252; clear BK258; clear HB; clear HO265; have HO_13 := n0_; have BK234 := n1_; have BK252 := n2_; have BK258 := n3_; have HB := n4_; have HO268 := n5_; clear n0_ n1_ n2_ n3_ n4_ n5_; clear ho hb hg hat; obtain ⟨Ao63, co63, eo63⟩ := Kd.R_slice HO268.out; subst eo63))
            go_loopg [88] kj30 (fun kq v88 w' => ∃ (x88_4 : Int), v88 = .int .i64 x88_4 ∧ Aside0 (trucelaw16_AcctMoves.l0 kq l0 a1 a2 a3 t242 y266 (y266.length : Int) x88_4 = some r) ∧ Aside0 (kq ≤ kj30) ∧ Aside0 (Kd.V k39 39 w' w.heap.size (fun k_ => some k_ ≠ ((.slice Ao63 y266.length co63) : Value).ownBlock ∧ k_ ≠ gb234 ∧ k_ ≠ gb252 ∧ k_ ≠ gb258) (.slice Ao36 t242.length co36) t242) ∧ Aside0 (Kd.R k39 39 w' w.heap.size (fun _ => True) (.slice Ao63 y266.length co63) y266) ∧ Aside0 (w'.heap[gb234]? = some (.cells #[.int .u64 a4_0, .int .u64 a4_1, .int .u64 a4_2, .int .u64 a4_3] 25 (0, 0))) ∧ Aside0 (w'.heap[gb252]? = some (.cells #[.int .u64 t247, .int .u64 t248, .int .u64 t249, .int .u64 t250] 25 (0, 0))) ∧ Aside0 (w'.heap[gb258]? = some (.cells #[.int .u64 t253, .int .u64 t254, .int .u64 t255, .int .u64 t256] 25 (0, 0))) ∧ Aside0 (Below w.heap.size w w'))
            case atStart => exact ⟨(0), (by first | rfl | (simp; done) | (simp [*]; done)), H', ⟨Nat.le_refl _⟩, ⟨by (with_reducible repeat (first | apply Kd.V_alloc | apply Kd.V_drewN | apply Kd.V_drew)); exact Kd.V_mono HO_13.out (fun _ hk => ⟨hk.2, ⟨hk.1.1, ⟨hk.1.2.1, hk.1.2.2⟩⟩⟩)⟩, ⟨by (with_reducible repeat (first | apply Kd.R_alloc | apply Kd.R_drewN | apply Kd.R_drew)); exact HO268.out⟩, ⟨by (with_reducible repeat (first | apply mlN | apply mlD | apply mlA)); exact BK234.out⟩, ⟨by (with_reducible repeat (first | apply mlN | apply mlD | apply mlA)); exact BK252.out⟩, ⟨by (with_reducible repeat (first | apply mlN | apply mlD | apply mlA)); exact BK258.out⟩, ⟨by repeat (first | (with_reducible first | exact HB.out | apply below_alloc | apply pw_below_drewN | apply below_drew1 | refine below_set ?_ GE234.out | refine below_set ?_ GE252.out | refine below_set ?_ GE258.out) | exact HB.out)⟩⟩
            case round =>
             clear H'
             try clear c1
             try clear c2
             try clear p2
             try clear c3
             try clear c4
             try clear c5
             try clear c7
             try clear c9
             try clear c10
             try clear c11
             try clear c12
             try clear c14
             try clear c15
             try clear c25
             try clear c25b0
             try clear c25b1
             try clear c26
             try clear c34
             try clear c39
             try clear c40
             try clear c42
             try clear c43
             try clear c43b0
             try clear c44
             try clear c45
             try clear c47
             try clear c50
             try clear c51
             try clear c53
             try clear c56
             try clear c57
             try clear c58
             try clear hcz20_0
             try clear hcz20_1
             try clear hcz20_2
             try clear hcz20_3
             try clear hcz22_0
             try clear hcz22_1
             try clear hcz22_2
             try clear hcz22_3
             try clear hcz35_0
             try clear hcz35_1
             try clear hcz35_2
             try clear hcz35_3
             try clear hcz41_0
             try clear hcz41_1
             try clear hcz41_2
             try clear hcz41_3
             try clear hcz46_0
             try clear hcz46_1
             try clear hcz46_2
             try clear hcz46_3
             try clear hcz48_0
             try clear hcz48_1
             try clear hcz48_2
             try clear hcz48_3
             try clear hcz52_0
             try clear hcz52_1
             try clear hcz52_2
             try clear hcz52_3
             try clear hcz54_0
             try clear hcz54_1
             try clear hcz54_2
             try clear hcz54_3
             try clear hfz20_0
             try clear hfz20_1
             try clear hfz20_2
             try clear hfz20_3
             try clear hfz22_0
             try clear hfz22_1
             try clear hfz22_2
             try clear hfz22_3
             try clear hfz35_0
             try clear hfz35_1
             try clear hfz35_2
             try clear hfz35_3
             try clear hfz41_0
             try clear hfz41_1
             try clear hfz41_2
             try clear hfz41_3
             try clear hfz46_0
             try clear hfz46_1
             try clear hfz46_2
             try clear hfz46_3
             try clear hfz48_0
             try clear hfz48_1
             try clear hfz48_2
             try clear hfz48_3
             try clear hfz52_0
             try clear hfz52_1
             try clear hfz52_2
             try clear hfz52_3
             try clear hfz54_0
             try clear hfz54_1
             try clear hfz54_2
             try clear hfz54_3
             try clear p2
             obtain ⟨x88_4, rfl, HA, HK4, HO_13, HO_86, BK234, BK252, BK258, HB⟩ := hrel
             cases gk with
             | zero => exact absurd HA.out (by simp [trucelaw16_AcctMoves.l0])
             | succ k4 =>
              have H := HA.out
              clear HA
              simp only [trucelaw16_AcctMoves.l0] at H
              by_cases c64 : x88_4 < (y266.length : Int)
              ·rw [if_pos c64] at H
               have c64b0 : decide (x88_4 < (y266.length : Int)) = true := decide_eq_true c64
               clear c64
               by_cases c65 : 0 ≤ x88_4
               ·rw [if_pos c65] at H
                have c65b0 : decide (0 ≤ x88_4) = true := decide_eq_true c65
                clear c65
                by_cases c66 : x88_4 < (y266.length : Int)
                ·rw [if_pos c66] at H
                 have c66b0 : decide (x88_4 < (y266.length : Int)) = true := decide_eq_true c66
                 clear c66
                 by_cases c67 : ((rd_T39 y266 x88_4).f1).toList = a3.toList
                 ·rw [if_pos c67] at H
                  have c67b0 : (((rd_T39 y266 x88_4).f1).toList == a3.toList) = true := beq_iff_eq.mpr c67
                  have c67b1 : (((rd_T39 y266 x88_4).f1).toList != a3.toList) = false := bne_eq_false_iff_eq.mpr c67
                  clear c67
                  by_cases c68 : ((rd_T39 y266 x88_4).f0).toList = a1.toList
                  ·rw [if_pos c68] at H
                   have c68b0 : (((rd_T39 y266 x88_4).f0).toList == a1.toList) = true := beq_iff_eq.mpr c68
                   have c68b1 : (((rd_T39 y266 x88_4).f0).toList != a1.toList) = false := bne_eq_false_iff_eq.mpr c68
                   clear c68
                   have H' := Aside0.mk H
                   clear H
                   have p270 : 0 ≤ (x88_4 : Int) := of_decide_eq_true (by first | (with_reducible assumption) | assumption)
                   have q270 : x88_4 < (y266.length : Int) := of_decide_eq_true (by first | (with_reducible assumption) | assumption)
                   obtain ⟨ad270, e270, hx270_0, hx270_1, hx270_2, hx270_3, hx270_4, hx270_5⟩ := at_T39 (Kd.R_reads' HO_86.out).2.2 x88_4 p270 q270
                   cases e270
                   replace p270 := eq_true p270
                   replace q270 := eq_true q270
                   try go_wp2_with (first | ((with_reducible refine gate_dst (N := 20) rfl ?_); refine box_event ?hg (N := 20) ?hd (cs := #[.string (⟨#[]⟩ : ByteArray), .string (⟨#[]⟩ : ByteArray), .int .u64 0, .int .u64 0, .int .u64 0, .int .u64 0]) (t := 39) ?hr ?_; (case hd => rfl); (case hg => rfl); (case hr => first | (go_simp; done) | (go_simp; rfl)); intro gb271 hg w69 hbox hb; have n0_ := Aside0.mk (Kd.V_below (Kd.V_elderB (by (with_reducible repeat (first | apply Kd.V_alloc | apply Kd.V_drewN | apply Kd.V_drew)); exact HO_13.out) gb271 (Nat.le_of_eq hg.symm)) hb); have n1_ := Aside0.mk (Kd.R_below (Kd.R_elderB (by (with_reducible repeat (first | apply Kd.R_alloc | apply Kd.R_drewN | apply Kd.R_drew)); exact HO_86.out) gb271 (Nat.le_of_eq hg.symm)) hb); have n2_ := Aside0.mk (blk_below (g := gb234) (o := .cells #[.int .u64 a4_0, .int .u64 a4_1, .int .u64 a4_2, .int .u64 a4_3] 25 (0, 0)) (by (with_reducible repeat (first | apply mlN | apply mlD | apply mlA)); exact BK234.out) hb); have n3_ := Aside0.mk (blk_below (g := gb252) (o := .cells #[.int .u64 t247, .int .u64 t248, .int .u64 t249, .int .u64 t250] 25 (0, 0)) (by (with_reducible repeat (first | apply mlN | apply mlD | apply mlA)); exact BK252.out) hb); have n4_ := Aside0.mk (blk_below (g := gb258) (o := .cells #[.int .u64 t253, .int .u64 t254, .int .u64 t255, .int .u64 t256] 25 (0, 0)) (by (with_reducible repeat (first | apply mlN | apply mlD | apply mlA)); exact BK258.out) hb); have n5_ := Aside0.mk (below_step (by repeat (first | (with_reducible first | exact HB.out | apply below_alloc | apply pw_below_drewN | apply below_drew1 | refine below_set ?_ GE234.out | refine below_set ?_ GE252.out | refine below_set ?_ GE258.out) | exact HB.out)) hb); have n6_ := Aside0.mk (hbox); have n7_ := Aside0.mk ((by rw [hg]; exact (below_size (by repeat (first | (with_reducible first | exact HB.out | apply below_alloc | apply pw_below_drewN | apply below_drew1 | refine below_set ?_ GE234.out | refine below_set ?_ GE252.out | refine below_set ?_ GE258.out) | exact HB.out))) : w.heap.size ≤ gb271)); have n8_ := Aside0.mk ((by rw [hg]; exact (below_size (by repeat (first | (with_reducible first | exact HB.out | apply below_alloc | apply pw_below_drewN | apply below_drew1 | refine below_set ?_ GE234.out | refine below_set ?_ GE252.out | refine below_set ?_ GE258.out) | exact HB.out))) : w.heap.size ≤ gb271)); have n9_ := Aside0.mk ((by rw [hg]; exact Nat.ne_of_lt (blk_lt (g := gb234) (o := .cells #[.int .u64 a4_0, .int .u64 a4_1, .int .u64 a4_2, .int .u64 a4_3] 25 (0, 0)) (by (with_reducible repeat (first | apply mlN | apply mlD | apply mlA)); exact BK234.out)) : gb234 ≠ gb271)); have n10_ := Aside0.mk ((by rw [hg]; exact Nat.ne_of_gt (blk_lt (g := gb234) (o := .cells #[.int .u64 a4_0, .int .u64 a4_1, .int .u64 a4_2, .int .u64 a4_3] 25 (0, 0)) (by (with_reducible repeat (first | apply mlN | apply mlD | apply mlA)); exact BK234.out)) : gb271 ≠ gb234)); have n11_ := Aside0.mk ((by rw [hg]; exact Nat.ne_of_lt (blk_lt (g := gb252) (o := .cells #[.int .u64 t247, .int .u64 t248, .int .u64 t249, .int .u64 t250] 25 (0, 0)) (by (with_reducible repeat (first | apply mlN | apply mlD | apply mlA)); exact BK252.out)) : gb252 ≠ gb271)); have n12_ := Aside0.mk ((by rw [hg]; exact Nat.ne_of_gt (blk_lt (g := gb252) (o := .cells #[.int .u64 t247, .int .u64 t248, .int .u64 t249, .int .u64 t250] 25 (0, 0)) (by (with_reducible repeat (first | apply mlN | apply mlD | apply mlA)); exact BK252.out)) : gb271 ≠ gb252)); have n13_ := Aside0.mk ((by rw [hg]; exact Nat.ne_of_lt (blk_lt (g := gb258) (o := .cells #[.int .u64 t253, .int .u64 t254, .int .u64 t255, .int .u64 t256] 25 (0, 0)) (by (with_reducible repeat (first | apply mlN | apply mlD | apply mlA)); exact BK258.out)) : gb258 ≠ gb271)); have n14_ := Aside0.mk ((by rw [hg]; exact Nat.ne_of_gt (blk_lt (g := gb258) (o := .cells #[.int .u64 t253, .int .u64 t254, .int .u64 t255, .int .u64 t256] 25 (0, 0)) (by (with_reducible repeat (first | apply mlN | apply mlD | apply mlA)); exact BK258.out)) : gb271 ≠ gb258)); clear HO_13; clear HO_86; clear BK234; clear BK252; clear BK258; clear HB; have HO_13 := n0_; have HO_86 := n1_; have BK234 := n2_; have BK252 := n3_; have BK258 := n4_; have HB := n5_; have BK271 := n6_; have GW271 := n7_; have GE271 := n8_; have NB234_271 := n9_; have NB271_234 := n10_; have NB252_271 := n11_; have NB271_252 := n12_; have NB258_271 := n13_; have NB271_258 := n14_; clear n0_ n1_ n2_ n3_ n4_ n5_ n6_ n7_ n8_ n9_ n10_ n11_ n12_ n13_ n14_; clear hb hbox hg; have hnb70 := NB271_234.out; have hnc70 := NB234_271.out; have hnb71 := NB271_252.out; have hnc71 := NB252_271.out; have hnb72 := NB271_258.out; have hnc72 := NB258_271.out; have hcz73_0 : w69.cell? ⟨gb271, 0, none⟩ = some (.string (⟨#[]⟩ : ByteArray)) := (blk_cell BK271.out 0).trans rfl; have hcz73_1 : w69.cell? ⟨gb271, 1, none⟩ = some (.string (⟨#[]⟩ : ByteArray)) := (blk_cell BK271.out 1).trans rfl; have hcz73_2 : w69.cell? ⟨gb271, 2, none⟩ = some (.int .u64 0) := (blk_cell BK271.out 2).trans rfl; have hcz73_3 : w69.cell? ⟨gb271, 3, none⟩ = some (.int .u64 0) := (blk_cell BK271.out 3).trans rfl; have hcz73_4 : w69.cell? ⟨gb271, 4, none⟩ = some (.int .u64 0) := (blk_cell BK271.out 4).trans rfl; have hcz73_5 : w69.cell? ⟨gb271, 5, none⟩ = some (.int .u64 0) := (blk_cell BK271.out 5).trans rfl; have hfz73_0 := blk_frozen BK271.out 0; have hfz73_1 := blk_frozen BK271.out 1; have hfz73_2 := blk_frozen BK271.out 2; have hfz73_3 := blk_frozen BK271.out 3; have hfz73_4 := blk_frozen BK271.out 4; have hfz73_5 := blk_frozen BK271.out 5))
                   have n0_ : Aside0 (Kd.V k39 39 ((((((w69.setCell ⟨gb271, 0, none⟩ (.string ((rd_T39 y266 x88_4).f0))).setCell ⟨gb271, 1, none⟩ (.string ((rd_T39 y266 x88_4).f1))).setCell ⟨gb271, 2, none⟩ (.int .u64 ((rd_T39 y266 x88_4).f2.f0))).setCell ⟨gb271, 3, none⟩ (.int .u64 ((rd_T39 y266 x88_4).f2.f1))).setCell ⟨gb271, 4, none⟩ (.int .u64 ((rd_T39 y266 x88_4).f2.f2))).setCell ⟨gb271, 5, none⟩ (.int .u64 ((rd_T39 y266 x88_4).f2.f3))) w.heap.size (fun k_ => some k_ ≠ (.slice (some ad270) y266.length co63 : Value).ownBlock ∧ k_ ≠ gb234 ∧ k_ ≠ gb252 ∧ k_ ≠ gb258 ∧ k_ ≠ gb271) (.slice Ao36 t242.length co36) t242) := ⟨by (with_reducible repeat (first | apply Kd.V_alloc | apply Kd.V_drewN | apply Kd.V_drew)); exact Kd.V_mono (Kd.V_far (p := ⟨gb271, 5, none⟩) (Kd.V_far (p := ⟨gb271, 4, none⟩) (Kd.V_far (p := ⟨gb271, 3, none⟩) (Kd.V_far (p := ⟨gb271, 2, none⟩) (Kd.V_far (p := ⟨gb271, 1, none⟩) (Kd.V_far (p := ⟨gb271, 0, none⟩) (Kd.V_mono HO_13.out (fun k_ hk => (⟨hk, hk.2⟩ : _ ∧ k_ ≠ gb271))) (fun _ hk => hk.2) (.string ((rd_T39 y266 x88_4).f0))) (fun _ hk => hk.2) (.string ((rd_T39 y266 x88_4).f1))) (fun _ hk => hk.2) (.int .u64 ((rd_T39 y266 x88_4).f2.f0))) (fun _ hk => hk.2) (.int .u64 ((rd_T39 y266 x88_4).f2.f1))) (fun _ hk => hk.2) (.int .u64 ((rd_T39 y266 x88_4).f2.f2))) (fun _ hk => hk.2) (.int .u64 ((rd_T39 y266 x88_4).f2.f3))) (fun _ hk => ⟨hk.1.1.1, ⟨hk.1.1.2.1, ⟨hk.1.1.2.2.1, ⟨hk.1.1.2.2.2, hk.1.2⟩⟩⟩⟩)⟩
                   have n1_ : Aside0 (Kd.R k39 39 ((((((w69.setCell ⟨gb271, 0, none⟩ (.string ((rd_T39 y266 x88_4).f0))).setCell ⟨gb271, 1, none⟩ (.string ((rd_T39 y266 x88_4).f1))).setCell ⟨gb271, 2, none⟩ (.int .u64 ((rd_T39 y266 x88_4).f2.f0))).setCell ⟨gb271, 3, none⟩ (.int .u64 ((rd_T39 y266 x88_4).f2.f1))).setCell ⟨gb271, 4, none⟩ (.int .u64 ((rd_T39 y266 x88_4).f2.f2))).setCell ⟨gb271, 5, none⟩ (.int .u64 ((rd_T39 y266 x88_4).f2.f3))) w.heap.size (fun k_ => k_ ≠ gb271) (.slice (some ad270) y266.length co63) y266) := ⟨by (with_reducible repeat (first | apply Kd.R_alloc | apply Kd.R_drewN | apply Kd.R_drew)); exact Kd.R_mono (Kd.R_far (p := ⟨gb271, 5, none⟩) (Kd.R_far (p := ⟨gb271, 4, none⟩) (Kd.R_far (p := ⟨gb271, 3, none⟩) (Kd.R_far (p := ⟨gb271, 2, none⟩) (Kd.R_far (p := ⟨gb271, 1, none⟩) (Kd.R_far (p := ⟨gb271, 0, none⟩) (Kd.R_mono HO_86.out (fun k_ hk => (⟨hk, hk.2⟩ : _ ∧ k_ ≠ gb271))) (fun _ hk => hk.2) (.string ((rd_T39 y266 x88_4).f0))) (fun _ hk => hk.2) (.string ((rd_T39 y266 x88_4).f1))) (fun _ hk => hk.2) (.int .u64 ((rd_T39 y266 x88_4).f2.f0))) (fun _ hk => hk.2) (.int .u64 ((rd_T39 y266 x88_4).f2.f1))) (fun _ hk => hk.2) (.int .u64 ((rd_T39 y266 x88_4).f2.f2))) (fun _ hk => hk.2) (.int .u64 ((rd_T39 y266 x88_4).f2.f3))) (fun _ hk => hk.1.2)⟩
                   have n2_ : Aside0 (((((((w69.setCell ⟨gb271, 0, none⟩ (.string ((rd_T39 y266 x88_4).f0))).setCell ⟨gb271, 1, none⟩ (.string ((rd_T39 y266 x88_4).f1))).setCell ⟨gb271, 2, none⟩ (.int .u64 ((rd_T39 y266 x88_4).f2.f0))).setCell ⟨gb271, 3, none⟩ (.int .u64 ((rd_T39 y266 x88_4).f2.f1))).setCell ⟨gb271, 4, none⟩ (.int .u64 ((rd_T39 y266 x88_4).f2.f2))).setCell ⟨gb271, 5, none⟩ (.int .u64 ((rd_T39 y266 x88_4).f2.f3))).heap[gb234]? = some (.cells #[.int .u64 a4_0, .int .u64 a4_1, .int .u64 a4_2, .int .u64 a4_3] 25 (0, 0))) := ⟨by (with_reducible repeat (first | apply mlN | apply mlD | apply mlA)); refine blk_far ?_ NB234_271.out _; (with_reducible repeat (first | apply mlN | apply mlD | apply mlA)); refine blk_far ?_ NB234_271.out _; (with_reducible repeat (first | apply mlN | apply mlD | apply mlA)); refine blk_far ?_ NB234_271.out _; (with_reducible repeat (first | apply mlN | apply mlD | apply mlA)); refine blk_far ?_ NB234_271.out _; (with_reducible repeat (first | apply mlN | apply mlD | apply mlA)); refine blk_far ?_ NB234_271.out _; (with_reducible repeat (first | apply mlN | apply mlD | apply mlA)); refine blk_far ?_ NB234_271.out _; (with_reducible repeat (first | apply mlN | apply mlD | apply mlA)); exact BK234.out⟩
                   have n3_ : Aside0 (((((((w69.setCell ⟨gb271, 0, none⟩ (.string ((rd_T39 y266 x88_4).f0))).setCell ⟨gb271, 1, none⟩ (.string ((rd_T39 y266 x88_4).f1))).setCell ⟨gb271, 2, none⟩ (.int .u64 ((rd_T39 y266 x88_4).f2.f0))).setCell ⟨gb271, 3, none⟩ (.int .u64 ((rd_T39 y266 x88_4).f2.f1))).setCell ⟨gb271, 4, none⟩ (.int .u64 ((rd_T39 y266 x88_4).f2.f2))).setCell ⟨gb271, 5, none⟩ (.int .u64 ((rd_T39 y266 x88_4).f2.f3))).heap[gb252]? = some (.cells #[.int .u64 t247, .int .u64 t248, .int .u64 t249, .int .u64 t250] 25 (0, 0))) := ⟨by (with_reducible repeat (first | apply mlN | apply mlD | apply mlA)); refine blk_far ?_ NB252_271.out _; (with_reducible repeat (first | apply mlN | apply mlD | apply mlA)); refine blk_far ?_ NB252_271.out _; (with_reducible repeat (first | apply mlN | apply mlD | apply mlA)); refine blk_far ?_ NB252_271.out _; (with_reducible repeat (first | apply mlN | apply mlD | apply mlA)); refine blk_far ?_ NB252_271.out _; (with_reducible repeat (first | apply mlN | apply mlD | apply mlA)); refine blk_far ?_ NB252_271.out _; (with_reducible repeat (first | apply mlN | apply mlD | apply mlA)); refine blk_far ?_ NB252_271.out _; (with_reducible repeat (first | apply mlN | apply mlD | apply mlA)); exact BK252.out⟩
                   have n4_ : Aside0 (((((((w69.setCell ⟨gb271, 0, none⟩ (.string ((rd_T39 y266 x88_4).f0))).setCell ⟨gb271, 1, none⟩ (.string ((rd_T39 y266 x88_4).f1))).setCell ⟨gb271, 2, none⟩ (.int .u64 ((rd_T39 y266 x88_4).f2.f0))).setCell ⟨gb271, 3, none⟩ (.int .u64 ((rd_T39 y266 x88_4).f2.f1))).setCell ⟨gb271, 4, none⟩ (.int .u64 ((rd_T39 y266 x88_4).f2.f2))).setCell ⟨gb271, 5, none⟩ (.int .u64 ((rd_T39 y266 x88_4).f2.f3))).heap[gb258]? = some (.cells #[.int .u64 t253, .int .u64 t254, .int .u64 t255, .int .u64 t256] 25 (0, 0))) := ⟨by (with_reducible repeat (first | apply mlN | apply mlD | apply mlA)); refine blk_far ?_ NB258_271.out _; (with_reducible repeat (first | apply mlN | apply mlD | apply mlA)); refine blk_far ?_ NB258_271.out _; (with_reducible repeat (first | apply mlN | apply mlD | apply mlA)); refine blk_far ?_ NB258_271.out _; (with_reducible repeat (first | apply mlN | apply mlD | apply mlA)); refine blk_far ?_ NB258_271.out _; (with_reducible repeat (first | apply mlN | apply mlD | apply mlA)); refine blk_far ?_ NB258_271.out _; (with_reducible repeat (first | apply mlN | apply mlD | apply mlA)); refine blk_far ?_ NB258_271.out _; (with_reducible repeat (first | apply mlN | apply mlD | apply mlA)); exact BK258.out⟩
                   have n5_ : Aside0 (((((((w69.setCell ⟨gb271, 0, none⟩ (.string ((rd_T39 y266 x88_4).f0))).setCell ⟨gb271, 1, none⟩ (.string ((rd_T39 y266 x88_4).f1))).setCell ⟨gb271, 2, none⟩ (.int .u64 ((rd_T39 y266 x88_4).f2.f0))).setCell ⟨gb271, 3, none⟩ (.int .u64 ((rd_T39 y266 x88_4).f2.f1))).setCell ⟨gb271, 4, none⟩ (.int .u64 ((rd_T39 y266 x88_4).f2.f2))).setCell ⟨gb271, 5, none⟩ (.int .u64 ((rd_T39 y266 x88_4).f2.f3))).heap[gb271]? = some (.cells #[.string ((rd_T39 y266 x88_4).f0), .string ((rd_T39 y266 x88_4).f1), .int .u64 ((rd_T39 y266 x88_4).f2.f0), .int .u64 ((rd_T39 y266 x88_4).f2.f1), .int .u64 ((rd_T39 y266 x88_4).f2.f2), .int .u64 ((rd_T39 y266 x88_4).f2.f3)] 39 (0, 0))) := ⟨by (with_reducible repeat (first | apply mlN | apply mlD | apply mlA)); refine blk_put (cs := #[.string ((rd_T39 y266 x88_4).f0), .string ((rd_T39 y266 x88_4).f1), .int .u64 ((rd_T39 y266 x88_4).f2.f0), .int .u64 ((rd_T39 y266 x88_4).f2.f1), .int .u64 ((rd_T39 y266 x88_4).f2.f2), .int .u64 0]) ?_ 5 _ rfl; (with_reducible repeat (first | apply mlN | apply mlD | apply mlA)); refine blk_put (cs := #[.string ((rd_T39 y266 x88_4).f0), .string ((rd_T39 y266 x88_4).f1), .int .u64 ((rd_T39 y266 x88_4).f2.f0), .int .u64 ((rd_T39 y266 x88_4).f2.f1), .int .u64 0, .int .u64 0]) ?_ 4 _ rfl; (with_reducible repeat (first | apply mlN | apply mlD | apply mlA)); refine blk_put (cs := #[.string ((rd_T39 y266 x88_4).f0), .string ((rd_T39 y266 x88_4).f1), .int .u64 ((rd_T39 y266 x88_4).f2.f0), .int .u64 0, .int .u64 0, .int .u64 0]) ?_ 3 _ rfl; (with_reducible repeat (first | apply mlN | apply mlD | apply mlA)); refine blk_put (cs := #[.string ((rd_T39 y266 x88_4).f0), .string ((rd_T39 y266 x88_4).f1), .int .u64 0, .int .u64 0, .int .u64 0, .int .u64 0]) ?_ 2 _ rfl; (with_reducible repeat (first | apply mlN | apply mlD | apply mlA)); refine blk_put (cs := #[.string ((rd_T39 y266 x88_4).f0), .string (⟨#[]⟩ : ByteArray), .int .u64 0, .int .u64 0, .int .u64 0, .int .u64 0]) ?_ 1 _ rfl; (with_reducible repeat (first | apply mlN | apply mlD | apply mlA)); refine blk_put (cs := #[.string (⟨#[]⟩ : ByteArray), .string (⟨#[]⟩ : ByteArray), .int .u64 0, .int .u64 0, .int .u64 0, .int .u64 0]) ?_ 0 _ rfl; (with_reducible repeat (first | apply mlN | apply mlD | apply mlA)); exact BK271.out⟩
                   have n6_ : Aside0 (Below w.heap.size w ((((((w69.setCell ⟨gb271, 0, none⟩ (.string ((rd_T39 y266 x88_4).f0))).setCell ⟨gb271, 1, none⟩ (.string ((rd_T39 y266 x88_4).f1))).setCell ⟨gb271, 2, none⟩ (.int .u64 ((rd_T39 y266 x88_4).f2.f0))).setCell ⟨gb271, 3, none⟩ (.int .u64 ((rd_T39 y266 x88_4).f2.f1))).setCell ⟨gb271, 4, none⟩ (.int .u64 ((rd_T39 y266 x88_4).f2.f2))).setCell ⟨gb271, 5, none⟩ (.int .u64 ((rd_T39 y266 x88_4).f2.f3)))) := ⟨by repeat (first | (with_reducible first | exact HB.out | apply below_alloc | apply pw_below_drewN | apply below_drew1 | refine below_set ?_ GE234.out | refine below_set ?_ GE252.out | refine below_set ?_ GE258.out | refine below_set ?_ GE271.out) | exact HB.out)⟩
                   (try clear HO_13)
                   (try clear HO_86)
                   (try clear BK234)
                   (try clear BK252)
                   (try clear BK258)
                   (try clear BK271)
                   (try clear HB)
                   generalize ((((((w69.setCell ⟨gb271, 0, none⟩ (.string ((rd_T39 y266 x88_4).f0))).setCell ⟨gb271, 1, none⟩ (.string ((rd_T39 y266 x88_4).f1))).setCell ⟨gb271, 2, none⟩ (.int .u64 ((rd_T39 y266 x88_4).f2.f0))).setCell ⟨gb271, 3, none⟩ (.int .u64 ((rd_T39 y266 x88_4).f2.f1))).setCell ⟨gb271, 4, none⟩ (.int .u64 ((rd_T39 y266 x88_4).f2.f2))).setCell ⟨gb271, 5, none⟩ (.int .u64 ((rd_T39 y266 x88_4).f2.f3))) = w74 at n0_ n1_ n2_ n3_ n4_ n5_ n6_ ⊢
                   have HO_13 := n0_
                   have HO_86 := n1_
                   have BK234 := n2_
                   have BK252 := n3_
                   have BK258 := n4_
                   have BK271 := n5_
                   have HB := n6_
                   clear n0_ n1_ n2_ n3_ n4_ n5_ n6_
                   have n0_ := Aside0.mk (Kd.V_drew HO_13.out)
                   have n1_ := Aside0.mk (Kd.R_drew HO_86.out)
                   have n2_ := Aside0.mk (blk_drew BK234.out)
                   have n3_ := Aside0.mk (blk_drew BK252.out)
                   have n4_ := Aside0.mk (blk_drew BK258.out)
                   have n5_ := Aside0.mk (blk_drew BK271.out)
                   have n6_ := Aside0.mk (below_drew1 HB.out)
                   clear HO_13
                   clear HO_86
                   clear BK234
                   clear BK252
                   clear BK258
                   clear BK271
                   clear HB
                   have HO_13 := n0_
                   have HO_86 := n1_
                   have BK234 := n2_
                   have BK252 := n3_
                   have BK258 := n4_
                   have BK271 := n5_
                   have HB := n6_
                   clear n0_ n1_ n2_ n3_ n4_ n5_ n6_
                   refine start_ (n := 31) (S := fun w' => w'.cell? ⟨gb271, 0, none⟩ = some (.string ((rd_T39 y266 x88_4).f0)) ∧ w'.cell? ⟨gb271, 1, none⟩ = some (.string ((rd_T39 y266 x88_4).f1)) ∧ w'.cell? ⟨gb271, 2, none⟩ = some (.int .u64 ((rd_T39 y266 x88_4).f2.f0)) ∧ w'.cell? ⟨gb271, 3, none⟩ = some (.int .u64 ((rd_T39 y266 x88_4).f2.f1)) ∧ w'.cell? ⟨gb271, 4, none⟩ = some (.int .u64 ((rd_T39 y266 x88_4).f2.f2)) ∧ w'.cell? ⟨gb271, 5, none⟩ = some (.int .u64 ((rd_T39 y266 x88_4).f2.f3))) (ds := []) mT0 (by kernel_rfl) rfl rfl ⟨(blk_cell BK271.out 0).trans rfl, (blk_cell BK271.out 1).trans rfl, (blk_cell BK271.out 2).trans rfl, (blk_cell BK271.out 3).trans rfl, (blk_cell BK271.out 4).trans rfl, (blk_cell BK271.out 5).trans rfl⟩ (fun hHeld => ?_); refine with_tabW trucelaw16_AcctMoves.tab14 trucelaw16_AcctMoves.bits14 (fun HT_ HW_ => ?_)
                   generalize w74.drew = w75 at HO_13 HO_86 BK234 BK252 BK258 BK271 HB hHeld ⊢
                   refine pure_ (i := 0) (N := some 92) (v := ?_) (a' := ?_) mT1 rfl rfl (any_of HT_.out (by kernel_rfl)) (fun _ _ _ h => h) (Or.inl ⟨by rfl, ?_⟩) ?_ ?_
                   rotate_left
                   ·intro w'
                    go_simp
                    with_reducible rfl
                   rotate_left
                   ·simp only [Act.put, List.setIfInBounds_toArray, List.set_cons_zero, List.set_cons_succ, i64_w, i32_w]
                    rfl
                   refine pure_ (i := 2) (N := some 94) (v := ?_) (a' := ?_) mT2 rfl rfl (any_of HT_.out (by kernel_rfl)) (fun _ _ _ h => h) (Or.inl ⟨by rfl, ?_⟩) ?_ ?_
                   rotate_left
                   ·intro w'
                    go_simp
                    with_reducible rfl
                   rotate_left
                   ·simp only [Act.put, List.setIfInBounds_toArray, List.set_cons_zero, List.set_cons_succ, i64_w, i32_w]
                    rfl
                   refine take_ (i := 1) (N := some 93) (v := ?_) (a' := ?_) mT3 rfl rfl (take_ofW HT_.out HW_.out (by kernel_rfl)) (fun _ _ _ h => h) (Or.inl ⟨by rfl, ?_⟩) hHeld ?_ ?_
                   rotate_left
                   ·rintro w' ⟨s0, s1, s2, s3, s4, s5⟩
                    go_simp
                    with_reducible rfl
                   rotate_left
                   ·simp only [Act.put, List.setIfInBounds_toArray, List.set_cons_zero, List.set_cons_succ, i64_w, i32_w]
                    rfl
                   refine pure_ (i := 3) (N := some 95) (v := ?_) (a' := ?_) mT4 rfl rfl (any_of HT_.out (by kernel_rfl)) (fun _ _ _ h => h) (Or.inl ⟨by rfl, ?_⟩) ?_ ?_
                   rotate_left
                   ·intro w'
                    go_simp
                    with_reducible rfl
                   rotate_left
                   ·simp only [Act.put, List.setIfInBounds_toArray, List.set_cons_zero, List.set_cons_succ, i64_w, i32_w]
                    rfl
                   refine pure_ (i := 4) (N := some 96) (v := ?_) (a' := ?_) mT5 rfl rfl (any_of HT_.out (by kernel_rfl)) (fun _ _ _ h => h) (Or.inl ⟨by rfl, ?_⟩) ?_ ?_
                   rotate_left
                   ·intro w'
                    go_simp
                    with_reducible rfl
                   rotate_left
                   ·simp only [Act.put, List.setIfInBounds_toArray, List.set_cons_zero, List.set_cons_succ, i64_w, i32_w]
                    rfl
                   refine pure_ (i := 5) (N := some 97) (v := ?_) (a' := ?_) mT6 rfl rfl (any_of HT_.out (by kernel_rfl)) (fun _ _ _ h => h) (Or.inl ⟨by rfl, ?_⟩) ?_ ?_
                   rotate_left
                   ·intro w'
                    go_simp
                    with_reducible rfl
                   rotate_left
                   ·simp only [Act.put, List.setIfInBounds_toArray, List.set_cons_zero, List.set_cons_succ, i64_w, i32_w]
                    rfl
                   refine pure_ (i := 7) (N := some 99) (v := ?_) (a' := ?_) mT22 rfl rfl (any_of HT_.out (by kernel_rfl)) (fun _ _ _ h => h) (Or.inl ⟨by rfl, ?_⟩) ?_ ?_
                   rotate_left
                   ·intro w'
                    go_simp
                    with_reducible rfl
                   rotate_left
                   ·simp only [Act.put, List.setIfInBounds_toArray, List.set_cons_zero, List.set_cons_succ, i64_w, i32_w]
                    rfl
                   refine take_ (i := 6) (N := some 98) (v := ?_) (a' := ?_) mT7 rfl rfl (take_ofW HT_.out HW_.out (by kernel_rfl)) (fun _ _ _ h => h) (Or.inl ⟨by rfl, ?_⟩) hHeld ?_ ?_
                   rotate_left
                   ·rintro w' ⟨s0, s1, s2, s3, s4, s5⟩
                    go_simp
                    with_reducible rfl
                   rotate_left
                   ·simp only [Act.put, List.setIfInBounds_toArray, List.set_cons_zero, List.set_cons_succ, i64_w, i32_w]
                    rfl
                   refine pure_ (i := 8) (N := some 100) (v := ?_) (a' := ?_) mT8 rfl rfl (any_of HT_.out (by kernel_rfl)) (fun _ _ _ h => h) (Or.inl ⟨by rfl, ?_⟩) ?_ ?_
                   rotate_left
                   ·intro w'
                    go_simp
                    with_reducible rfl
                   rotate_left
                   ·simp only [Act.put, List.setIfInBounds_toArray, List.set_cons_zero, List.set_cons_succ, i64_w, i32_w]
                    rfl
                   refine pure_ (i := 9) (N := some 101) (v := ?_) (a' := ?_) mT9 rfl rfl (any_of HT_.out (by kernel_rfl)) (fun _ _ _ h => h) (Or.inl ⟨by rfl, ?_⟩) ?_ ?_
                   rotate_left
                   ·intro w'
                    go_simp
                    with_reducible rfl
                   rotate_left
                   ·simp only [Act.put, List.setIfInBounds_toArray, List.set_cons_zero, List.set_cons_succ, i64_w, i32_w]
                    rfl
                   refine pure_ (i := 10) (N := some 102) (v := undef) (a' := ?_) mT10 rfl rfl (any_of HT_.out (by kernel_rfl)) (fun _ _ _ h => h) (Or.inr ⟨by rfl, rfl⟩) ?_ ?_
                   rotate_left
                   ·simp only [Act.put, List.setIfInBounds_toArray, List.set_cons_zero, List.set_cons_succ, i64_w, i32_w]
                    rfl
                   refine pure_ (i := 11) (N := some 103) (v := undef) (a' := ?_) mT23 rfl rfl (any_of HT_.out (by kernel_rfl)) (fun _ _ _ h => h) (Or.inr ⟨by rfl, rfl⟩) ?_ ?_
                   rotate_left
                   ·simp only [Act.put, List.setIfInBounds_toArray, List.set_cons_zero, List.set_cons_succ, i64_w, i32_w]
                    rfl
                   refine pure_ (i := 12) (N := some 104) (v := undef) (a' := ?_) mT11 rfl rfl (any_of HT_.out (by kernel_rfl)) (fun _ _ _ h => h) (Or.inr ⟨by rfl, rfl⟩) ?_ ?_
                   rotate_left
                   ·simp only [Act.put, List.setIfInBounds_toArray, List.set_cons_zero, List.set_cons_succ, i64_w, i32_w]
                    rfl
                   refine pure_ (i := 13) (N := some 105) (v := undef) (a' := ?_) mT12 rfl rfl (any_of HT_.out (by kernel_rfl)) (fun _ _ _ h => h) (Or.inr ⟨by rfl, rfl⟩) ?_ ?_
                   rotate_left
                   ·simp only [Act.put, List.setIfInBounds_toArray, List.set_cons_zero, List.set_cons_succ, i64_w, i32_w]
                    rfl
                   refine pure_ (i := 14) (N := some 106) (v := ?_) (a' := ?_) mT13 rfl rfl (any_of HT_.out (by kernel_rfl)) (fun _ _ _ h => h) (Or.inl ⟨by rfl, ?_⟩) ?_ ?_
                   rotate_left
                   ·intro w'
                    go_simp
                    with_reducible rfl
                   rotate_left
                   ·simp only [Act.put, List.setIfInBounds_toArray, List.set_cons_zero, List.set_cons_succ, i64_w, i32_w]
                    rfl
                   refine pure_ (i := 15) (N := some 107) (v := ?_) (a' := ?_) mT14 rfl rfl (any_of HT_.out (by kernel_rfl)) (fun _ _ _ h => h) (Or.inl ⟨by rfl, ?_⟩) ?_ ?_
                   rotate_left
                   ·intro w'
                    go_simp
                    with_reducible rfl
                   rotate_left
                   ·simp only [Act.put, List.setIfInBounds_toArray, List.set_cons_zero, List.set_cons_succ, i64_w, i32_w]
                    rfl
                   refine pure_ (i := 16) (N := some 108) (v := ?_) (a' := ?_) mT15 rfl rfl (any_of HT_.out (by kernel_rfl)) (fun _ _ _ h => h) (Or.inl ⟨by rfl, ?_⟩) ?_ ?_
                   rotate_left
                   ·intro w'
                    go_simp
                    with_reducible rfl
                   rotate_left
                   ·simp only [Act.put, List.setIfInBounds_toArray, List.set_cons_zero, List.set_cons_succ, i64_w, i32_w]
                    rfl
                   refine pure_ (i := 17) (N := some 109) (v := undef) (a' := ?_) mT16 rfl rfl (any_of HT_.out (by kernel_rfl)) (fun _ _ _ h => h) (Or.inr ⟨by rfl, rfl⟩) ?_ ?_
                   rotate_left
                   ·simp only [Act.put, List.setIfInBounds_toArray, List.set_cons_zero, List.set_cons_succ, i64_w, i32_w]
                    rfl
                   refine pure_ (i := 18) (N := some 110) (v := undef) (a' := ?_) mT17 rfl rfl (any_of HT_.out (by kernel_rfl)) (fun _ _ _ h => h) (Or.inr ⟨by rfl, rfl⟩) ?_ ?_
                   rotate_left
                   ·simp only [Act.put, List.setIfInBounds_toArray, List.set_cons_zero, List.set_cons_succ, i64_w, i32_w]
                    rfl
                   refine pure_ (i := 19) (N := some 111) (v := undef) (a' := ?_) mT24 rfl rfl (any_of HT_.out (by kernel_rfl)) (fun _ _ _ h => h) (Or.inr ⟨by rfl, rfl⟩) ?_ ?_
                   rotate_left
                   ·simp only [Act.put, List.setIfInBounds_toArray, List.set_cons_zero, List.set_cons_succ, i64_w, i32_w]
                    rfl
                   refine pure_ (i := 20) (N := some 112) (v := undef) (a' := ?_) mT25 rfl rfl (any_of HT_.out (by kernel_rfl)) (fun _ _ _ h => h) (Or.inr ⟨by rfl, rfl⟩) ?_ ?_
                   rotate_left
                   ·simp only [Act.put, List.setIfInBounds_toArray, List.set_cons_zero, List.set_cons_succ, i64_w, i32_w]
                    rfl
                   refine pure_ (i := 21) (N := some 113) (v := undef) (a' := ?_) mT26 rfl rfl (any_of HT_.out (by kernel_rfl)) (fun _ _ _ h => h) (Or.inr ⟨by rfl, rfl⟩) ?_ ?_
                   rotate_left
                   ·simp only [Act.put, List.setIfInBounds_toArray, List.set_cons_zero, List.set_cons_succ, i64_w, i32_w]
                    rfl
                   refine pure_ (i := 22) (N := some 114) (v := undef) (a' := ?_) mT27 rfl rfl (any_of HT_.out (by kernel_rfl)) (fun _ _ _ h => h) (Or.inr ⟨by rfl, rfl⟩) ?_ ?_
                   rotate_left
                   ·simp only [Act.put, List.setIfInBounds_toArray, List.set_cons_zero, List.set_cons_succ, i64_w, i32_w]
                    rfl
                   refine pure_ (i := 23) (N := some 115) (v := undef) (a' := ?_) mT28 rfl rfl (any_of HT_.out (by kernel_rfl)) (fun _ _ _ h => h) (Or.inr ⟨by rfl, rfl⟩) ?_ ?_
                   rotate_left
                   ·simp only [Act.put, List.setIfInBounds_toArray, List.set_cons_zero, List.set_cons_succ, i64_w, i32_w]
                    rfl
                   refine pure_ (i := 24) (N := some 116) (v := undef) (a' := ?_) mT29 rfl rfl (any_of HT_.out (by kernel_rfl)) (fun _ _ _ h => h) (Or.inr ⟨by rfl, rfl⟩) ?_ ?_
                   rotate_left
                   ·simp only [Act.put, List.setIfInBounds_toArray, List.set_cons_zero, List.set_cons_succ, i64_w, i32_w]
                    rfl
                   refine pure_ (i := 25) (N := some 117) (v := undef) (a' := ?_) mT30 rfl rfl (any_of HT_.out (by kernel_rfl)) (fun _ _ _ h => h) (Or.inr ⟨by rfl, rfl⟩) ?_ ?_
                   rotate_left
                   ·simp only [Act.put, List.setIfInBounds_toArray, List.set_cons_zero, List.set_cons_succ, i64_w, i32_w]
                    rfl
                   refine pure_ (i := 26) (N := some 118) (v := undef) (a' := ?_) mT31 rfl rfl (any_of HT_.out (by kernel_rfl)) (fun _ _ _ h => h) (Or.inr ⟨by rfl, rfl⟩) ?_ ?_
                   rotate_left
                   ·simp only [Act.put, List.setIfInBounds_toArray, List.set_cons_zero, List.set_cons_succ, i64_w, i32_w]
                    rfl
                   refine pure_ (i := 27) (N := some 119) (v := undef) (a' := ?_) mT18 rfl rfl (any_of HT_.out (by kernel_rfl)) (fun _ _ _ h => h) (Or.inr ⟨by rfl, rfl⟩) ?_ ?_
                   rotate_left
                   ·simp only [Act.put, List.setIfInBounds_toArray, List.set_cons_zero, List.set_cons_succ, i64_w, i32_w]
                    rfl
                   refine pure_ (i := 28) (N := some 120) (v := undef) (a' := ?_) mT19 rfl rfl (any_of HT_.out (by kernel_rfl)) (fun _ _ _ h => h) (Or.inr ⟨by rfl, rfl⟩) ?_ ?_
                   rotate_left
                   ·simp only [Act.put, List.setIfInBounds_toArray, List.set_cons_zero, List.set_cons_succ, i64_w, i32_w]
                    rfl
                   refine pure_ (i := 29) (N := some 121) (v := undef) (a' := ?_) mT20 rfl rfl (any_of HT_.out (by kernel_rfl)) (fun _ _ _ h => h) (Or.inr ⟨by rfl, rfl⟩) ?_ ?_
                   rotate_left
                   ·simp only [Act.put, List.setIfInBounds_toArray, List.set_cons_zero, List.set_cons_succ, i64_w, i32_w]
                    rfl
                   refine pure_ (i := 30) (N := some 122) (v := ?_) (a' := ?_) mT21 rfl rfl (any_of HT_.out (by kernel_rfl)) (fun _ _ _ h => h) (Or.inl ⟨by rfl, ?_⟩) ?_ ?_
                   rotate_left
                   ·intro w'
                    go_simp
                    with_reducible rfl
                   rotate_left
                   ·simp only [Act.put, List.setIfInBounds_toArray, List.set_cons_zero, List.set_cons_succ, i64_w, i32_w]
                    rfl
                   refine done_ (done_of HT_.out (by kernel_rfl)) ?_
                   try go_wp2
                   go_roundg k4
                   case measure => have := HJ5.out; have := HJ18.out; have := HJ30.out; have := HK4.out; omega
                   case rel => exact ⟨(wrap64 (x88_4 + 1)), (by first | rfl | (simp; done) | (simp [*]; done)), H', ⟨by have := HJ5.out; have := HJ18.out; have := HJ30.out; have := HK4.out; omega⟩, ⟨by (with_reducible repeat (first | apply Kd.V_alloc | apply Kd.V_drewN | apply Kd.V_drew)); exact Kd.V_mono HO_13.out (fun _ hk => ⟨hk.1, ⟨hk.2.1, ⟨hk.2.2.1, hk.2.2.2.1⟩⟩⟩)⟩, ⟨by (with_reducible repeat (first | apply Kd.R_alloc | apply Kd.R_drewN | apply Kd.R_drew)); exact Kd.R_mono HO_86.out (fun _ hk => trivial)⟩, ⟨by (with_reducible repeat (first | apply mlN | apply mlD | apply mlA)); exact BK234.out⟩, ⟨by (with_reducible repeat (first | apply mlN | apply mlD | apply mlA)); exact BK252.out⟩, ⟨by (with_reducible repeat (first | apply mlN | apply mlD | apply mlA)); exact BK258.out⟩, ⟨by repeat (first | (with_reducible first | exact HB.out | apply below_alloc | apply pw_below_drewN | apply below_drew1 | refine below_set ?_ GE234.out | refine below_set ?_ GE252.out | refine below_set ?_ GE258.out | refine below_set ?_ GE271.out) | exact HB.out)⟩⟩
                  ·rw [if_neg c68] at H
                   have c68b0 : (((rd_T39 y266 x88_4).f0).toList == a1.toList) = false := beq_eq_false_iff_ne.mpr c68
                   have c68b1 : (((rd_T39 y266 x88_4).f0).toList != a1.toList) = true := bne_iff_ne.mpr c68
                   by_cases c76 : ((rd_T39 y266 x88_4).f0).toList = a2.toList
                   ·rw [if_pos c76] at H
                    have c76b0 : (((rd_T39 y266 x88_4).f0).toList == a2.toList) = true := beq_iff_eq.mpr c76
                    have c76b1 : (((rd_T39 y266 x88_4).f0).toList != a2.toList) = false := bne_eq_false_iff_eq.mpr c76
                    clear c76
                    have H' := Aside0.mk H
                    clear H
                    have p270 : 0 ≤ (x88_4 : Int) := of_decide_eq_true (by first | (with_reducible assumption) | assumption)
                    have q270 : x88_4 < (y266.length : Int) := of_decide_eq_true (by first | (with_reducible assumption) | assumption)
                    obtain ⟨ad270, e270, hx270_0, hx270_1, hx270_2, hx270_3, hx270_4, hx270_5⟩ := at_T39 (Kd.R_reads' HO_86.out).2.2 x88_4 p270 q270
                    cases e270
                    replace p270 := eq_true p270
                    replace q270 := eq_true q270
                    try go_wp2_with (first | ((with_reducible refine gate_dst (N := 20) rfl ?_); refine box_event ?hg (N := 20) ?hd (cs := #[.string (⟨#[]⟩ : ByteArray), .string (⟨#[]⟩ : ByteArray), .int .u64 0, .int .u64 0, .int .u64 0, .int .u64 0]) (t := 39) ?hr ?_; (case hd => rfl); (case hg => rfl); (case hr => first | (go_simp; done) | (go_simp; rfl)); intro gb271 hg w77 hbox hb; have n0_ := Aside0.mk (Kd.V_below (Kd.V_elderB (by (with_reducible repeat (first | apply Kd.V_alloc | apply Kd.V_drewN | apply Kd.V_drew)); exact HO_13.out) gb271 (Nat.le_of_eq hg.symm)) hb); have n1_ := Aside0.mk (Kd.R_below (Kd.R_elderB (by (with_reducible repeat (first | apply Kd.R_alloc | apply Kd.R_drewN | apply Kd.R_drew)); exact HO_86.out) gb271 (Nat.le_of_eq hg.symm)) hb); have n2_ := Aside0.mk (blk_below (g := gb234) (o := .cells #[.int .u64 a4_0, .int .u64 a4_1, .int .u64 a4_2, .int .u64 a4_3] 25 (0, 0)) (by (with_reducible repeat (first | apply mlN | apply mlD | apply mlA)); exact BK234.out) hb); have n3_ := Aside0.mk (blk_below (g := gb252) (o := .cells #[.int .u64 t247, .int .u64 t248, .int .u64 t249, .int .u64 t250] 25 (0, 0)) (by (with_reducible repeat (first | apply mlN | apply mlD | apply mlA)); exact BK252.out) hb); have n4_ := Aside0.mk (blk_below (g := gb258) (o := .cells #[.int .u64 t253, .int .u64 t254, .int .u64 t255, .int .u64 t256] 25 (0, 0)) (by (with_reducible repeat (first | apply mlN | apply mlD | apply mlA)); exact BK258.out) hb); have n5_ := Aside0.mk (below_step (by repeat (first | (with_reducible first | exact HB.out | apply below_alloc | apply pw_below_drewN | apply below_drew1 | refine below_set ?_ GE234.out | refine below_set ?_ GE252.out | refine below_set ?_ GE258.out) | exact HB.out)) hb); have n6_ := Aside0.mk (hbox); have n7_ := Aside0.mk ((by rw [hg]; exact (below_size (by repeat (first | (with_reducible first | exact HB.out | apply below_alloc | apply pw_below_drewN | apply below_drew1 | refine below_set ?_ GE234.out | refine below_set ?_ GE252.out | refine below_set ?_ GE258.out) | exact HB.out))) : w.heap.size ≤ gb271)); have n8_ := Aside0.mk ((by rw [hg]; exact (below_size (by repeat (first | (with_reducible first | exact HB.out | apply below_alloc | apply pw_below_drewN | apply below_drew1 | refine below_set ?_ GE234.out | refine below_set ?_ GE252.out | refine below_set ?_ GE258.out) | exact HB.out))) : w.heap.size ≤ gb271)); have n9_ := Aside0.mk ((by rw [hg]; exact Nat.ne_of_lt (blk_lt (g := gb234) (o := .cells #[.int .u64 a4_0, .int .u64 a4_1, .int .u64 a4_2, .int .u64 a4_3] 25 (0, 0)) (by (with_reducible repeat (first | apply mlN | apply mlD | apply mlA)); exact BK234.out)) : gb234 ≠ gb271)); have n10_ := Aside0.mk ((by rw [hg]; exact Nat.ne_of_gt (blk_lt (g := gb234) (o := .cells #[.int .u64 a4_0, .int .u64 a4_1, .int .u64 a4_2, .int .u64 a4_3] 25 (0, 0)) (by (with_reducible repeat (first | apply mlN | apply mlD | apply mlA)); exact BK234.out)) : gb271 ≠ gb234)); have n11_ := Aside0.mk ((by rw [hg]; exact Nat.ne_of_lt (blk_lt (g := gb252) (o := .cells #[.int .u64 t247, .int .u64 t248, .int .u64 t249, .int .u64 t250] 25 (0, 0)) (by (with_reducible repeat (first | apply mlN | apply mlD | apply mlA)); exact BK252.out)) : gb252 ≠ gb271)); have n12_ := Aside0.mk ((by rw [hg]; exact Nat.ne_of_gt (blk_lt (g := gb252) (o := .cells #[.int .u64 t247, .int .u64 t248, .int .u64 t249, .int .u64 t250] 25 (0, 0)) (by (with_reducible repeat (first | apply mlN | apply mlD | apply mlA)); exact BK252.out)) : gb271 ≠ gb252)); have n13_ := Aside0.mk ((by rw [hg]; exact Nat.ne_of_lt (blk_lt (g := gb258) (o := .cells #[.int .u64 t253, .int .u64 t254, .int .u64 t255, .int .u64 t256] 25 (0, 0)) (by (with_reducible repeat (first | apply mlN | apply mlD | apply mlA)); exact BK258.out)) : gb258 ≠ gb271)); have n14_ := Aside0.mk ((by rw [hg]; exact Nat.ne_of_gt (blk_lt (g := gb258) (o := .cells #[.int .u64 t253, .int .u64 t254, .int .u64 t255, .int .u64 t256] 25 (0, 0)) (by (with_reducible repeat (first | apply mlN | apply mlD | apply mlA)); exact BK258.out)) : gb271 ≠ gb258)); clear HO_13; clear HO_86; clear BK234; clear BK252; clear BK258; clear HB; have HO_13 := n0_; have HO_86 := n1_; have BK234 := n2_; have BK252 := n3_; have BK258 := n4_; have HB := n5_; have BK271 := n6_; have GW271 := n7_; have GE271 := n8_; have NB234_271 := n9_; have NB271_234 := n10_; have NB252_271 := n11_; have NB271_252 := n12_; have NB258_271 := n13_; have NB271_258 := n14_; clear n0_ n1_ n2_ n3_ n4_ n5_ n6_ n7_ n8_ n9_ n10_ n11_ n12_ n13_ n14_; clear hb hbox hg; have hnb78 := NB271_234.out; have hnc78 := NB234_271.out; have hnb79 := NB271_252.out; have hnc79 := NB252_271.out; have hnb80 := NB271_258.out; have hnc80 := NB258_271.out; have hcz81_0 : w77.cell? ⟨gb271, 0, none⟩ = some (.string (⟨#[]⟩ : ByteArray)) := (blk_cell BK271.out 0).trans rfl; have hcz81_1 : w77.cell? ⟨gb271, 1, none⟩ = some (.string (⟨#[]⟩ : ByteArray)) := (blk_cell BK271.out 1).trans rfl; have hcz81_2 : w77.cell? ⟨gb271, 2, none⟩ = some (.int .u64 0) := (blk_cell BK271.out 2).trans rfl; have hcz81_3 : w77.cell? ⟨gb271, 3, none⟩ = some (.int .u64 0) := (blk_cell BK271.out 3).trans rfl; have hcz81_4 : w77.cell? ⟨gb271, 4, none⟩ = some (.int .u64 0) := (blk_cell BK271.out 4).trans rfl; have hcz81_5 : w77.cell? ⟨gb271, 5, none⟩ = some (.int .u64 0) := (blk_cell BK271.out 5).trans rfl; have hfz81_0 := blk_frozen BK271.out 0; have hfz81_1 := blk_frozen BK271.out 1; have hfz81_2 := blk_frozen BK271.out 2; have hfz81_3 := blk_frozen BK271.out 3; have hfz81_4 := blk_frozen BK271.out 4; have hfz81_5 := blk_frozen BK271.out 5))
                    have n0_ : Aside0 (Kd.V k39 39 ((((((w77.setCell ⟨gb271, 0, none⟩ (.string ((rd_T39 y266 x88_4).f0))).setCell ⟨gb271, 1, none⟩ (.string ((rd_T39 y266 x88_4).f1))).setCell ⟨gb271, 2, none⟩ (.int .u64 ((rd_T39 y266 x88_4).f2.f0))).setCell ⟨gb271, 3, none⟩ (.int .u64 ((rd_T39 y266 x88_4).f2.f1))).setCell ⟨gb271, 4, none⟩ (.int .u64 ((rd_T39 y266 x88_4).f2.f2))).setCell ⟨gb271, 5, none⟩ (.int .u64 ((rd_T39 y266 x88_4).f2.f3))) w.heap.size (fun k_ => some k_ ≠ (.slice (some ad270) y266.length co63 : Value).ownBlock ∧ k_ ≠ gb234 ∧ k_ ≠ gb252 ∧ k_ ≠ gb258 ∧ k_ ≠ gb271) (.slice Ao36 t242.length co36) t242) := ⟨by (with_reducible repeat (first | apply Kd.V_alloc | apply Kd.V_drewN | apply Kd.V_drew)); exact Kd.V_mono (Kd.V_far (p := ⟨gb271, 5, none⟩) (Kd.V_far (p := ⟨gb271, 4, none⟩) (Kd.V_far (p := ⟨gb271, 3, none⟩) (Kd.V_far (p := ⟨gb271, 2, none⟩) (Kd.V_far (p := ⟨gb271, 1, none⟩) (Kd.V_far (p := ⟨gb271, 0, none⟩) (Kd.V_mono HO_13.out (fun k_ hk => (⟨hk, hk.2⟩ : _ ∧ k_ ≠ gb271))) (fun _ hk => hk.2) (.string ((rd_T39 y266 x88_4).f0))) (fun _ hk => hk.2) (.string ((rd_T39 y266 x88_4).f1))) (fun _ hk => hk.2) (.int .u64 ((rd_T39 y266 x88_4).f2.f0))) (fun _ hk => hk.2) (.int .u64 ((rd_T39 y266 x88_4).f2.f1))) (fun _ hk => hk.2) (.int .u64 ((rd_T39 y266 x88_4).f2.f2))) (fun _ hk => hk.2) (.int .u64 ((rd_T39 y266 x88_4).f2.f3))) (fun _ hk => ⟨hk.1.1.1, ⟨hk.1.1.2.1, ⟨hk.1.1.2.2.1, ⟨hk.1.1.2.2.2, hk.1.2⟩⟩⟩⟩)⟩
                    have n1_ : Aside0 (Kd.R k39 39 ((((((w77.setCell ⟨gb271, 0, none⟩ (.string ((rd_T39 y266 x88_4).f0))).setCell ⟨gb271, 1, none⟩ (.string ((rd_T39 y266 x88_4).f1))).setCell ⟨gb271, 2, none⟩ (.int .u64 ((rd_T39 y266 x88_4).f2.f0))).setCell ⟨gb271, 3, none⟩ (.int .u64 ((rd_T39 y266 x88_4).f2.f1))).setCell ⟨gb271, 4, none⟩ (.int .u64 ((rd_T39 y266 x88_4).f2.f2))).setCell ⟨gb271, 5, none⟩ (.int .u64 ((rd_T39 y266 x88_4).f2.f3))) w.heap.size (fun k_ => k_ ≠ gb271) (.slice (some ad270) y266.length co63) y266) := ⟨by (with_reducible repeat (first | apply Kd.R_alloc | apply Kd.R_drewN | apply Kd.R_drew)); exact Kd.R_mono (Kd.R_far (p := ⟨gb271, 5, none⟩) (Kd.R_far (p := ⟨gb271, 4, none⟩) (Kd.R_far (p := ⟨gb271, 3, none⟩) (Kd.R_far (p := ⟨gb271, 2, none⟩) (Kd.R_far (p := ⟨gb271, 1, none⟩) (Kd.R_far (p := ⟨gb271, 0, none⟩) (Kd.R_mono HO_86.out (fun k_ hk => (⟨hk, hk.2⟩ : _ ∧ k_ ≠ gb271))) (fun _ hk => hk.2) (.string ((rd_T39 y266 x88_4).f0))) (fun _ hk => hk.2) (.string ((rd_T39 y266 x88_4).f1))) (fun _ hk => hk.2) (.int .u64 ((rd_T39 y266 x88_4).f2.f0))) (fun _ hk => hk.2) (.int .u64 ((rd_T39 y266 x88_4).f2.f1))) (fun _ hk => hk.2) (.int .u64 ((rd_T39 y266 x88_4).f2.f2))) (fun _ hk => hk.2) (.int .u64 ((rd_T39 y266 x88_4).f2.f3))) (fun _ hk => hk.1.2)⟩
                    have n2_ : Aside0 (((((((w77.setCell ⟨gb271, 0, none⟩ (.string ((rd_T39 y266 x88_4).f0))).setCell ⟨gb271, 1, none⟩ (.string ((rd_T39 y266 x88_4).f1))).setCell ⟨gb271, 2, none⟩ (.int .u64 ((rd_T39 y266 x88_4).f2.f0))).setCell ⟨gb271, 3, none⟩ (.int .u64 ((rd_T39 y266 x88_4).f2.f1))).setCell ⟨gb271, 4, none⟩ (.int .u64 ((rd_T39 y266 x88_4).f2.f2))).setCell ⟨gb271, 5, none⟩ (.int .u64 ((rd_T39 y266 x88_4).f2.f3))).heap[gb234]? = some (.cells #[.int .u64 a4_0, .int .u64 a4_1, .int .u64 a4_2, .int .u64 a4_3] 25 (0, 0))) := ⟨by (with_reducible repeat (first | apply mlN | apply mlD | apply mlA)); refine blk_far ?_ NB234_271.out _; (with_reducible repeat (first | apply mlN | apply mlD | apply mlA)); refine blk_far ?_ NB234_271.out _; (with_reducible repeat (first | apply mlN | apply mlD | apply mlA)); refine blk_far ?_ NB234_271.out _; (with_reducible repeat (first | apply mlN | apply mlD | apply mlA)); refine blk_far ?_ NB234_271.out _; (with_reducible repeat (first | apply mlN | apply mlD | apply mlA)); refine blk_far ?_ NB234_271.out _; (with_reducible repeat (first | apply mlN | apply mlD | apply mlA)); refine blk_far ?_ NB234_271.out _; (with_reducible repeat (first | apply mlN | apply mlD | apply mlA)); exact BK234.out⟩
                    have n3_ : Aside0 (((((((w77.setCell ⟨gb271, 0, none⟩ (.string ((rd_T39 y266 x88_4).f0))).setCell ⟨gb271, 1, none⟩ (.string ((rd_T39 y266 x88_4).f1))).setCell ⟨gb271, 2, none⟩ (.int .u64 ((rd_T39 y266 x88_4).f2.f0))).setCell ⟨gb271, 3, none⟩ (.int .u64 ((rd_T39 y266 x88_4).f2.f1))).setCell ⟨gb271, 4, none⟩ (.int .u64 ((rd_T39 y266 x88_4).f2.f2))).setCell ⟨gb271, 5, none⟩ (.int .u64 ((rd_T39 y266 x88_4).f2.f3))).heap[gb252]? = some (.cells #[.int .u64 t247, .int .u64 t248, .int .u64 t249, .int .u64 t250] 25 (0, 0))) := ⟨by (with_reducible repeat (first | apply mlN | apply mlD | apply mlA)); refine blk_far ?_ NB252_271.out _; (with_reducible repeat (first | apply mlN | apply mlD | apply mlA)); refine blk_far ?_ NB252_271.out _; (with_reducible repeat (first | apply mlN | apply mlD | apply mlA)); refine blk_far ?_ NB252_271.out _; (with_reducible repeat (first | apply mlN | apply mlD | apply mlA)); refine blk_far ?_ NB252_271.out _; (with_reducible repeat (first | apply mlN | apply mlD | apply mlA)); refine blk_far ?_ NB252_271.out _; (with_reducible repeat (first | apply mlN | apply mlD | apply mlA)); refine blk_far ?_ NB252_271.out _; (with_reducible repeat (first | apply mlN | apply mlD | apply mlA)); exact BK252.out⟩
                    have n4_ : Aside0 (((((((w77.setCell ⟨gb271, 0, none⟩ (.string ((rd_T39 y266 x88_4).f0))).setCell ⟨gb271, 1, none⟩ (.string ((rd_T39 y266 x88_4).f1))).setCell ⟨gb271, 2, none⟩ (.int .u64 ((rd_T39 y266 x88_4).f2.f0))).setCell ⟨gb271, 3, none⟩ (.int .u64 ((rd_T39 y266 x88_4).f2.f1))).setCell ⟨gb271, 4, none⟩ (.int .u64 ((rd_T39 y266 x88_4).f2.f2))).setCell ⟨gb271, 5, none⟩ (.int .u64 ((rd_T39 y266 x88_4).f2.f3))).heap[gb258]? = some (.cells #[.int .u64 t253, .int .u64 t254, .int .u64 t255, .int .u64 t256] 25 (0, 0))) := ⟨by (with_reducible repeat (first | apply mlN | apply mlD | apply mlA)); refine blk_far ?_ NB258_271.out _; (with_reducible repeat (first | apply mlN | apply mlD | apply mlA)); refine blk_far ?_ NB258_271.out _; (with_reducible repeat (first | apply mlN | apply mlD | apply mlA)); refine blk_far ?_ NB258_271.out _; (with_reducible repeat (first | apply mlN | apply mlD | apply mlA)); refine blk_far ?_ NB258_271.out _; (with_reducible repeat (first | apply mlN | apply mlD | apply mlA)); refine blk_far ?_ NB258_271.out _; (with_reducible repeat (first | apply mlN | apply mlD | apply mlA)); refine blk_far ?_ NB258_271.out _; (with_reducible repeat (first | apply mlN | apply mlD | apply mlA)); exact BK258.out⟩
                    have n5_ : Aside0 (((((((w77.setCell ⟨gb271, 0, none⟩ (.string ((rd_T39 y266 x88_4).f0))).setCell ⟨gb271, 1, none⟩ (.string ((rd_T39 y266 x88_4).f1))).setCell ⟨gb271, 2, none⟩ (.int .u64 ((rd_T39 y266 x88_4).f2.f0))).setCell ⟨gb271, 3, none⟩ (.int .u64 ((rd_T39 y266 x88_4).f2.f1))).setCell ⟨gb271, 4, none⟩ (.int .u64 ((rd_T39 y266 x88_4).f2.f2))).setCell ⟨gb271, 5, none⟩ (.int .u64 ((rd_T39 y266 x88_4).f2.f3))).heap[gb271]? = some (.cells #[.string ((rd_T39 y266 x88_4).f0), .string ((rd_T39 y266 x88_4).f1), .int .u64 ((rd_T39 y266 x88_4).f2.f0), .int .u64 ((rd_T39 y266 x88_4).f2.f1), .int .u64 ((rd_T39 y266 x88_4).f2.f2), .int .u64 ((rd_T39 y266 x88_4).f2.f3)] 39 (0, 0))) := ⟨by (with_reducible repeat (first | apply mlN | apply mlD | apply mlA)); refine blk_put (cs := #[.string ((rd_T39 y266 x88_4).f0), .string ((rd_T39 y266 x88_4).f1), .int .u64 ((rd_T39 y266 x88_4).f2.f0), .int .u64 ((rd_T39 y266 x88_4).f2.f1), .int .u64 ((rd_T39 y266 x88_4).f2.f2), .int .u64 0]) ?_ 5 _ rfl; (with_reducible repeat (first | apply mlN | apply mlD | apply mlA)); refine blk_put (cs := #[.string ((rd_T39 y266 x88_4).f0), .string ((rd_T39 y266 x88_4).f1), .int .u64 ((rd_T39 y266 x88_4).f2.f0), .int .u64 ((rd_T39 y266 x88_4).f2.f1), .int .u64 0, .int .u64 0]) ?_ 4 _ rfl; (with_reducible repeat (first | apply mlN | apply mlD | apply mlA)); refine blk_put (cs := #[.string ((rd_T39 y266 x88_4).f0), .string ((rd_T39 y266 x88_4).f1), .int .u64 ((rd_T39 y266 x88_4).f2.f0), .int .u64 0, .int .u64 0, .int .u64 0]) ?_ 3 _ rfl; (with_reducible repeat (first | apply mlN | apply mlD | apply mlA)); refine blk_put (cs := #[.string ((rd_T39 y266 x88_4).f0), .string ((rd_T39 y266 x88_4).f1), .int .u64 0, .int .u64 0, .int .u64 0, .int .u64 0]) ?_ 2 _ rfl; (with_reducible repeat (first | apply mlN | apply mlD | apply mlA)); refine blk_put (cs := #[.string ((rd_T39 y266 x88_4).f0), .string (⟨#[]⟩ : ByteArray), .int .u64 0, .int .u64 0, .int .u64 0, .int .u64 0]) ?_ 1 _ rfl; (with_reducible repeat (first | apply mlN | apply mlD | apply mlA)); refine blk_put (cs := #[.string (⟨#[]⟩ : ByteArray), .string (⟨#[]⟩ : ByteArray), .int .u64 0, .int .u64 0, .int .u64 0, .int .u64 0]) ?_ 0 _ rfl; (with_reducible repeat (first | apply mlN | apply mlD | apply mlA)); exact BK271.out⟩
                    have n6_ : Aside0 (Below w.heap.size w ((((((w77.setCell ⟨gb271, 0, none⟩ (.string ((rd_T39 y266 x88_4).f0))).setCell ⟨gb271, 1, none⟩ (.string ((rd_T39 y266 x88_4).f1))).setCell ⟨gb271, 2, none⟩ (.int .u64 ((rd_T39 y266 x88_4).f2.f0))).setCell ⟨gb271, 3, none⟩ (.int .u64 ((rd_T39 y266 x88_4).f2.f1))).setCell ⟨gb271, 4, none⟩ (.int .u64 ((rd_T39 y266 x88_4).f2.f2))).setCell ⟨gb271, 5, none⟩ (.int .u64 ((rd_T39 y266 x88_4).f2.f3)))) := ⟨by repeat (first | (with_reducible first | exact HB.out | apply below_alloc | apply pw_below_drewN | apply below_drew1 | refine below_set ?_ GE234.out | refine below_set ?_ GE252.out | refine below_set ?_ GE258.out | refine below_set ?_ GE271.out) | exact HB.out)⟩
                    (try clear HO_13)
                    (try clear HO_86)
                    (try clear BK234)
                    (try clear BK252)
                    (try clear BK258)
                    (try clear BK271)
                    (try clear HB)
                    generalize ((((((w77.setCell ⟨gb271, 0, none⟩ (.string ((rd_T39 y266 x88_4).f0))).setCell ⟨gb271, 1, none⟩ (.string ((rd_T39 y266 x88_4).f1))).setCell ⟨gb271, 2, none⟩ (.int .u64 ((rd_T39 y266 x88_4).f2.f0))).setCell ⟨gb271, 3, none⟩ (.int .u64 ((rd_T39 y266 x88_4).f2.f1))).setCell ⟨gb271, 4, none⟩ (.int .u64 ((rd_T39 y266 x88_4).f2.f2))).setCell ⟨gb271, 5, none⟩ (.int .u64 ((rd_T39 y266 x88_4).f2.f3))) = w82 at n0_ n1_ n2_ n3_ n4_ n5_ n6_ ⊢
                    have HO_13 := n0_
                    have HO_86 := n1_
                    have BK234 := n2_
                    have BK252 := n3_
                    have BK258 := n4_
                    have BK271 := n5_
                    have HB := n6_
                    clear n0_ n1_ n2_ n3_ n4_ n5_ n6_
                    have n0_ := Aside0.mk (Kd.V_drew HO_13.out)
                    have n1_ := Aside0.mk (Kd.R_drew HO_86.out)
                    have n2_ := Aside0.mk (blk_drew BK234.out)
                    have n3_ := Aside0.mk (blk_drew BK252.out)
                    have n4_ := Aside0.mk (blk_drew BK258.out)
                    have n5_ := Aside0.mk (blk_drew BK271.out)
                    have n6_ := Aside0.mk (below_drew1 HB.out)
                    clear HO_13
                    clear HO_86
                    clear BK234
                    clear BK252
                    clear BK258
                    clear BK271
                    clear HB
                    have HO_13 := n0_
                    have HO_86 := n1_
                    have BK234 := n2_
                    have BK252 := n3_
                    have BK258 := n4_
                    have BK271 := n5_
                    have HB := n6_
                    clear n0_ n1_ n2_ n3_ n4_ n5_ n6_
                    refine start_ (n := 31) (S := fun w' => w'.cell? ⟨gb271, 0, none⟩ = some (.string ((rd_T39 y266 x88_4).f0)) ∧ w'.cell? ⟨gb271, 1, none⟩ = some (.string ((rd_T39 y266 x88_4).f1)) ∧ w'.cell? ⟨gb271, 2, none⟩ = some (.int .u64 ((rd_T39 y266 x88_4).f2.f0)) ∧ w'.cell? ⟨gb271, 3, none⟩ = some (.int .u64 ((rd_T39 y266 x88_4).f2.f1)) ∧ w'.cell? ⟨gb271, 4, none⟩ = some (.int .u64 ((rd_T39 y266 x88_4).f2.f2)) ∧ w'.cell? ⟨gb271, 5, none⟩ = some (.int .u64 ((rd_T39 y266 x88_4).f2.f3))) (ds := []) mT0 (by kernel_rfl) rfl rfl ⟨(blk_cell BK271.out 0).trans rfl, (blk_cell BK271.out 1).trans rfl, (blk_cell BK271.out 2).trans rfl, (blk_cell BK271.out 3).trans rfl, (blk_cell BK271.out 4).trans rfl, (blk_cell BK271.out 5).trans rfl⟩ (fun hHeld => ?_); refine with_tabW trucelaw16_AcctMoves.tab14 trucelaw16_AcctMoves.bits14 (fun HT_ HW_ => ?_)
                    generalize w82.drew = w83 at HO_13 HO_86 BK234 BK252 BK258 BK271 HB hHeld ⊢
                    refine pure_ (i := 0) (N := some 92) (v := ?_) (a' := ?_) mT1 rfl rfl (any_of HT_.out (by kernel_rfl)) (fun _ _ _ h => h) (Or.inl ⟨by rfl, ?_⟩) ?_ ?_
                    rotate_left
                    ·intro w'
                     go_simp
                     with_reducible rfl
                    rotate_left
                    ·simp only [Act.put, List.setIfInBounds_toArray, List.set_cons_zero, List.set_cons_succ, i64_w, i32_w]
                     rfl
                    refine pure_ (i := 2) (N := some 94) (v := ?_) (a' := ?_) mT2 rfl rfl (any_of HT_.out (by kernel_rfl)) (fun _ _ _ h => h) (Or.inl ⟨by rfl, ?_⟩) ?_ ?_
                    rotate_left
                    ·intro w'
                     go_simp
                     with_reducible rfl
                    rotate_left
                    ·simp only [Act.put, List.setIfInBounds_toArray, List.set_cons_zero, List.set_cons_succ, i64_w, i32_w]
                     rfl
                    refine take_ (i := 1) (N := some 93) (v := ?_) (a' := ?_) mT3 rfl rfl (take_ofW HT_.out HW_.out (by kernel_rfl)) (fun _ _ _ h => h) (Or.inl ⟨by rfl, ?_⟩) hHeld ?_ ?_
                    rotate_left
                    ·rintro w' ⟨s0, s1, s2, s3, s4, s5⟩
                     go_simp
                     with_reducible rfl
                    rotate_left
                    ·simp only [Act.put, List.setIfInBounds_toArray, List.set_cons_zero, List.set_cons_succ, i64_w, i32_w]
                     rfl
                    refine pure_ (i := 3) (N := some 95) (v := ?_) (a' := ?_) mT4 rfl rfl (any_of HT_.out (by kernel_rfl)) (fun _ _ _ h => h) (Or.inl ⟨by rfl, ?_⟩) ?_ ?_
                    rotate_left
                    ·intro w'
                     go_simp
                     with_reducible rfl
                    rotate_left
                    ·simp only [Act.put, List.setIfInBounds_toArray, List.set_cons_zero, List.set_cons_succ, i64_w, i32_w]
                     rfl
                    refine pure_ (i := 4) (N := some 96) (v := ?_) (a' := ?_) mT5 rfl rfl (any_of HT_.out (by kernel_rfl)) (fun _ _ _ h => h) (Or.inl ⟨by rfl, ?_⟩) ?_ ?_
                    rotate_left
                    ·intro w'
                     go_simp
                     with_reducible rfl
                    rotate_left
                    ·simp only [Act.put, List.setIfInBounds_toArray, List.set_cons_zero, List.set_cons_succ, i64_w, i32_w]
                     rfl
                    refine pure_ (i := 5) (N := some 97) (v := ?_) (a' := ?_) mT6 rfl rfl (any_of HT_.out (by kernel_rfl)) (fun _ _ _ h => h) (Or.inl ⟨by rfl, ?_⟩) ?_ ?_
                    rotate_left
                    ·intro w'
                     go_simp
                     with_reducible rfl
                    rotate_left
                    ·simp only [Act.put, List.setIfInBounds_toArray, List.set_cons_zero, List.set_cons_succ, i64_w, i32_w]
                     rfl
                    refine pure_ (i := 7) (N := some 99) (v := ?_) (a' := ?_) mT22 rfl rfl (any_of HT_.out (by kernel_rfl)) (fun _ _ _ h => h) (Or.inl ⟨by rfl, ?_⟩) ?_ ?_
                    rotate_left
                    ·intro w'
                     go_simp
                     with_reducible rfl
                    rotate_left
                    ·simp only [Act.put, List.setIfInBounds_toArray, List.set_cons_zero, List.set_cons_succ, i64_w, i32_w]
                     rfl
                    refine take_ (i := 6) (N := some 98) (v := ?_) (a' := ?_) mT7 rfl rfl (take_ofW HT_.out HW_.out (by kernel_rfl)) (fun _ _ _ h => h) (Or.inl ⟨by rfl, ?_⟩) hHeld ?_ ?_
                    rotate_left
                    ·rintro w' ⟨s0, s1, s2, s3, s4, s5⟩
                     go_simp
                     with_reducible rfl
                    rotate_left
                    ·simp only [Act.put, List.setIfInBounds_toArray, List.set_cons_zero, List.set_cons_succ, i64_w, i32_w]
                     rfl
                    refine pure_ (i := 8) (N := some 100) (v := ?_) (a' := ?_) mT8 rfl rfl (any_of HT_.out (by kernel_rfl)) (fun _ _ _ h => h) (Or.inl ⟨by rfl, ?_⟩) ?_ ?_
                    rotate_left
                    ·intro w'
                     go_simp
                     with_reducible rfl
                    rotate_left
                    ·simp only [Act.put, List.setIfInBounds_toArray, List.set_cons_zero, List.set_cons_succ, i64_w, i32_w]
                     rfl
                    refine pure_ (i := 9) (N := some 101) (v := ?_) (a' := ?_) mT9 rfl rfl (any_of HT_.out (by kernel_rfl)) (fun _ _ _ h => h) (Or.inl ⟨by rfl, ?_⟩) ?_ ?_
                    rotate_left
                    ·intro w'
                     go_simp
                     with_reducible rfl
                    rotate_left
                    ·simp only [Act.put, List.setIfInBounds_toArray, List.set_cons_zero, List.set_cons_succ, i64_w, i32_w]
                     rfl
                    refine pure_ (i := 10) (N := some 102) (v := ?_) (a' := ?_) mT10 rfl rfl (any_of HT_.out (by kernel_rfl)) (fun _ _ _ h => h) (Or.inl ⟨by rfl, ?_⟩) ?_ ?_
                    rotate_left
                    ·intro w'
                     go_simp
                     with_reducible rfl
                    rotate_left
                    ·simp only [Act.put, List.setIfInBounds_toArray, List.set_cons_zero, List.set_cons_succ, i64_w, i32_w]
                     rfl
                    refine pure_ (i := 12) (N := some 104) (v := ?_) (a' := ?_) mT32 rfl rfl (any_of HT_.out (by kernel_rfl)) (fun _ _ _ h => h) (Or.inl ⟨by rfl, ?_⟩) ?_ ?_
                    rotate_left
                    ·intro w'
                     go_simp
                     with_reducible rfl
                    rotate_left
                    ·simp only [Act.put, List.setIfInBounds_toArray, List.set_cons_zero, List.set_cons_succ, i64_w, i32_w]
                     rfl
                    refine take_ (i := 11) (N := some 103) (v := ?_) (a' := ?_) mT11 rfl rfl (take_ofW HT_.out HW_.out (by kernel_rfl)) (fun _ _ _ h => h) (Or.inl ⟨by rfl, ?_⟩) hHeld ?_ ?_
                    rotate_left
                    ·rintro w' ⟨s0, s1, s2, s3, s4, s5⟩
                     go_simp
                     with_reducible rfl
                    rotate_left
                    ·simp only [Act.put, List.setIfInBounds_toArray, List.set_cons_zero, List.set_cons_succ, i64_w, i32_w]
                     rfl
                    refine pure_ (i := 13) (N := some 105) (v := ?_) (a' := ?_) mT12 rfl rfl (any_of HT_.out (by kernel_rfl)) (fun _ _ _ h => h) (Or.inl ⟨by rfl, ?_⟩) ?_ ?_
                    rotate_left
                    ·intro w'
                     go_simp
                     with_reducible rfl
                    rotate_left
                    ·simp only [Act.put, List.setIfInBounds_toArray, List.set_cons_zero, List.set_cons_succ, i64_w, i32_w]
                     rfl
                    refine pure_ (i := 14) (N := some 106) (v := ?_) (a' := ?_) mT13 rfl rfl (any_of HT_.out (by kernel_rfl)) (fun _ _ _ h => h) (Or.inl ⟨by rfl, ?_⟩) ?_ ?_
                    rotate_left
                    ·intro w'
                     go_simp
                     with_reducible rfl
                    rotate_left
                    ·simp only [Act.put, List.setIfInBounds_toArray, List.set_cons_zero, List.set_cons_succ, i64_w, i32_w]
                     rfl
                    refine pure_ (i := 15) (N := some 107) (v := ?_) (a' := ?_) mT14 rfl rfl (any_of HT_.out (by kernel_rfl)) (fun _ _ _ h => h) (Or.inl ⟨by rfl, ?_⟩) ?_ ?_
                    rotate_left
                    ·intro w'
                     go_simp
                     with_reducible rfl
                    rotate_left
                    ·simp only [Act.put, List.setIfInBounds_toArray, List.set_cons_zero, List.set_cons_succ, i64_w, i32_w]
                     rfl
                    refine pure_ (i := 16) (N := some 108) (v := ?_) (a' := ?_) mT15 rfl rfl (any_of HT_.out (by kernel_rfl)) (fun _ _ _ h => h) (Or.inl ⟨by rfl, ?_⟩) ?_ ?_
                    rotate_left
                    ·intro w'
                     go_simp
                     with_reducible rfl
                    rotate_left
                    ·simp only [Act.put, List.setIfInBounds_toArray, List.set_cons_zero, List.set_cons_succ, i64_w, i32_w]
                     rfl
                    refine pure_ (i := 17) (N := some 109) (v := undef) (a' := ?_) mT16 rfl rfl (any_of HT_.out (by kernel_rfl)) (fun _ _ _ h => h) (Or.inr ⟨by rfl, rfl⟩) ?_ ?_
                    rotate_left
                    ·simp only [Act.put, List.setIfInBounds_toArray, List.set_cons_zero, List.set_cons_succ, i64_w, i32_w]
                     rfl
                    refine pure_ (i := 18) (N := some 110) (v := undef) (a' := ?_) mT17 rfl rfl (any_of HT_.out (by kernel_rfl)) (fun _ _ _ h => h) (Or.inr ⟨by rfl, rfl⟩) ?_ ?_
                    rotate_left
                    ·simp only [Act.put, List.setIfInBounds_toArray, List.set_cons_zero, List.set_cons_succ, i64_w, i32_w]
                     rfl
                    refine pure_ (i := 19) (N := some 111) (v := undef) (a' := ?_) mT24 rfl rfl (any_of HT_.out (by kernel_rfl)) (fun _ _ _ h => h) (Or.inr ⟨by rfl, rfl⟩) ?_ ?_
                    rotate_left
                    ·simp only [Act.put, List.setIfInBounds_toArray, List.set_cons_zero, List.set_cons_succ, i64_w, i32_w]
                     rfl
                    refine pure_ (i := 20) (N := some 112) (v := undef) (a' := ?_) mT25 rfl rfl (any_of HT_.out (by kernel_rfl)) (fun _ _ _ h => h) (Or.inr ⟨by rfl, rfl⟩) ?_ ?_
                    rotate_left
                    ·simp only [Act.put, List.setIfInBounds_toArray, List.set_cons_zero, List.set_cons_succ, i64_w, i32_w]
                     rfl
                    refine pure_ (i := 21) (N := some 113) (v := undef) (a' := ?_) mT26 rfl rfl (any_of HT_.out (by kernel_rfl)) (fun _ _ _ h => h) (Or.inr ⟨by rfl, rfl⟩) ?_ ?_
                    rotate_left
                    ·simp only [Act.put, List.setIfInBounds_toArray, List.set_cons_zero, List.set_cons_succ, i64_w, i32_w]
                     rfl
                    refine pure_ (i := 22) (N := some 114) (v := undef) (a' := ?_) mT27 rfl rfl (any_of HT_.out (by kernel_rfl)) (fun _ _ _ h => h) (Or.inr ⟨by rfl, rfl⟩) ?_ ?_
                    rotate_left
                    ·simp only [Act.put, List.setIfInBounds_toArray, List.set_cons_zero, List.set_cons_succ, i64_w, i32_w]
                     rfl
                    refine pure_ (i := 23) (N := some 115) (v := undef) (a' := ?_) mT28 rfl rfl (any_of HT_.out (by kernel_rfl)) (fun _ _ _ h => h) (Or.inr ⟨by rfl, rfl⟩) ?_ ?_
                    rotate_left
                    ·simp only [Act.put, List.setIfInBounds_toArray, List.set_cons_zero, List.set_cons_succ, i64_w, i32_w]
                     rfl
                    refine pure_ (i := 24) (N := some 116) (v := undef) (a' := ?_) mT29 rfl rfl (any_of HT_.out (by kernel_rfl)) (fun _ _ _ h => h) (Or.inr ⟨by rfl, rfl⟩) ?_ ?_
                    rotate_left
                    ·simp only [Act.put, List.setIfInBounds_toArray, List.set_cons_zero, List.set_cons_succ, i64_w, i32_w]
                     rfl
                    refine pure_ (i := 25) (N := some 117) (v := undef) (a' := ?_) mT30 rfl rfl (any_of HT_.out (by kernel_rfl)) (fun _ _ _ h => h) (Or.inr ⟨by rfl, rfl⟩) ?_ ?_
                    rotate_left
                    ·simp only [Act.put, List.setIfInBounds_toArray, List.set_cons_zero, List.set_cons_succ, i64_w, i32_w]
                     rfl
                    refine pure_ (i := 26) (N := some 118) (v := undef) (a' := ?_) mT31 rfl rfl (any_of HT_.out (by kernel_rfl)) (fun _ _ _ h => h) (Or.inr ⟨by rfl, rfl⟩) ?_ ?_
                    rotate_left
                    ·simp only [Act.put, List.setIfInBounds_toArray, List.set_cons_zero, List.set_cons_succ, i64_w, i32_w]
                     rfl
                    refine pure_ (i := 27) (N := some 119) (v := undef) (a' := ?_) mT18 rfl rfl (any_of HT_.out (by kernel_rfl)) (fun _ _ _ h => h) (Or.inr ⟨by rfl, rfl⟩) ?_ ?_
                    rotate_left
                    ·simp only [Act.put, List.setIfInBounds_toArray, List.set_cons_zero, List.set_cons_succ, i64_w, i32_w]
                     rfl
                    refine pure_ (i := 28) (N := some 120) (v := undef) (a' := ?_) mT19 rfl rfl (any_of HT_.out (by kernel_rfl)) (fun _ _ _ h => h) (Or.inr ⟨by rfl, rfl⟩) ?_ ?_
                    rotate_left
                    ·simp only [Act.put, List.setIfInBounds_toArray, List.set_cons_zero, List.set_cons_succ, i64_w, i32_w]
                     rfl
                    refine pure_ (i := 29) (N := some 121) (v := undef) (a' := ?_) mT20 rfl rfl (any_of HT_.out (by kernel_rfl)) (fun _ _ _ h => h) (Or.inr ⟨by rfl, rfl⟩) ?_ ?_
                    rotate_left
                    ·simp only [Act.put, List.setIfInBounds_toArray, List.set_cons_zero, List.set_cons_succ, i64_w, i32_w]
                     rfl
                    refine pure_ (i := 30) (N := some 122) (v := ?_) (a' := ?_) mT21 rfl rfl (any_of HT_.out (by kernel_rfl)) (fun _ _ _ h => h) (Or.inl ⟨by rfl, ?_⟩) ?_ ?_
                    rotate_left
                    ·intro w'
                     go_simp
                     with_reducible rfl
                    rotate_left
                    ·simp only [Act.put, List.setIfInBounds_toArray, List.set_cons_zero, List.set_cons_succ, i64_w, i32_w]
                     rfl
                    refine done_ (done_of HT_.out (by kernel_rfl)) ?_
                    try go_wp2
                    go_roundg k4
                    case measure => have := HJ5.out; have := HJ18.out; have := HJ30.out; have := HK4.out; omega
                    case rel => exact ⟨(wrap64 (x88_4 + 1)), (by first | rfl | (simp; done) | (simp [*]; done)), H', ⟨by have := HJ5.out; have := HJ18.out; have := HJ30.out; have := HK4.out; omega⟩, ⟨by (with_reducible repeat (first | apply Kd.V_alloc | apply Kd.V_drewN | apply Kd.V_drew)); exact Kd.V_mono HO_13.out (fun _ hk => ⟨hk.1, ⟨hk.2.1, ⟨hk.2.2.1, hk.2.2.2.1⟩⟩⟩)⟩, ⟨by (with_reducible repeat (first | apply Kd.R_alloc | apply Kd.R_drewN | apply Kd.R_drew)); exact Kd.R_mono HO_86.out (fun _ hk => trivial)⟩, ⟨by (with_reducible repeat (first | apply mlN | apply mlD | apply mlA)); exact BK234.out⟩, ⟨by (with_reducible repeat (first | apply mlN | apply mlD | apply mlA)); exact BK252.out⟩, ⟨by (with_reducible repeat (first | apply mlN | apply mlD | apply mlA)); exact BK258.out⟩, ⟨by repeat (first | (with_reducible first | exact HB.out | apply below_alloc | apply pw_below_drewN | apply below_drew1 | refine below_set ?_ GE234.out | refine below_set ?_ GE252.out | refine below_set ?_ GE258.out | refine below_set ?_ GE271.out) | exact HB.out)⟩⟩
                   ·rw [if_neg c76] at H
                    have c76b0 : (((rd_T39 y266 x88_4).f0).toList == a2.toList) = false := beq_eq_false_iff_ne.mpr c76
                    have c76b1 : (((rd_T39 y266 x88_4).f0).toList != a2.toList) = true := bne_iff_ne.mpr c76
                    replace H := Option.bind_eq_some_iff.mp H
                    obtain ⟨⟨t272, t273, t274, t275⟩, A840, H⟩ := H
                    replace H : ((truceref16_Get.f k4 t242 ((rd_T39 y266 x88_4).f0) ((rd_T39 y266 x88_4).f1)).bind fun bt276 => (if (!(t272 == bt276.1) || (!(t273 == bt276.2.1) || (!(t274 == bt276.2.2.1) || (!(t275 == bt276.2.2.2))))) = true then (some false) else (trucelaw16_AcctMoves.l0 k4 l0 a1 a2 a3 t242 y266 (y266.length : Int) (wrap64 (x88_4 + 1))))) = some r := H
                    have A84 := Aside0.mk A840
                    clear A840
                    replace H := Option.bind_eq_some_iff.mp H
                    obtain ⟨⟨t276, t277, t278, t279⟩, A850, H⟩ := H
                    replace H : (if (!(t272 == t276) || (!(t273 == t277) || (!(t274 == t278) || (!(t275 == t279))))) = true then (some false) else (trucelaw16_AcctMoves.l0 k4 l0 a1 a2 a3 t242 y266 (y266.length : Int) (wrap64 (x88_4 + 1)))) = some r := H
                    have A85 := Aside0.mk A850
                    clear A850
                    by_cases c86 : (!(t272 == t276) || (!(t273 == t277) || (!(t274 == t278) || (!(t275 == t279))))) = true
                    ·rw [if_pos c86] at H
                     have c86b0 : (!(t272 == t276) || (!(t273 == t277) || (!(t274 == t278) || (!(t275 == t279))))) = true := c86
                     clear c86
                     exact absurd (hr_.out.symm.trans (Option.some.inj H).symm) (by simp)
                    ·rw [if_neg c86] at H
                     have c86b0 : (!(t272 == t276) || (!(t273 == t277) || (!(t274 == t278) || (!(t275 == t279))))) = false := by simpa using c86
                     clear c86
                     have H' := Aside0.mk H
                     clear H
                     have p270 : 0 ≤ (x88_4 : Int) := of_decide_eq_true (by first | (with_reducible assumption) | assumption)
                     have q270 : x88_4 < (y266.length : Int) := of_decide_eq_true (by first | (with_reducible assumption) | assumption)
                     obtain ⟨ad270, e270, hx270_0, hx270_1, hx270_2, hx270_3, hx270_4, hx270_5⟩ := at_T39 (Kd.R_reads' HO_86.out).2.2 x88_4 p270 q270
                     cases e270
                     replace p270 := eq_true p270
                     replace q270 := eq_true q270
                     try go_wp2_with (first | ((with_reducible refine gate_dst (N := 20) rfl ?_); refine box_event ?hg (N := 20) ?hd (cs := #[.string (⟨#[]⟩ : ByteArray), .string (⟨#[]⟩ : ByteArray), .int .u64 0, .int .u64 0, .int .u64 0, .int .u64 0]) (t := 39) ?hr ?_; (case hd => rfl); (case hg => rfl); (case hr => first | (go_simp; done) | (go_simp; rfl)); intro gb271 hg w87 hbox hb; have n0_ := Aside0.mk (Kd.V_below (Kd.V_elderB (by (with_reducible repeat (first | apply Kd.V_alloc | apply Kd.V_drewN | apply Kd.V_drew)); exact HO_13.out) gb271 (Nat.le_of_eq hg.symm)) hb); have n1_ := Aside0.mk (Kd.R_below (Kd.R_elderB (by (with_reducible repeat (first | apply Kd.R_alloc | apply Kd.R_drewN | apply Kd.R_drew)); exact HO_86.out) gb271 (Nat.le_of_eq hg.symm)) hb); have n2_ := Aside0.mk (blk_below (g := gb234) (o := .cells #[.int .u64 a4_0, .int .u64 a4_1, .int .u64 a4_2, .int .u64 a4_3] 25 (0, 0)) (by (with_reducible repeat (first | apply mlN | apply mlD | apply mlA)); exact BK234.out) hb); have n3_ := Aside0.mk (blk_below (g := gb252) (o := .cells #[.int .u64 t247, .int .u64 t248, .int .u64 t249, .int .u64 t250] 25 (0, 0)) (by (with_reducible repeat (first | apply mlN | apply mlD | apply mlA)); exact BK252.out) hb); have n4_ := Aside0.mk (blk_below (g := gb258) (o := .cells #[.int .u64 t253, .int .u64 t254, .int .u64 t255, .int .u64 t256] 25 (0, 0)) (by (with_reducible repeat (first | apply mlN | apply mlD | apply mlA)); exact BK258.out) hb); have n5_ := Aside0.mk (below_step (by repeat (first | (with_reducible first | exact HB.out | apply below_alloc | apply pw_below_drewN | apply below_drew1 | refine below_set ?_ GE234.out | refine below_set ?_ GE252.out | refine below_set ?_ GE258.out) | exact HB.out)) hb); have n6_ := Aside0.mk (hbox); have n7_ := Aside0.mk ((by rw [hg]; exact (below_size (by repeat (first | (with_reducible first | exact HB.out | apply below_alloc | apply pw_below_drewN | apply below_drew1 | refine below_set ?_ GE234.out | refine below_set ?_ GE252.out | refine below_set ?_ GE258.out) | exact HB.out))) : w.heap.size ≤ gb271)); have n8_ := Aside0.mk ((by rw [hg]; exact (below_size (by repeat (first | (with_reducible first | exact HB.out | apply below_alloc | apply pw_below_drewN | apply below_drew1 | refine below_set ?_ GE234.out | refine below_set ?_ GE252.out | refine below_set ?_ GE258.out) | exact HB.out))) : w.heap.size ≤ gb271)); have n9_ := Aside0.mk ((by rw [hg]; exact Nat.ne_of_lt (blk_lt (g := gb234) (o := .cells #[.int .u64 a4_0, .int .u64 a4_1, .int .u64 a4_2, .int .u64 a4_3] 25 (0, 0)) (by (with_reducible repeat (first | apply mlN | apply mlD | apply mlA)); exact BK234.out)) : gb234 ≠ gb271)); have n10_ := Aside0.mk ((by rw [hg]; exact Nat.ne_of_gt (blk_lt (g := gb234) (o := .cells #[.int .u64 a4_0, .int .u64 a4_1, .int .u64 a4_2, .int .u64 a4_3] 25 (0, 0)) (by (with_reducible repeat (first | apply mlN | apply mlD | apply mlA)); exact BK234.out)) : gb271 ≠ gb234)); have n11_ := Aside0.mk ((by rw [hg]; exact Nat.ne_of_lt (blk_lt (g := gb252) (o := .cells #[.int .u64 t247, .int .u64 t248, .int .u64 t249, .int .u64 t250] 25 (0, 0)) (by (with_reducible repeat (first | apply mlN | apply mlD | apply mlA)); exact BK252.out)) : gb252 ≠ gb271)); have n12_ := Aside0.mk ((by rw [hg]; exact Nat.ne_of_gt (blk_lt (g := gb252) (o := .cells #[.int .u64 t247, .int .u64 t248, .int .u64 t249, .int .u64 t250] 25 (0, 0)) (by (with_reducible repeat (first | apply mlN | apply mlD | apply mlA)); exact BK252.out)) : gb271 ≠ gb252)); have n13_ := Aside0.mk ((by rw [hg]; exact Nat.ne_of_lt (blk_lt (g := gb258) (o := .cells #[.int .u64 t253, .int .u64 t254, .int .u64 t255, .int .u64 t256] 25 (0, 0)) (by (with_reducible repeat (first | apply mlN | apply mlD | apply mlA)); exact BK258.out)) : gb258 ≠ gb271)); have n14_ := Aside0.mk ((by rw [hg]; exact Nat.ne_of_gt (blk_lt (g := gb258) (o := .cells #[.int .u64 t253, .int .u64 t254, .int .u64 t255, .int .u64 t256] 25 (0, 0)) (by (with_reducible repeat (first | apply mlN | apply mlD | apply mlA)); exact BK258.out)) : gb271 ≠ gb258)); clear HO_13; clear HO_86; clear BK234; clear BK252; clear BK258; clear HB; have HO_13 := n0_; have HO_86 := n1_; have BK234 := n2_; have BK252 := n3_; have BK258 := n4_; have HB := n5_; have BK271 := n6_; have GW271 := n7_; have GE271 := n8_; have NB234_271 := n9_; have NB271_234 := n10_; have NB252_271 := n11_; have NB271_252 := n12_; have NB258_271 := n13_; have NB271_258 := n14_; clear n0_ n1_ n2_ n3_ n4_ n5_ n6_ n7_ n8_ n9_ n10_ n11_ n12_ n13_ n14_; clear hb hbox hg; have hnb88 := NB271_234.out; have hnc88 := NB234_271.out; have hnb89 := NB271_252.out; have hnc89 := NB252_271.out; have hnb90 := NB271_258.out; have hnc90 := NB258_271.out; have hcz91_0 : w87.cell? ⟨gb271, 0, none⟩ = some (.string (⟨#[]⟩ : ByteArray)) := (blk_cell BK271.out 0).trans rfl; have hcz91_1 : w87.cell? ⟨gb271, 1, none⟩ = some (.string (⟨#[]⟩ : ByteArray)) := (blk_cell BK271.out 1).trans rfl; have hcz91_2 : w87.cell? ⟨gb271, 2, none⟩ = some (.int .u64 0) := (blk_cell BK271.out 2).trans rfl; have hcz91_3 : w87.cell? ⟨gb271, 3, none⟩ = some (.int .u64 0) := (blk_cell BK271.out 3).trans rfl; have hcz91_4 : w87.cell? ⟨gb271, 4, none⟩ = some (.int .u64 0) := (blk_cell BK271.out 4).trans rfl; have hcz91_5 : w87.cell? ⟨gb271, 5, none⟩ = some (.int .u64 0) := (blk_cell BK271.out 5).trans rfl; have hfz91_0 := blk_frozen BK271.out 0; have hfz91_1 := blk_frozen BK271.out 1; have hfz91_2 := blk_frozen BK271.out 2; have hfz91_3 := blk_frozen BK271.out 3; have hfz91_4 := blk_frozen BK271.out 4; have hfz91_5 := blk_frozen BK271.out 5))
                     have n0_ : Aside0 (Kd.V k39 39 ((((((w87.setCell ⟨gb271, 0, none⟩ (.string ((rd_T39 y266 x88_4).f0))).setCell ⟨gb271, 1, none⟩ (.string ((rd_T39 y266 x88_4).f1))).setCell ⟨gb271, 2, none⟩ (.int .u64 ((rd_T39 y266 x88_4).f2.f0))).setCell ⟨gb271, 3, none⟩ (.int .u64 ((rd_T39 y266 x88_4).f2.f1))).setCell ⟨gb271, 4, none⟩ (.int .u64 ((rd_T39 y266 x88_4).f2.f2))).setCell ⟨gb271, 5, none⟩ (.int .u64 ((rd_T39 y266 x88_4).f2.f3))) w.heap.size (fun k_ => some k_ ≠ (.slice (some ad270) y266.length co63 : Value).ownBlock ∧ k_ ≠ gb234 ∧ k_ ≠ gb252 ∧ k_ ≠ gb258 ∧ k_ ≠ gb271) (.slice Ao36 t242.length co36) t242) := ⟨by (with_reducible repeat (first | apply Kd.V_alloc | apply Kd.V_drewN | apply Kd.V_drew)); exact Kd.V_mono (Kd.V_far (p := ⟨gb271, 5, none⟩) (Kd.V_far (p := ⟨gb271, 4, none⟩) (Kd.V_far (p := ⟨gb271, 3, none⟩) (Kd.V_far (p := ⟨gb271, 2, none⟩) (Kd.V_far (p := ⟨gb271, 1, none⟩) (Kd.V_far (p := ⟨gb271, 0, none⟩) (Kd.V_mono HO_13.out (fun k_ hk => (⟨hk, hk.2⟩ : _ ∧ k_ ≠ gb271))) (fun _ hk => hk.2) (.string ((rd_T39 y266 x88_4).f0))) (fun _ hk => hk.2) (.string ((rd_T39 y266 x88_4).f1))) (fun _ hk => hk.2) (.int .u64 ((rd_T39 y266 x88_4).f2.f0))) (fun _ hk => hk.2) (.int .u64 ((rd_T39 y266 x88_4).f2.f1))) (fun _ hk => hk.2) (.int .u64 ((rd_T39 y266 x88_4).f2.f2))) (fun _ hk => hk.2) (.int .u64 ((rd_T39 y266 x88_4).f2.f3))) (fun _ hk => ⟨hk.1.1.1, ⟨hk.1.1.2.1, ⟨hk.1.1.2.2.1, ⟨hk.1.1.2.2.2, hk.1.2⟩⟩⟩⟩)⟩
                     have n1_ : Aside0 (Kd.R k39 39 ((((((w87.setCell ⟨gb271, 0, none⟩ (.string ((rd_T39 y266 x88_4).f0))).setCell ⟨gb271, 1, none⟩ (.string ((rd_T39 y266 x88_4).f1))).setCell ⟨gb271, 2, none⟩ (.int .u64 ((rd_T39 y266 x88_4).f2.f0))).setCell ⟨gb271, 3, none⟩ (.int .u64 ((rd_T39 y266 x88_4).f2.f1))).setCell ⟨gb271, 4, none⟩ (.int .u64 ((rd_T39 y266 x88_4).f2.f2))).setCell ⟨gb271, 5, none⟩ (.int .u64 ((rd_T39 y266 x88_4).f2.f3))) w.heap.size (fun k_ => k_ ≠ gb271) (.slice (some ad270) y266.length co63) y266) := ⟨by (with_reducible repeat (first | apply Kd.R_alloc | apply Kd.R_drewN | apply Kd.R_drew)); exact Kd.R_mono (Kd.R_far (p := ⟨gb271, 5, none⟩) (Kd.R_far (p := ⟨gb271, 4, none⟩) (Kd.R_far (p := ⟨gb271, 3, none⟩) (Kd.R_far (p := ⟨gb271, 2, none⟩) (Kd.R_far (p := ⟨gb271, 1, none⟩) (Kd.R_far (p := ⟨gb271, 0, none⟩) (Kd.R_mono HO_86.out (fun k_ hk => (⟨hk, hk.2⟩ : _ ∧ k_ ≠ gb271))) (fun _ hk => hk.2) (.string ((rd_T39 y266 x88_4).f0))) (fun _ hk => hk.2) (.string ((rd_T39 y266 x88_4).f1))) (fun _ hk => hk.2) (.int .u64 ((rd_T39 y266 x88_4).f2.f0))) (fun _ hk => hk.2) (.int .u64 ((rd_T39 y266 x88_4).f2.f1))) (fun _ hk => hk.2) (.int .u64 ((rd_T39 y266 x88_4).f2.f2))) (fun _ hk => hk.2) (.int .u64 ((rd_T39 y266 x88_4).f2.f3))) (fun _ hk => hk.1.2)⟩
                     have n2_ : Aside0 (((((((w87.setCell ⟨gb271, 0, none⟩ (.string ((rd_T39 y266 x88_4).f0))).setCell ⟨gb271, 1, none⟩ (.string ((rd_T39 y266 x88_4).f1))).setCell ⟨gb271, 2, none⟩ (.int .u64 ((rd_T39 y266 x88_4).f2.f0))).setCell ⟨gb271, 3, none⟩ (.int .u64 ((rd_T39 y266 x88_4).f2.f1))).setCell ⟨gb271, 4, none⟩ (.int .u64 ((rd_T39 y266 x88_4).f2.f2))).setCell ⟨gb271, 5, none⟩ (.int .u64 ((rd_T39 y266 x88_4).f2.f3))).heap[gb234]? = some (.cells #[.int .u64 a4_0, .int .u64 a4_1, .int .u64 a4_2, .int .u64 a4_3] 25 (0, 0))) := ⟨by (with_reducible repeat (first | apply mlN | apply mlD | apply mlA)); refine blk_far ?_ NB234_271.out _; (with_reducible repeat (first | apply mlN | apply mlD | apply mlA)); refine blk_far ?_ NB234_271.out _; (with_reducible repeat (first | apply mlN | apply mlD | apply mlA)); refine blk_far ?_ NB234_271.out _; (with_reducible repeat (first | apply mlN | apply mlD | apply mlA)); refine blk_far ?_ NB234_271.out _; (with_reducible repeat (first | apply mlN | apply mlD | apply mlA)); refine blk_far ?_ NB234_271.out _; (with_reducible repeat (first | apply mlN | apply mlD | apply mlA)); refine blk_far ?_ NB234_271.out _; (with_reducible repeat (first | apply mlN | apply mlD | apply mlA)); exact BK234.out⟩
                     have n3_ : Aside0 (((((((w87.setCell ⟨gb271, 0, none⟩ (.string ((rd_T39 y266 x88_4).f0))).setCell ⟨gb271, 1, none⟩ (.string ((rd_T39 y266 x88_4).f1))).setCell ⟨gb271, 2, none⟩ (.int .u64 ((rd_T39 y266 x88_4).f2.f0))).setCell ⟨gb271, 3, none⟩ (.int .u64 ((rd_T39 y266 x88_4).f2.f1))).setCell ⟨gb271, 4, none⟩ (.int .u64 ((rd_T39 y266 x88_4).f2.f2))).setCell ⟨gb271, 5, none⟩ (.int .u64 ((rd_T39 y266 x88_4).f2.f3))).heap[gb252]? = some (.cells #[.int .u64 t247, .int .u64 t248, .int .u64 t249, .int .u64 t250] 25 (0, 0))) := ⟨by (with_reducible repeat (first | apply mlN | apply mlD | apply mlA)); refine blk_far ?_ NB252_271.out _; (with_reducible repeat (first | apply mlN | apply mlD | apply mlA)); refine blk_far ?_ NB252_271.out _; (with_reducible repeat (first | apply mlN | apply mlD | apply mlA)); refine blk_far ?_ NB252_271.out _; (with_reducible repeat (first | apply mlN | apply mlD | apply mlA)); refine blk_far ?_ NB252_271.out _; (with_reducible repeat (first | apply mlN | apply mlD | apply mlA)); refine blk_far ?_ NB252_271.out _; (with_reducible repeat (first | apply mlN | apply mlD | apply mlA)); refine blk_far ?_ NB252_271.out _; (with_reducible repeat (first | apply mlN | apply mlD | apply mlA)); exact BK252.out⟩
                     have n4_ : Aside0 (((((((w87.setCell ⟨gb271, 0, none⟩ (.string ((rd_T39 y266 x88_4).f0))).setCell ⟨gb271, 1, none⟩ (.string ((rd_T39 y266 x88_4).f1))).setCell ⟨gb271, 2, none⟩ (.int .u64 ((rd_T39 y266 x88_4).f2.f0))).setCell ⟨gb271, 3, none⟩ (.int .u64 ((rd_T39 y266 x88_4).f2.f1))).setCell ⟨gb271, 4, none⟩ (.int .u64 ((rd_T39 y266 x88_4).f2.f2))).setCell ⟨gb271, 5, none⟩ (.int .u64 ((rd_T39 y266 x88_4).f2.f3))).heap[gb258]? = some (.cells #[.int .u64 t253, .int .u64 t254, .int .u64 t255, .int .u64 t256] 25 (0, 0))) := ⟨by (with_reducible repeat (first | apply mlN | apply mlD | apply mlA)); refine blk_far ?_ NB258_271.out _; (with_reducible repeat (first | apply mlN | apply mlD | apply mlA)); refine blk_far ?_ NB258_271.out _; (with_reducible repeat (first | apply mlN | apply mlD | apply mlA)); refine blk_far ?_ NB258_271.out _; (with_reducible repeat (first | apply mlN | apply mlD | apply mlA)); refine blk_far ?_ NB258_271.out _; (with_reducible repeat (first | apply mlN | apply mlD | apply mlA)); refine blk_far ?_ NB258_271.out _; (with_reducible repeat (first | apply mlN | apply mlD | apply mlA)); refine blk_far ?_ NB258_271.out _; (with_reducible repeat (first | apply mlN | apply mlD | apply mlA)); exact BK258.out⟩
                     have n5_ : Aside0 (((((((w87.setCell ⟨gb271, 0, none⟩ (.string ((rd_T39 y266 x88_4).f0))).setCell ⟨gb271, 1, none⟩ (.string ((rd_T39 y266 x88_4).f1))).setCell ⟨gb271, 2, none⟩ (.int .u64 ((rd_T39 y266 x88_4).f2.f0))).setCell ⟨gb271, 3, none⟩ (.int .u64 ((rd_T39 y266 x88_4).f2.f1))).setCell ⟨gb271, 4, none⟩ (.int .u64 ((rd_T39 y266 x88_4).f2.f2))).setCell ⟨gb271, 5, none⟩ (.int .u64 ((rd_T39 y266 x88_4).f2.f3))).heap[gb271]? = some (.cells #[.string ((rd_T39 y266 x88_4).f0), .string ((rd_T39 y266 x88_4).f1), .int .u64 ((rd_T39 y266 x88_4).f2.f0), .int .u64 ((rd_T39 y266 x88_4).f2.f1), .int .u64 ((rd_T39 y266 x88_4).f2.f2), .int .u64 ((rd_T39 y266 x88_4).f2.f3)] 39 (0, 0))) := ⟨by (with_reducible repeat (first | apply mlN | apply mlD | apply mlA)); refine blk_put (cs := #[.string ((rd_T39 y266 x88_4).f0), .string ((rd_T39 y266 x88_4).f1), .int .u64 ((rd_T39 y266 x88_4).f2.f0), .int .u64 ((rd_T39 y266 x88_4).f2.f1), .int .u64 ((rd_T39 y266 x88_4).f2.f2), .int .u64 0]) ?_ 5 _ rfl; (with_reducible repeat (first | apply mlN | apply mlD | apply mlA)); refine blk_put (cs := #[.string ((rd_T39 y266 x88_4).f0), .string ((rd_T39 y266 x88_4).f1), .int .u64 ((rd_T39 y266 x88_4).f2.f0), .int .u64 ((rd_T39 y266 x88_4).f2.f1), .int .u64 0, .int .u64 0]) ?_ 4 _ rfl; (with_reducible repeat (first | apply mlN | apply mlD | apply mlA)); refine blk_put (cs := #[.string ((rd_T39 y266 x88_4).f0), .string ((rd_T39 y266 x88_4).f1), .int .u64 ((rd_T39 y266 x88_4).f2.f0), .int .u64 0, .int .u64 0, .int .u64 0]) ?_ 3 _ rfl; (with_reducible repeat (first | apply mlN | apply mlD | apply mlA)); refine blk_put (cs := #[.string ((rd_T39 y266 x88_4).f0), .string ((rd_T39 y266 x88_4).f1), .int .u64 0, .int .u64 0, .int .u64 0, .int .u64 0]) ?_ 2 _ rfl; (with_reducible repeat (first | apply mlN | apply mlD | apply mlA)); refine blk_put (cs := #[.string ((rd_T39 y266 x88_4).f0), .string (⟨#[]⟩ : ByteArray), .int .u64 0, .int .u64 0, .int .u64 0, .int .u64 0]) ?_ 1 _ rfl; (with_reducible repeat (first | apply mlN | apply mlD | apply mlA)); refine blk_put (cs := #[.string (⟨#[]⟩ : ByteArray), .string (⟨#[]⟩ : ByteArray), .int .u64 0, .int .u64 0, .int .u64 0, .int .u64 0]) ?_ 0 _ rfl; (with_reducible repeat (first | apply mlN | apply mlD | apply mlA)); exact BK271.out⟩
                     have n6_ : Aside0 (Below w.heap.size w ((((((w87.setCell ⟨gb271, 0, none⟩ (.string ((rd_T39 y266 x88_4).f0))).setCell ⟨gb271, 1, none⟩ (.string ((rd_T39 y266 x88_4).f1))).setCell ⟨gb271, 2, none⟩ (.int .u64 ((rd_T39 y266 x88_4).f2.f0))).setCell ⟨gb271, 3, none⟩ (.int .u64 ((rd_T39 y266 x88_4).f2.f1))).setCell ⟨gb271, 4, none⟩ (.int .u64 ((rd_T39 y266 x88_4).f2.f2))).setCell ⟨gb271, 5, none⟩ (.int .u64 ((rd_T39 y266 x88_4).f2.f3)))) := ⟨by repeat (first | (with_reducible first | exact HB.out | apply below_alloc | apply pw_below_drewN | apply below_drew1 | refine below_set ?_ GE234.out | refine below_set ?_ GE252.out | refine below_set ?_ GE258.out | refine below_set ?_ GE271.out) | exact HB.out)⟩
                     (try clear HO_13)
                     (try clear HO_86)
                     (try clear BK234)
                     (try clear BK252)
                     (try clear BK258)
                     (try clear BK271)
                     (try clear HB)
                     generalize ((((((w87.setCell ⟨gb271, 0, none⟩ (.string ((rd_T39 y266 x88_4).f0))).setCell ⟨gb271, 1, none⟩ (.string ((rd_T39 y266 x88_4).f1))).setCell ⟨gb271, 2, none⟩ (.int .u64 ((rd_T39 y266 x88_4).f2.f0))).setCell ⟨gb271, 3, none⟩ (.int .u64 ((rd_T39 y266 x88_4).f2.f1))).setCell ⟨gb271, 4, none⟩ (.int .u64 ((rd_T39 y266 x88_4).f2.f2))).setCell ⟨gb271, 5, none⟩ (.int .u64 ((rd_T39 y266 x88_4).f2.f3))) = w92 at n0_ n1_ n2_ n3_ n4_ n5_ n6_ ⊢
                     have HO_13 := n0_
                     have HO_86 := n1_
                     have BK234 := n2_
                     have BK252 := n3_
                     have BK258 := n4_
                     have BK271 := n5_
                     have HB := n6_
                     clear n0_ n1_ n2_ n3_ n4_ n5_ n6_
                     have n0_ := Aside0.mk (Kd.V_drew HO_13.out)
                     have n1_ := Aside0.mk (Kd.R_drew HO_86.out)
                     have n2_ := Aside0.mk (blk_drew BK234.out)
                     have n3_ := Aside0.mk (blk_drew BK252.out)
                     have n4_ := Aside0.mk (blk_drew BK258.out)
                     have n5_ := Aside0.mk (blk_drew BK271.out)
                     have n6_ := Aside0.mk (below_drew1 HB.out)
                     clear HO_13
                     clear HO_86
                     clear BK234
                     clear BK252
                     clear BK258
                     clear BK271
                     clear HB
                     have HO_13 := n0_
                     have HO_86 := n1_
                     have BK234 := n2_
                     have BK252 := n3_
                     have BK258 := n4_
                     have BK271 := n5_
                     have HB := n6_
                     clear n0_ n1_ n2_ n3_ n4_ n5_ n6_
                     refine start_ (n := 31) (S := fun w' => w'.cell? ⟨gb271, 0, none⟩ = some (.string ((rd_T39 y266 x88_4).f0)) ∧ w'.cell? ⟨gb271, 1, none⟩ = some (.string ((rd_T39 y266 x88_4).f1)) ∧ w'.cell? ⟨gb271, 2, none⟩ = some (.int .u64 ((rd_T39 y266 x88_4).f2.f0)) ∧ w'.cell? ⟨gb271, 3, none⟩ = some (.int .u64 ((rd_T39 y266 x88_4).f2.f1)) ∧ w'.cell? ⟨gb271, 4, none⟩ = some (.int .u64 ((rd_T39 y266 x88_4).f2.f2)) ∧ w'.cell? ⟨gb271, 5, none⟩ = some (.int .u64 ((rd_T39 y266 x88_4).f2.f3))) (ds := []) mT0 (by kernel_rfl) rfl rfl ⟨(blk_cell BK271.out 0).trans rfl, (blk_cell BK271.out 1).trans rfl, (blk_cell BK271.out 2).trans rfl, (blk_cell BK271.out 3).trans rfl, (blk_cell BK271.out 4).trans rfl, (blk_cell BK271.out 5).trans rfl⟩ (fun hHeld => ?_); refine with_tabW trucelaw16_AcctMoves.tab14 trucelaw16_AcctMoves.bits14 (fun HT_ HW_ => ?_)
                     generalize w92.drew = w93 at HO_13 HO_86 BK234 BK252 BK258 BK271 HB hHeld ⊢
                     refine pure_ (i := 0) (N := some 92) (v := ?_) (a' := ?_) mT1 rfl rfl (any_of HT_.out (by kernel_rfl)) (fun _ _ _ h => h) (Or.inl ⟨by rfl, ?_⟩) ?_ ?_
                     rotate_left
                     ·intro w'
                      go_simp
                      with_reducible rfl
                     rotate_left
                     ·simp only [Act.put, List.setIfInBounds_toArray, List.set_cons_zero, List.set_cons_succ, i64_w, i32_w]
                      rfl
                     refine pure_ (i := 2) (N := some 94) (v := ?_) (a' := ?_) mT2 rfl rfl (any_of HT_.out (by kernel_rfl)) (fun _ _ _ h => h) (Or.inl ⟨by rfl, ?_⟩) ?_ ?_
                     rotate_left
                     ·intro w'
                      go_simp
                      with_reducible rfl
                     rotate_left
                     ·simp only [Act.put, List.setIfInBounds_toArray, List.set_cons_zero, List.set_cons_succ, i64_w, i32_w]
                      rfl
                     refine take_ (i := 1) (N := some 93) (v := ?_) (a' := ?_) mT3 rfl rfl (take_ofW HT_.out HW_.out (by kernel_rfl)) (fun _ _ _ h => h) (Or.inl ⟨by rfl, ?_⟩) hHeld ?_ ?_
                     rotate_left
                     ·rintro w' ⟨s0, s1, s2, s3, s4, s5⟩
                      go_simp
                      with_reducible rfl
                     rotate_left
                     ·simp only [Act.put, List.setIfInBounds_toArray, List.set_cons_zero, List.set_cons_succ, i64_w, i32_w]
                      rfl
                     refine pure_ (i := 3) (N := some 95) (v := ?_) (a' := ?_) mT4 rfl rfl (any_of HT_.out (by kernel_rfl)) (fun _ _ _ h => h) (Or.inl ⟨by rfl, ?_⟩) ?_ ?_
                     rotate_left
                     ·intro w'
                      go_simp
                      with_reducible rfl
                     rotate_left
                     ·simp only [Act.put, List.setIfInBounds_toArray, List.set_cons_zero, List.set_cons_succ, i64_w, i32_w]
                      rfl
                     refine pure_ (i := 4) (N := some 96) (v := ?_) (a' := ?_) mT5 rfl rfl (any_of HT_.out (by kernel_rfl)) (fun _ _ _ h => h) (Or.inl ⟨by rfl, ?_⟩) ?_ ?_
                     rotate_left
                     ·intro w'
                      go_simp
                      with_reducible rfl
                     rotate_left
                     ·simp only [Act.put, List.setIfInBounds_toArray, List.set_cons_zero, List.set_cons_succ, i64_w, i32_w]
                      rfl
                     refine pure_ (i := 5) (N := some 97) (v := ?_) (a' := ?_) mT6 rfl rfl (any_of HT_.out (by kernel_rfl)) (fun _ _ _ h => h) (Or.inl ⟨by rfl, ?_⟩) ?_ ?_
                     rotate_left
                     ·intro w'
                      go_simp
                      with_reducible rfl
                     rotate_left
                     ·simp only [Act.put, List.setIfInBounds_toArray, List.set_cons_zero, List.set_cons_succ, i64_w, i32_w]
                      rfl
                     refine pure_ (i := 7) (N := some 99) (v := ?_) (a' := ?_) mT22 rfl rfl (any_of HT_.out (by kernel_rfl)) (fun _ _ _ h => h) (Or.inl ⟨by rfl, ?_⟩) ?_ ?_
                     rotate_left
                     ·intro w'
                      go_simp
                      with_reducible rfl
                     rotate_left
                     ·simp only [Act.put, List.setIfInBounds_toArray, List.set_cons_zero, List.set_cons_succ, i64_w, i32_w]
                      rfl
                     refine take_ (i := 6) (N := some 98) (v := ?_) (a' := ?_) mT7 rfl rfl (take_ofW HT_.out HW_.out (by kernel_rfl)) (fun _ _ _ h => h) (Or.inl ⟨by rfl, ?_⟩) hHeld ?_ ?_
                     rotate_left
                     ·rintro w' ⟨s0, s1, s2, s3, s4, s5⟩
                      go_simp
                      with_reducible rfl
                     rotate_left
                     ·simp only [Act.put, List.setIfInBounds_toArray, List.set_cons_zero, List.set_cons_succ, i64_w, i32_w]
                      rfl
                     refine pure_ (i := 8) (N := some 100) (v := ?_) (a' := ?_) mT8 rfl rfl (any_of HT_.out (by kernel_rfl)) (fun _ _ _ h => h) (Or.inl ⟨by rfl, ?_⟩) ?_ ?_
                     rotate_left
                     ·intro w'
                      go_simp
                      with_reducible rfl
                     rotate_left
                     ·simp only [Act.put, List.setIfInBounds_toArray, List.set_cons_zero, List.set_cons_succ, i64_w, i32_w]
                      rfl
                     refine pure_ (i := 9) (N := some 101) (v := ?_) (a' := ?_) mT9 rfl rfl (any_of HT_.out (by kernel_rfl)) (fun _ _ _ h => h) (Or.inl ⟨by rfl, ?_⟩) ?_ ?_
                     rotate_left
                     ·intro w'
                      go_simp
                      with_reducible rfl
                     rotate_left
                     ·simp only [Act.put, List.setIfInBounds_toArray, List.set_cons_zero, List.set_cons_succ, i64_w, i32_w]
                      rfl
                     refine pure_ (i := 10) (N := some 102) (v := ?_) (a' := ?_) mT10 rfl rfl (any_of HT_.out (by kernel_rfl)) (fun _ _ _ h => h) (Or.inl ⟨by rfl, ?_⟩) ?_ ?_
                     rotate_left
                     ·intro w'
                      go_simp
                      with_reducible rfl
                     rotate_left
                     ·simp only [Act.put, List.setIfInBounds_toArray, List.set_cons_zero, List.set_cons_succ, i64_w, i32_w]
                      rfl
                     refine pure_ (i := 12) (N := some 104) (v := ?_) (a' := ?_) mT32 rfl rfl (any_of HT_.out (by kernel_rfl)) (fun _ _ _ h => h) (Or.inl ⟨by rfl, ?_⟩) ?_ ?_
                     rotate_left
                     ·intro w'
                      go_simp
                      with_reducible rfl
                     rotate_left
                     ·simp only [Act.put, List.setIfInBounds_toArray, List.set_cons_zero, List.set_cons_succ, i64_w, i32_w]
                      rfl
                     refine take_ (i := 11) (N := some 103) (v := ?_) (a' := ?_) mT11 rfl rfl (take_ofW HT_.out HW_.out (by kernel_rfl)) (fun _ _ _ h => h) (Or.inl ⟨by rfl, ?_⟩) hHeld ?_ ?_
                     rotate_left
                     ·rintro w' ⟨s0, s1, s2, s3, s4, s5⟩
                      go_simp
                      with_reducible rfl
                     rotate_left
                     ·simp only [Act.put, List.setIfInBounds_toArray, List.set_cons_zero, List.set_cons_succ, i64_w, i32_w]
                      rfl
                     refine pure_ (i := 13) (N := some 105) (v := ?_) (a' := ?_) mT12 rfl rfl (any_of HT_.out (by kernel_rfl)) (fun _ _ _ h => h) (Or.inl ⟨by rfl, ?_⟩) ?_ ?_
                     rotate_left
                     ·intro w'
                      go_simp
                      with_reducible rfl
                     rotate_left
                     ·simp only [Act.put, List.setIfInBounds_toArray, List.set_cons_zero, List.set_cons_succ, i64_w, i32_w]
                      rfl
                     refine pure_ (i := 14) (N := some 106) (v := ?_) (a' := ?_) mT13 rfl rfl (any_of HT_.out (by kernel_rfl)) (fun _ _ _ h => h) (Or.inl ⟨by rfl, ?_⟩) ?_ ?_
                     rotate_left
                     ·intro w'
                      go_simp
                      with_reducible rfl
                     rotate_left
                     ·simp only [Act.put, List.setIfInBounds_toArray, List.set_cons_zero, List.set_cons_succ, i64_w, i32_w]
                      rfl
                     refine pure_ (i := 15) (N := some 107) (v := ?_) (a' := ?_) mT14 rfl rfl (any_of HT_.out (by kernel_rfl)) (fun _ _ _ h => h) (Or.inl ⟨by rfl, ?_⟩) ?_ ?_
                     rotate_left
                     ·intro w'
                      go_simp
                      with_reducible rfl
                     rotate_left
                     ·simp only [Act.put, List.setIfInBounds_toArray, List.set_cons_zero, List.set_cons_succ, i64_w, i32_w]
                      rfl
                     refine pure_ (i := 16) (N := some 108) (v := ?_) (a' := ?_) mT15 rfl rfl (any_of HT_.out (by kernel_rfl)) (fun _ _ _ h => h) (Or.inl ⟨by rfl, ?_⟩) ?_ ?_
                     rotate_left
                     ·intro w'
                      go_simp
                      with_reducible rfl
                     rotate_left
                     ·simp only [Act.put, List.setIfInBounds_toArray, List.set_cons_zero, List.set_cons_succ, i64_w, i32_w]
                      rfl
                     refine pure_ (i := 17) (N := some 109) (v := ?_) (a' := ?_) mT16 rfl rfl (any_of HT_.out (by kernel_rfl)) (fun _ _ _ h => h) (Or.inl ⟨by rfl, ?_⟩) ?_ ?_
                     rotate_left
                     ·intro w'
                      go_simp
                      with_reducible rfl
                     rotate_left
                     ·simp only [Act.put, List.setIfInBounds_toArray, List.set_cons_zero, List.set_cons_succ, i64_w, i32_w]
                      rfl
                     refine pure_ (i := 18) (N := some 110) (v := ?_) (a' := ?_) mT17 rfl rfl (any_of HT_.out (by kernel_rfl)) (fun _ _ _ h => h) (Or.inl ⟨by rfl, ?_⟩) ?_ ?_
                     rotate_left
                     ·intro w'
                      go_simp
                      with_reducible rfl
                     rotate_left
                     ·simp only [Act.put, List.setIfInBounds_toArray, List.set_cons_zero, List.set_cons_succ, i64_w, i32_w]
                      rfl
                     refine pure_ (i := 20) (N := some 112) (v := ?_) (a' := ?_) mT33 rfl rfl (any_of HT_.out (by kernel_rfl)) (fun _ _ _ h => h) (Or.inl ⟨by rfl, ?_⟩) ?_ ?_
                     rotate_left
                     ·intro w'
                      go_simp
                      with_reducible rfl
                     rotate_left
                     ·simp only [Act.put, List.setIfInBounds_toArray, List.set_cons_zero, List.set_cons_succ, i64_w, i32_w]
                      rfl
                     refine pure_ (i := 23) (N := some 115) (v := ?_) (a' := ?_) mT34 rfl rfl (any_of HT_.out (by kernel_rfl)) (fun _ _ _ h => h) (Or.inl ⟨by rfl, ?_⟩) ?_ ?_
                     rotate_left
                     ·intro w'
                      go_simp
                      with_reducible rfl
                     rotate_left
                     ·simp only [Act.put, List.setIfInBounds_toArray, List.set_cons_zero, List.set_cons_succ, i64_w, i32_w]
                      rfl
                     refine pure_ (i := 24) (N := some 116) (v := ?_) (a' := ?_) mT35 rfl rfl (any_of HT_.out (by kernel_rfl)) (fun _ _ _ h => h) (Or.inl ⟨by rfl, ?_⟩) ?_ ?_
                     rotate_left
                     ·intro w'
                      go_simp
                      with_reducible rfl
                     rotate_left
                     ·simp only [Act.put, List.setIfInBounds_toArray, List.set_cons_zero, List.set_cons_succ, i64_w, i32_w]
                      rfl
                     refine pure_ (i := 26) (N := some 118) (v := ?_) (a' := ?_) mT36 rfl rfl (any_of HT_.out (by kernel_rfl)) (fun _ _ _ h => h) (Or.inl ⟨by rfl, ?_⟩) ?_ ?_
                     rotate_left
                     ·intro w'
                      go_simp
                      with_reducible rfl
                     rotate_left
                     ·simp only [Act.put, List.setIfInBounds_toArray, List.set_cons_zero, List.set_cons_succ, i64_w, i32_w]
                      rfl
                     refine take_ (i := 19) (N := some 111) (v := ?_) (a' := ?_) mT37 rfl rfl (take_ofW HT_.out HW_.out (by kernel_rfl)) (fun _ _ _ h => h) (Or.inl ⟨by rfl, ?_⟩) hHeld ?_ ?_
                     rotate_left
                     ·rintro w' ⟨s0, s1, s2, s3, s4, s5⟩
                      go_simp
                      with_reducible rfl
                     rotate_left
                     ·simp only [Act.put, List.setIfInBounds_toArray, List.set_cons_zero, List.set_cons_succ, i64_w, i32_w]
                      rfl
                     refine take_ (i := 21) (N := some 113) (v := ?_) (a' := ?_) mT38 rfl rfl (take_ofW HT_.out HW_.out (by kernel_rfl)) (fun _ _ _ h => h) (Or.inl ⟨by rfl, ?_⟩) hHeld ?_ ?_
                     rotate_left
                     ·rintro w' ⟨s0, s1, s2, s3, s4, s5⟩
                      go_simp
                      with_reducible rfl
                     rotate_left
                     ·simp only [Act.put, List.setIfInBounds_toArray, List.set_cons_zero, List.set_cons_succ, i64_w, i32_w]
                      rfl
                     refine take_ (i := 25) (N := some 117) (v := ?_) (a' := ?_) mT39 rfl rfl (take_ofW HT_.out HW_.out (by kernel_rfl)) (fun _ _ _ h => h) (Or.inl ⟨by rfl, ?_⟩) hHeld ?_ ?_
                     rotate_left
                     ·rintro w' ⟨s0, s1, s2, s3, s4, s5⟩
                      go_simp
                      with_reducible rfl
                     rotate_left
                     ·simp only [Act.put, List.setIfInBounds_toArray, List.set_cons_zero, List.set_cons_succ, i64_w, i32_w]
                      rfl
                     refine take_ (i := 27) (N := some 119) (v := ?_) (a' := ?_) mT40 rfl rfl (take_ofW HT_.out HW_.out (by kernel_rfl)) (fun _ _ _ h => h) (Or.inl ⟨by rfl, ?_⟩) hHeld ?_ ?_
                     rotate_left
                     ·rintro w' ⟨s0, s1, s2, s3, s4, s5⟩
                      go_simp
                      with_reducible rfl
                     rotate_left
                     ·simp only [Act.put, List.setIfInBounds_toArray, List.set_cons_zero, List.set_cons_succ, i64_w, i32_w]
                      rfl
                     refine one_ (i := 22) (N := some 114) mT18 rfl rfl (one_of HT_.out (by kernel_rfl)) (by decide) (fun K hK => ?_)
                     refine goes_ Try.func17 (by kernel_rfl) rfl #[.slice A0 l0.length c0, .string ((rd_T39 y266 x88_4).f0), .string ((rd_T39 y266 x88_4).f1)] (by rfl) rfl rfl (by (try simp only [List.map_toArray, List.map_cons, List.map_nil]); first | done | rfl | (simp only [List.length_drop, List.length_take]; rfl)) ?_
                     with_reducible refine (truceref16_Get.calls k4 _ _ l0 ((rd_T39 y266 x88_4).f0) ((rd_T39 y266 x88_4).f1) t272 t273 t274 t275 _ ?side1 ?side2 A84.out).mono ?_
                     (case side1 => repeat (first | exact (Kd.C_below HR0.out HB.out) | (with_reducible refine Kd.C_alloc ?_ _) | (with_reducible refine Kd.C_drewN ?_ _) | (with_reducible refine Kd.C_drew ?_)))
                     (case side2 => exact HC0.out)
                     rintro e w94 ⟨rfl, hb⟩
                     refine ⟨_, rfl, ?_⟩
                     have n0_ := Aside0.mk (Kd.V_below (by (with_reducible repeat (first | apply Kd.V_alloc | apply Kd.V_drewN | apply Kd.V_drew)); exact HO_13.out) hb)
                     have n1_ := Aside0.mk (Kd.R_below (by (with_reducible repeat (first | apply Kd.R_alloc | apply Kd.R_drewN | apply Kd.R_drew)); exact HO_86.out) hb)
                     have n2_ := Aside0.mk (blk_below (g := gb234) (o := .cells #[.int .u64 a4_0, .int .u64 a4_1, .int .u64 a4_2, .int .u64 a4_3] 25 (0, 0)) (by (with_reducible repeat (first | apply mlN | apply mlD | apply mlA)); exact BK234.out) hb)
                     have n3_ := Aside0.mk (blk_below (g := gb252) (o := .cells #[.int .u64 t247, .int .u64 t248, .int .u64 t249, .int .u64 t250] 25 (0, 0)) (by (with_reducible repeat (first | apply mlN | apply mlD | apply mlA)); exact BK252.out) hb)
                     have n4_ := Aside0.mk (blk_below (g := gb258) (o := .cells #[.int .u64 t253, .int .u64 t254, .int .u64 t255, .int .u64 t256] 25 (0, 0)) (by (with_reducible repeat (first | apply mlN | apply mlD | apply mlA)); exact BK258.out) hb)
                     have n5_ := Aside0.mk (blk_below (g := gb271) (o := .cells #[.string ((rd_T39 y266 x88_4).f0), .string ((rd_T39 y266 x88_4).f1), .int .u64 ((rd_T39 y266 x88_4).f2.f0), .int .u64 ((rd_T39 y266 x88_4).f2.f1), .int .u64 ((rd_T39 y266 x88_4).f2.f2), .int .u64 ((rd_T39 y266 x88_4).f2.f3)] 39 (0, 0)) (by (with_reducible repeat (first | apply mlN | apply mlD | apply mlA)); exact BK271.out) hb)
                     have n6_ := Aside0.mk (below_step (by repeat (first | (with_reducible first | exact HB.out | apply below_alloc | apply pw_below_drewN | apply below_drew1 | refine below_set ?_ GE234.out | refine below_set ?_ GE252.out | refine below_set ?_ GE258.out | refine below_set ?_ GE271.out) | exact HB.out)) hb)
                     clear HO_13
                     clear HO_86
                     clear BK234
                     clear BK252
                     clear BK258
                     clear BK271
                     clear HB
                     have HO_13 := n0_
                     have HO_86 := n1_
                     have BK234 := n2_
                     have BK252 := n3_
                     have BK258 := n4_
                     have BK271 := n5_
                     have HB := n6_
                     clear n0_ n1_ n2_ n3_ n4_ n5_ n6_
                     (try clear hb)
                     (try clear hb2)
                     (try clear hk)
                     (try clear hi)
                     refine hK.out _ _ ⟨(blk_cell BK271.out 0).trans rfl, (blk_cell BK271.out 1).trans rfl, (blk_cell BK271.out 2).trans rfl, (blk_cell BK271.out 3).trans rfl, (blk_cell BK271.out 4).trans rfl, (blk_cell BK271.out 5).trans rfl⟩ (fun hHeld => ?_)
                     clear hK K
                     refine norm_ (a' := ?_) ?_ ?_
                     rotate_left
                     ·show Act.put _ (some 114) _ = _
                      simp only [Act.put, List.setIfInBounds_toArray, List.set_cons_zero, List.set_cons_succ, i64_w, i32_w]
                      rfl
                     refine one_ (i := 28) (N := some 120) mT19 rfl rfl (one_of HT_.out (by kernel_rfl)) (by decide) (fun K hK => ?_)
                     refine goes_ Try.func17 (by kernel_rfl) rfl #[.slice Ao36 t242.length co36, .string ((rd_T39 y266 x88_4).f0), .string ((rd_T39 y266 x88_4).f1)] (by rfl) rfl rfl (by (try simp only [List.map_toArray, List.map_cons, List.map_nil]); first | done | rfl | (simp only [List.length_drop, List.length_take]; rfl)) ?_
                     with_reducible refine (truceref16_Get.calls k4 _ _ t242 ((rd_T39 y266 x88_4).f0) ((rd_T39 y266 x88_4).f1) t276 t277 t278 t279 _ ?side1 ?side2 A85.out).mono ?_
                     (case side1 => repeat (first | exact (Kd.V_reads' HO_13.out).2.2 | (with_reducible refine Kd.C_alloc ?_ _) | (with_reducible refine Kd.C_drewN ?_ _) | (with_reducible refine Kd.C_drew ?_)))
                     (case side2 => exact (Kd.V_reads' HO_13.out).2.1)
                     rintro e w95 ⟨rfl, hb⟩
                     refine ⟨_, rfl, ?_⟩
                     have n0_ := Aside0.mk (Kd.V_below (by (with_reducible repeat (first | apply Kd.V_alloc | apply Kd.V_drewN | apply Kd.V_drew)); exact HO_13.out) hb)
                     have n1_ := Aside0.mk (Kd.R_below (by (with_reducible repeat (first | apply Kd.R_alloc | apply Kd.R_drewN | apply Kd.R_drew)); exact HO_86.out) hb)
                     have n2_ := Aside0.mk (blk_below (g := gb234) (o := .cells #[.int .u64 a4_0, .int .u64 a4_1, .int .u64 a4_2, .int .u64 a4_3] 25 (0, 0)) (by (with_reducible repeat (first | apply mlN | apply mlD | apply mlA)); exact BK234.out) hb)
                     have n3_ := Aside0.mk (blk_below (g := gb252) (o := .cells #[.int .u64 t247, .int .u64 t248, .int .u64 t249, .int .u64 t250] 25 (0, 0)) (by (with_reducible repeat (first | apply mlN | apply mlD | apply mlA)); exact BK252.out) hb)
                     have n4_ := Aside0.mk (blk_below (g := gb258) (o := .cells #[.int .u64 t253, .int .u64 t254, .int .u64 t255, .int .u64 t256] 25 (0, 0)) (by (with_reducible repeat (first | apply mlN | apply mlD | apply mlA)); exact BK258.out) hb)
                     have n5_ := Aside0.mk (blk_below (g := gb271) (o := .cells #[.string ((rd_T39 y266 x88_4).f0), .string ((rd_T39 y266 x88_4).f1), .int .u64 ((rd_T39 y266 x88_4).f2.f0), .int .u64 ((rd_T39 y266 x88_4).f2.f1), .int .u64 ((rd_T39 y266 x88_4).f2.f2), .int .u64 ((rd_T39 y266 x88_4).f2.f3)] 39 (0, 0)) (by (with_reducible repeat (first | apply mlN | apply mlD | apply mlA)); exact BK271.out) hb)
                     have n6_ := Aside0.mk (below_step (by repeat (first | (with_reducible first | exact HB.out | apply below_alloc | apply pw_below_drewN | apply below_drew1 | refine below_set ?_ GE234.out | refine below_set ?_ GE252.out | refine below_set ?_ GE258.out | refine below_set ?_ GE271.out) | exact HB.out)) hb)
                     clear HO_13
                     clear HO_86
                     clear BK234
                     clear BK252
                     clear BK258
                     clear BK271
                     clear HB
                     have HO_13 := n0_
                     have HO_86 := n1_
                     have BK234 := n2_
                     have BK252 := n3_
                     have BK258 := n4_
                     have BK271 := n5_
                     have HB := n6_
                     clear n0_ n1_ n2_ n3_ n4_ n5_ n6_
                     (try clear hb)
                     (try clear hb2)
                     (try clear hk)
                     (try clear hi)
                     refine hK.out _ _ ⟨(blk_cell BK271.out 0).trans rfl, (blk_cell BK271.out 1).trans rfl, (blk_cell BK271.out 2).trans rfl, (blk_cell BK271.out 3).trans rfl, (blk_cell BK271.out 4).trans rfl, (blk_cell BK271.out 5).trans rfl⟩ (fun hHeld => ?_)
                     clear hK K
                     refine norm_ (a' := ?_) ?_ ?_
                     rotate_left
                     ·show Act.put _ (some 120) _ = _
                      simp only [Act.put, List.setIfInBounds_toArray, List.set_cons_zero, List.set_cons_succ, i64_w, i32_w]
                      rfl
                     refine pure_ (i := 29) (N := some 121) (v := ?_) (a' := ?_) mT20 rfl rfl (any_of HT_.out (by kernel_rfl)) (fun _ _ _ h => h) (Or.inl ⟨by rfl, ?_⟩) ?_ ?_
                     rotate_left
                     ·intro w'
                      go_simp
                      with_reducible rfl
                     rotate_left
                     ·simp only [Act.put, List.setIfInBounds_toArray, List.set_cons_zero, List.set_cons_succ, i64_w, i32_w]
                      rfl
                     refine pure_ (i := 30) (N := some 122) (v := ?_) (a' := ?_) mT21 rfl rfl (any_of HT_.out (by kernel_rfl)) (fun _ _ _ h => h) (Or.inl ⟨by rfl, ?_⟩) ?_ ?_
                     rotate_left
                     ·intro w'
                      go_simp
                      with_reducible rfl
                     rotate_left
                     ·simp only [Act.put, List.setIfInBounds_toArray, List.set_cons_zero, List.set_cons_succ, i64_w, i32_w]
                      rfl
                     refine done_ (done_of HT_.out (by kernel_rfl)) ?_
                     try go_wp2
                     go_roundg k4
                     case measure => have := HJ5.out; have := HJ18.out; have := HJ30.out; have := HK4.out; omega
                     case rel => exact ⟨(wrap64 (x88_4 + 1)), (by first | rfl | (simp; done) | (simp [*]; done)), H', ⟨by have := HJ5.out; have := HJ18.out; have := HJ30.out; have := HK4.out; omega⟩, ⟨by (with_reducible repeat (first | apply Kd.V_alloc | apply Kd.V_drewN | apply Kd.V_drew)); exact Kd.V_mono HO_13.out (fun _ hk => ⟨hk.1, ⟨hk.2.1, ⟨hk.2.2.1, hk.2.2.2.1⟩⟩⟩)⟩, ⟨by (with_reducible repeat (first | apply Kd.R_alloc | apply Kd.R_drewN | apply Kd.R_drew)); exact Kd.R_mono HO_86.out (fun _ hk => trivial)⟩, ⟨by (with_reducible repeat (first | apply mlN | apply mlD | apply mlA)); exact BK234.out⟩, ⟨by (with_reducible repeat (first | apply mlN | apply mlD | apply mlA)); exact BK252.out⟩, ⟨by (with_reducible repeat (first | apply mlN | apply mlD | apply mlA)); exact BK258.out⟩, ⟨by repeat (first | (with_reducible first | exact HB.out | apply below_alloc | apply pw_below_drewN | apply below_drew1 | refine below_set ?_ GE234.out | refine below_set ?_ GE252.out | refine below_set ?_ GE258.out | refine below_set ?_ GE271.out) | exact HB.out)⟩⟩
                 ·rw [if_neg c67] at H
                  have c67b0 : (((rd_T39 y266 x88_4).f1).toList == a3.toList) = false := beq_eq_false_iff_ne.mpr c67
                  have c67b1 : (((rd_T39 y266 x88_4).f1).toList != a3.toList) = true := bne_iff_ne.mpr c67
                  replace H := Option.bind_eq_some_iff.mp H
                  obtain ⟨⟨t280, t281, t282, t283⟩, A960, H⟩ := H
                  replace H : ((truceref16_Get.f k4 t242 ((rd_T39 y266 x88_4).f0) ((rd_T39 y266 x88_4).f1)).bind fun bt284 => (if (!(t280 == bt284.1) || (!(t281 == bt284.2.1) || (!(t282 == bt284.2.2.1) || (!(t283 == bt284.2.2.2))))) = true then (some false) else (trucelaw16_AcctMoves.l0 k4 l0 a1 a2 a3 t242 y266 (y266.length : Int) (wrap64 (x88_4 + 1))))) = some r := H
                  have A96 := Aside0.mk A960
                  clear A960
                  replace H := Option.bind_eq_some_iff.mp H
                  obtain ⟨⟨t284, t285, t286, t287⟩, A970, H⟩ := H
                  replace H : (if (!(t280 == t284) || (!(t281 == t285) || (!(t282 == t286) || (!(t283 == t287))))) = true then (some false) else (trucelaw16_AcctMoves.l0 k4 l0 a1 a2 a3 t242 y266 (y266.length : Int) (wrap64 (x88_4 + 1)))) = some r := H
                  have A97 := Aside0.mk A970
                  clear A970
                  by_cases c98 : (!(t280 == t284) || (!(t281 == t285) || (!(t282 == t286) || (!(t283 == t287))))) = true
                  ·rw [if_pos c98] at H
                   have c98b0 : (!(t280 == t284) || (!(t281 == t285) || (!(t282 == t286) || (!(t283 == t287))))) = true := c98
                   clear c98
                   exact absurd (hr_.out.symm.trans (Option.some.inj H).symm) (by simp)
                  ·rw [if_neg c98] at H
                   have c98b0 : (!(t280 == t284) || (!(t281 == t285) || (!(t282 == t286) || (!(t283 == t287))))) = false := by simpa using c98
                   clear c98
                   have H' := Aside0.mk H
                   clear H
                   have p270 : 0 ≤ (x88_4 : Int) := of_decide_eq_true (by first | (with_reducible assumption) | assumption)
                   have q270 : x88_4 < (y266.length : Int) := of_decide_eq_true (by first | (with_reducible assumption) | assumption)
                   obtain ⟨ad270, e270, hx270_0, hx270_1, hx270_2, hx270_3, hx270_4, hx270_5⟩ := at_T39 (Kd.R_reads' HO_86.out).2.2 x88_4 p270 q270
                   cases e270
                   replace p270 := eq_true p270
                   replace q270 := eq_true q270
                   try go_wp2_with (first | ((with_reducible refine gate_dst (N := 20) rfl ?_); refine box_event ?hg (N := 20) ?hd (cs := #[.string (⟨#[]⟩ : ByteArray), .string (⟨#[]⟩ : ByteArray), .int .u64 0, .int .u64 0, .int .u64 0, .int .u64 0]) (t := 39) ?hr ?_; (case hd => rfl); (case hg => rfl); (case hr => first | (go_simp; done) | (go_simp; rfl)); intro gb271 hg w99 hbox hb; have n0_ := Aside0.mk (Kd.V_below (Kd.V_elderB (by (with_reducible repeat (first | apply Kd.V_alloc | apply Kd.V_drewN | apply Kd.V_drew)); exact HO_13.out) gb271 (Nat.le_of_eq hg.symm)) hb); have n1_ := Aside0.mk (Kd.R_below (Kd.R_elderB (by (with_reducible repeat (first | apply Kd.R_alloc | apply Kd.R_drewN | apply Kd.R_drew)); exact HO_86.out) gb271 (Nat.le_of_eq hg.symm)) hb); have n2_ := Aside0.mk (blk_below (g := gb234) (o := .cells #[.int .u64 a4_0, .int .u64 a4_1, .int .u64 a4_2, .int .u64 a4_3] 25 (0, 0)) (by (with_reducible repeat (first | apply mlN | apply mlD | apply mlA)); exact BK234.out) hb); have n3_ := Aside0.mk (blk_below (g := gb252) (o := .cells #[.int .u64 t247, .int .u64 t248, .int .u64 t249, .int .u64 t250] 25 (0, 0)) (by (with_reducible repeat (first | apply mlN | apply mlD | apply mlA)); exact BK252.out) hb); have n4_ := Aside0.mk (blk_below (g := gb258) (o := .cells #[.int .u64 t253, .int .u64 t254, .int .u64 t255, .int .u64 t256] 25 (0, 0)) (by (with_reducible repeat (first | apply mlN | apply mlD | apply mlA)); exact BK258.out) hb); have n5_ := Aside0.mk (below_step (by repeat (first | (with_reducible first | exact HB.out | apply below_alloc | apply pw_below_drewN | apply below_drew1 | refine below_set ?_ GE234.out | refine below_set ?_ GE252.out | refine below_set ?_ GE258.out) | exact HB.out)) hb); have n6_ := Aside0.mk (hbox); have n7_ := Aside0.mk ((by rw [hg]; exact (below_size (by repeat (first | (with_reducible first | exact HB.out | apply below_alloc | apply pw_below_drewN | apply below_drew1 | refine below_set ?_ GE234.out | refine below_set ?_ GE252.out | refine below_set ?_ GE258.out) | exact HB.out))) : w.heap.size ≤ gb271)); have n8_ := Aside0.mk ((by rw [hg]; exact (below_size (by repeat (first | (with_reducible first | exact HB.out | apply below_alloc | apply pw_below_drewN | apply below_drew1 | refine below_set ?_ GE234.out | refine below_set ?_ GE252.out | refine below_set ?_ GE258.out) | exact HB.out))) : w.heap.size ≤ gb271)); have n9_ := Aside0.mk ((by rw [hg]; exact Nat.ne_of_lt (blk_lt (g := gb234) (o := .cells #[.int .u64 a4_0, .int .u64 a4_1, .int .u64 a4_2, .int .u64 a4_3] 25 (0, 0)) (by (with_reducible repeat (first | apply mlN | apply mlD | apply mlA)); exact BK234.out)) : gb234 ≠ gb271)); have n10_ := Aside0.mk ((by rw [hg]; exact Nat.ne_of_gt (blk_lt (g := gb234) (o := .cells #[.int .u64 a4_0, .int .u64 a4_1, .int .u64 a4_2, .int .u64 a4_3] 25 (0, 0)) (by (with_reducible repeat (first | apply mlN | apply mlD | apply mlA)); exact BK234.out)) : gb271 ≠ gb234)); have n11_ := Aside0.mk ((by rw [hg]; exact Nat.ne_of_lt (blk_lt (g := gb252) (o := .cells #[.int .u64 t247, .int .u64 t248, .int .u64 t249, .int .u64 t250] 25 (0, 0)) (by (with_reducible repeat (first | apply mlN | apply mlD | apply mlA)); exact BK252.out)) : gb252 ≠ gb271)); have n12_ := Aside0.mk ((by rw [hg]; exact Nat.ne_of_gt (blk_lt (g := gb252) (o := .cells #[.int .u64 t247, .int .u64 t248, .int .u64 t249, .int .u64 t250] 25 (0, 0)) (by (with_reducible repeat (first | apply mlN | apply mlD | apply mlA)); exact BK252.out)) : gb271 ≠ gb252)); have n13_ := Aside0.mk ((by rw [hg]; exact Nat.ne_of_lt (blk_lt (g := gb258) (o := .cells #[.int .u64 t253, .int .u64 t254, .int .u64 t255, .int .u64 t256] 25 (0, 0)) (by (with_reducible repeat (first | apply mlN | apply mlD | apply mlA)); exact BK258.out)) : gb258 ≠ gb271)); have n14_ := Aside0.mk ((by rw [hg]; exact Nat.ne_of_gt (blk_lt (g := gb258) (o := .cells #[.int .u64 t253, .int .u64 t254, .int .u64 t255, .int .u64 t256] 25 (0, 0)) (by (with_reducible repeat (first | apply mlN | apply mlD | apply mlA)); exact BK258.out)) : gb271 ≠ gb258)); clear HO_13; clear HO_86; clear BK234; clear BK252; clear BK258; clear HB; have HO_13 := n0_; have HO_86 := n1_; have BK234 := n2_; have BK252 := n3_; have BK258 := n4_; have HB := n5_; have BK271 := n6_; have GW271 := n7_; have GE271 := n8_; have NB234_271 := n9_; have NB271_234 := n10_; have NB252_271 := n11_; have NB271_252 := n12_; have NB258_271 := n13_; have NB271_258 := n14_; clear n0_ n1_ n2_ n3_ n4_ n5_ n6_ n7_ n8_ n9_ n10_ n11_ n12_ n13_ n14_; clear hb hbox hg; have hnb100 := NB271_234.out; have hnc100 := NB234_271.out; have hnb101 := NB271_252.out; have hnc101 := NB252_271.out; have hnb102 := NB271_258.out; have hnc102 := NB258_271.out; have hcz103_0 : w99.cell? ⟨gb271, 0, none⟩ = some (.string (⟨#[]⟩ : ByteArray)) := (blk_cell BK271.out 0).trans rfl; have hcz103_1 : w99.cell? ⟨gb271, 1, none⟩ = some (.string (⟨#[]⟩ : ByteArray)) := (blk_cell BK271.out 1).trans rfl; have hcz103_2 : w99.cell? ⟨gb271, 2, none⟩ = some (.int .u64 0) := (blk_cell BK271.out 2).trans rfl; have hcz103_3 : w99.cell? ⟨gb271, 3, none⟩ = some (.int .u64 0) := (blk_cell BK271.out 3).trans rfl; have hcz103_4 : w99.cell? ⟨gb271, 4, none⟩ = some (.int .u64 0) := (blk_cell BK271.out 4).trans rfl; have hcz103_5 : w99.cell? ⟨gb271, 5, none⟩ = some (.int .u64 0) := (blk_cell BK271.out 5).trans rfl; have hfz103_0 := blk_frozen BK271.out 0; have hfz103_1 := blk_frozen BK271.out 1; have hfz103_2 := blk_frozen BK271.out 2; have hfz103_3 := blk_frozen BK271.out 3; have hfz103_4 := blk_frozen BK271.out 4; have hfz103_5 := blk_frozen BK271.out 5))
                   have n0_ : Aside0 (Kd.V k39 39 ((((((w99.setCell ⟨gb271, 0, none⟩ (.string ((rd_T39 y266 x88_4).f0))).setCell ⟨gb271, 1, none⟩ (.string ((rd_T39 y266 x88_4).f1))).setCell ⟨gb271, 2, none⟩ (.int .u64 ((rd_T39 y266 x88_4).f2.f0))).setCell ⟨gb271, 3, none⟩ (.int .u64 ((rd_T39 y266 x88_4).f2.f1))).setCell ⟨gb271, 4, none⟩ (.int .u64 ((rd_T39 y266 x88_4).f2.f2))).setCell ⟨gb271, 5, none⟩ (.int .u64 ((rd_T39 y266 x88_4).f2.f3))) w.heap.size (fun k_ => some k_ ≠ (.slice (some ad270) y266.length co63 : Value).ownBlock ∧ k_ ≠ gb234 ∧ k_ ≠ gb252 ∧ k_ ≠ gb258 ∧ k_ ≠ gb271) (.slice Ao36 t242.length co36) t242) := ⟨by (with_reducible repeat (first | apply Kd.V_alloc | apply Kd.V_drewN | apply Kd.V_drew)); exact Kd.V_mono (Kd.V_far (p := ⟨gb271, 5, none⟩) (Kd.V_far (p := ⟨gb271, 4, none⟩) (Kd.V_far (p := ⟨gb271, 3, none⟩) (Kd.V_far (p := ⟨gb271, 2, none⟩) (Kd.V_far (p := ⟨gb271, 1, none⟩) (Kd.V_far (p := ⟨gb271, 0, none⟩) (Kd.V_mono HO_13.out (fun k_ hk => (⟨hk, hk.2⟩ : _ ∧ k_ ≠ gb271))) (fun _ hk => hk.2) (.string ((rd_T39 y266 x88_4).f0))) (fun _ hk => hk.2) (.string ((rd_T39 y266 x88_4).f1))) (fun _ hk => hk.2) (.int .u64 ((rd_T39 y266 x88_4).f2.f0))) (fun _ hk => hk.2) (.int .u64 ((rd_T39 y266 x88_4).f2.f1))) (fun _ hk => hk.2) (.int .u64 ((rd_T39 y266 x88_4).f2.f2))) (fun _ hk => hk.2) (.int .u64 ((rd_T39 y266 x88_4).f2.f3))) (fun _ hk => ⟨hk.1.1.1, ⟨hk.1.1.2.1, ⟨hk.1.1.2.2.1, ⟨hk.1.1.2.2.2, hk.1.2⟩⟩⟩⟩)⟩
                   have n1_ : Aside0 (Kd.R k39 39 ((((((w99.setCell ⟨gb271, 0, none⟩ (.string ((rd_T39 y266 x88_4).f0))).setCell ⟨gb271, 1, none⟩ (.string ((rd_T39 y266 x88_4).f1))).setCell ⟨gb271, 2, none⟩ (.int .u64 ((rd_T39 y266 x88_4).f2.f0))).setCell ⟨gb271, 3, none⟩ (.int .u64 ((rd_T39 y266 x88_4).f2.f1))).setCell ⟨gb271, 4, none⟩ (.int .u64 ((rd_T39 y266 x88_4).f2.f2))).setCell ⟨gb271, 5, none⟩ (.int .u64 ((rd_T39 y266 x88_4).f2.f3))) w.heap.size (fun k_ => k_ ≠ gb271) (.slice (some ad270) y266.length co63) y266) := ⟨by (with_reducible repeat (first | apply Kd.R_alloc | apply Kd.R_drewN | apply Kd.R_drew)); exact Kd.R_mono (Kd.R_far (p := ⟨gb271, 5, none⟩) (Kd.R_far (p := ⟨gb271, 4, none⟩) (Kd.R_far (p := ⟨gb271, 3, none⟩) (Kd.R_far (p := ⟨gb271, 2, none⟩) (Kd.R_far (p := ⟨gb271, 1, none⟩) (Kd.R_far (p := ⟨gb271, 0, none⟩) (Kd.R_mono HO_86.out (fun k_ hk => (⟨hk, hk.2⟩ : _ ∧ k_ ≠ gb271))) (fun _ hk => hk.2) (.string ((rd_T39 y266 x88_4).f0))) (fun _ hk => hk.2) (.string ((rd_T39 y266 x88_4).f1))) (fun _ hk => hk.2) (.int .u64 ((rd_T39 y266 x88_4).f2.f0))) (fun _ hk => hk.2) (.int .u64 ((rd_T39 y266 x88_4).f2.f1))) (fun _ hk => hk.2) (.int .u64 ((rd_T39 y266 x88_4).f2.f2))) (fun _ hk => hk.2) (.int .u64 ((rd_T39 y266 x88_4).f2.f3))) (fun _ hk => hk.1.2)⟩
                   have n2_ : Aside0 (((((((w99.setCell ⟨gb271, 0, none⟩ (.string ((rd_T39 y266 x88_4).f0))).setCell ⟨gb271, 1, none⟩ (.string ((rd_T39 y266 x88_4).f1))).setCell ⟨gb271, 2, none⟩ (.int .u64 ((rd_T39 y266 x88_4).f2.f0))).setCell ⟨gb271, 3, none⟩ (.int .u64 ((rd_T39 y266 x88_4).f2.f1))).setCell ⟨gb271, 4, none⟩ (.int .u64 ((rd_T39 y266 x88_4).f2.f2))).setCell ⟨gb271, 5, none⟩ (.int .u64 ((rd_T39 y266 x88_4).f2.f3))).heap[gb234]? = some (.cells #[.int .u64 a4_0, .int .u64 a4_1, .int .u64 a4_2, .int .u64 a4_3] 25 (0, 0))) := ⟨by (with_reducible repeat (first | apply mlN | apply mlD | apply mlA)); refine blk_far ?_ NB234_271.out _; (with_reducible repeat (first | apply mlN | apply mlD | apply mlA)); refine blk_far ?_ NB234_271.out _; (with_reducible repeat (first | apply mlN | apply mlD | apply mlA)); refine blk_far ?_ NB234_271.out _; (with_reducible repeat (first | apply mlN | apply mlD | apply mlA)); refine blk_far ?_ NB234_271.out _; (with_reducible repeat (first | apply mlN | apply mlD | apply mlA)); refine blk_far ?_ NB234_271.out _; (with_reducible repeat (first | apply mlN | apply mlD | apply mlA)); refine blk_far ?_ NB234_271.out _; (with_reducible repeat (first | apply mlN | apply mlD | apply mlA)); exact BK234.out⟩
                   have n3_ : Aside0 (((((((w99.setCell ⟨gb271, 0, none⟩ (.string ((rd_T39 y266 x88_4).f0))).setCell ⟨gb271, 1, none⟩ (.string ((rd_T39 y266 x88_4).f1))).setCell ⟨gb271, 2, none⟩ (.int .u64 ((rd_T39 y266 x88_4).f2.f0))).setCell ⟨gb271, 3, none⟩ (.int .u64 ((rd_T39 y266 x88_4).f2.f1))).setCell ⟨gb271, 4, none⟩ (.int .u64 ((rd_T39 y266 x88_4).f2.f2))).setCell ⟨gb271, 5, none⟩ (.int .u64 ((rd_T39 y266 x88_4).f2.f3))).heap[gb252]? = some (.cells #[.int .u64 t247, .int .u64 t248, .int .u64 t249, .int .u64 t250] 25 (0, 0))) := ⟨by (with_reducible repeat (first | apply mlN | apply mlD | apply mlA)); refine blk_far ?_ NB252_271.out _; (with_reducible repeat (first | apply mlN | apply mlD | apply mlA)); refine blk_far ?_ NB252_271.out _; (with_reducible repeat (first | apply mlN | apply mlD | apply mlA)); refine blk_far ?_ NB252_271.out _; (with_reducible repeat (first | apply mlN | apply mlD | apply mlA)); refine blk_far ?_ NB252_271.out _; (with_reducible repeat (first | apply mlN | apply mlD | apply mlA)); refine blk_far ?_ NB252_271.out _; (with_reducible repeat (first | apply mlN | apply mlD | apply mlA)); refine blk_far ?_ NB252_271.out _; (with_reducible repeat (first | apply mlN | apply mlD | apply mlA)); exact BK252.out⟩
                   have n4_ : Aside0 (((((((w99.setCell ⟨gb271, 0, none⟩ (.string ((rd_T39 y266 x88_4).f0))).setCell ⟨gb271, 1, none⟩ (.string ((rd_T39 y266 x88_4).f1))).setCell ⟨gb271, 2, none⟩ (.int .u64 ((rd_T39 y266 x88_4).f2.f0))).setCell ⟨gb271, 3, none⟩ (.int .u64 ((rd_T39 y266 x88_4).f2.f1))).setCell ⟨gb271, 4, none⟩ (.int .u64 ((rd_T39 y266 x88_4).f2.f2))).setCell ⟨gb271, 5, none⟩ (.int .u64 ((rd_T39 y266 x88_4).f2.f3))).heap[gb258]? = some (.cells #[.int .u64 t253, .int .u64 t254, .int .u64 t255, .int .u64 t256] 25 (0, 0))) := ⟨by (with_reducible repeat (first | apply mlN | apply mlD | apply mlA)); refine blk_far ?_ NB258_271.out _; (with_reducible repeat (first | apply mlN | apply mlD | apply mlA)); refine blk_far ?_ NB258_271.out _; (with_reducible repeat (first | apply mlN | apply mlD | apply mlA)); refine blk_far ?_ NB258_271.out _; (with_reducible repeat (first | apply mlN | apply mlD | apply mlA)); refine blk_far ?_ NB258_271.out _; (with_reducible repeat (first | apply mlN | apply mlD | apply mlA)); refine blk_far ?_ NB258_271.out _; (with_reducible repeat (first | apply mlN | apply mlD | apply mlA)); refine blk_far ?_ NB258_271.out _; (with_reducible repeat (first | apply mlN | apply mlD | apply mlA)); exact BK258.out⟩
                   have n5_ : Aside0 (((((((w99.setCell ⟨gb271, 0, none⟩ (.string ((rd_T39 y266 x88_4).f0))).setCell ⟨gb271, 1, none⟩ (.string ((rd_T39 y266 x88_4).f1))).setCell ⟨gb271, 2, none⟩ (.int .u64 ((rd_T39 y266 x88_4).f2.f0))).setCell ⟨gb271, 3, none⟩ (.int .u64 ((rd_T39 y266 x88_4).f2.f1))).setCell ⟨gb271, 4, none⟩ (.int .u64 ((rd_T39 y266 x88_4).f2.f2))).setCell ⟨gb271, 5, none⟩ (.int .u64 ((rd_T39 y266 x88_4).f2.f3))).heap[gb271]? = some (.cells #[.string ((rd_T39 y266 x88_4).f0), .string ((rd_T39 y266 x88_4).f1), .int .u64 ((rd_T39 y266 x88_4).f2.f0), .int .u64 ((rd_T39 y266 x88_4).f2.f1), .int .u64 ((rd_T39 y266 x88_4).f2.f2), .int .u64 ((rd_T39 y266 x88_4).f2.f3)] 39 (0, 0))) := ⟨by (with_reducible repeat (first | apply mlN | apply mlD | apply mlA)); refine blk_put (cs := #[.string ((rd_T39 y266 x88_4).f0), .string ((rd_T39 y266 x88_4).f1), .int .u64 ((rd_T39 y266 x88_4).f2.f0), .int .u64 ((rd_T39 y266 x88_4).f2.f1), .int .u64 ((rd_T39 y266 x88_4).f2.f2), .int .u64 0]) ?_ 5 _ rfl; (with_reducible repeat (first | apply mlN | apply mlD | apply mlA)); refine blk_put (cs := #[.string ((rd_T39 y266 x88_4).f0), .string ((rd_T39 y266 x88_4).f1), .int .u64 ((rd_T39 y266 x88_4).f2.f0), .int .u64 ((rd_T39 y266 x88_4).f2.f1), .int .u64 0, .int .u64 0]) ?_ 4 _ rfl; (with_reducible repeat (first | apply mlN | apply mlD | apply mlA)); refine blk_put (cs := #[.string ((rd_T39 y266 x88_4).f0), .string ((rd_T39 y266 x88_4).f1), .int .u64 ((rd_T39 y266 x88_4).f2.f0), .int .u64 0, .int .u64 0, .int .u64 0]) ?_ 3 _ rfl; (with_reducible repeat (first | apply mlN | apply mlD | apply mlA)); refine blk_put (cs := #[.string ((rd_T39 y266 x88_4).f0), .string ((rd_T39 y266 x88_4).f1), .int .u64 0, .int .u64 0, .int .u64 0, .int .u64 0]) ?_ 2 _ rfl; (with_reducible repeat (first | apply mlN | apply mlD | apply mlA)); refine blk_put (cs := #[.string ((rd_T39 y266 x88_4).f0), .string (⟨#[]⟩ : ByteArray), .int .u64 0, .int .u64 0, .int .u64 0, .int .u64 0]) ?_ 1 _ rfl; (with_reducible repeat (first | apply mlN | apply mlD | apply mlA)); refine blk_put (cs := #[.string (⟨#[]⟩ : ByteArray), .string (⟨#[]⟩ : ByteArray), .int .u64 0, .int .u64 0, .int .u64 0, .int .u64 0]) ?_ 0 _ rfl; (with_reducible repeat (first | apply mlN | apply mlD | apply mlA)); exact BK271.out⟩
                   have n6_ : Aside0 (Below w.heap.size w ((((((w99.setCell ⟨gb271, 0, none⟩ (.string ((rd_T39 y266 x88_4).f0))).setCell ⟨gb271, 1, none⟩ (.string ((rd_T39 y266 x88_4).f1))).setCell ⟨gb271, 2, none⟩ (.int .u64 ((rd_T39 y266 x88_4).f2.f0))).setCell ⟨gb271, 3, none⟩ (.int .u64 ((rd_T39 y266 x88_4).f2.f1))).setCell ⟨gb271, 4, none⟩ (.int .u64 ((rd_T39 y266 x88_4).f2.f2))).setCell ⟨gb271, 5, none⟩ (.int .u64 ((rd_T39 y266 x88_4).f2.f3)))) := ⟨by repeat (first | (with_reducible first | exact HB.out | apply below_alloc | apply pw_below_drewN | apply below_drew1 | refine below_set ?_ GE234.out | refine below_set ?_ GE252.out | refine below_set ?_ GE258.out | refine below_set ?_ GE271.out) | exact HB.out)⟩
                   (try clear HO_13)
                   (try clear HO_86)
                   (try clear BK234)
                   (try clear BK252)
                   (try clear BK258)
                   (try clear BK271)
                   (try clear HB)
                   generalize ((((((w99.setCell ⟨gb271, 0, none⟩ (.string ((rd_T39 y266 x88_4).f0))).setCell ⟨gb271, 1, none⟩ (.string ((rd_T39 y266 x88_4).f1))).setCell ⟨gb271, 2, none⟩ (.int .u64 ((rd_T39 y266 x88_4).f2.f0))).setCell ⟨gb271, 3, none⟩ (.int .u64 ((rd_T39 y266 x88_4).f2.f1))).setCell ⟨gb271, 4, none⟩ (.int .u64 ((rd_T39 y266 x88_4).f2.f2))).setCell ⟨gb271, 5, none⟩ (.int .u64 ((rd_T39 y266 x88_4).f2.f3))) = w104 at n0_ n1_ n2_ n3_ n4_ n5_ n6_ ⊢
                   have HO_13 := n0_
                   have HO_86 := n1_
                   have BK234 := n2_
                   have BK252 := n3_
                   have BK258 := n4_
                   have BK271 := n5_
                   have HB := n6_
                   clear n0_ n1_ n2_ n3_ n4_ n5_ n6_
                   have n0_ := Aside0.mk (Kd.V_drew HO_13.out)
                   have n1_ := Aside0.mk (Kd.R_drew HO_86.out)
                   have n2_ := Aside0.mk (blk_drew BK234.out)
                   have n3_ := Aside0.mk (blk_drew BK252.out)
                   have n4_ := Aside0.mk (blk_drew BK258.out)
                   have n5_ := Aside0.mk (blk_drew BK271.out)
                   have n6_ := Aside0.mk (below_drew1 HB.out)
                   clear HO_13
                   clear HO_86
                   clear BK234
                   clear BK252
                   clear BK258
                   clear BK271
                   clear HB
                   have HO_13 := n0_
                   have HO_86 := n1_
                   have BK234 := n2_
                   have BK252 := n3_
                   have BK258 := n4_
                   have BK271 := n5_
                   have HB := n6_
                   clear n0_ n1_ n2_ n3_ n4_ n5_ n6_
                   refine start_ (n := 31) (S := fun w' => w'.cell? ⟨gb271, 0, none⟩ = some (.string ((rd_T39 y266 x88_4).f0)) ∧ w'.cell? ⟨gb271, 1, none⟩ = some (.string ((rd_T39 y266 x88_4).f1)) ∧ w'.cell? ⟨gb271, 2, none⟩ = some (.int .u64 ((rd_T39 y266 x88_4).f2.f0)) ∧ w'.cell? ⟨gb271, 3, none⟩ = some (.int .u64 ((rd_T39 y266 x88_4).f2.f1)) ∧ w'.cell? ⟨gb271, 4, none⟩ = some (.int .u64 ((rd_T39 y266 x88_4).f2.f2)) ∧ w'.cell? ⟨gb271, 5, none⟩ = some (.int .u64 ((rd_T39 y266 x88_4).f2.f3))) (ds := []) mT0 (by kernel_rfl) rfl rfl ⟨(blk_cell BK271.out 0).trans rfl, (blk_cell BK271.out 1).trans rfl, (blk_cell BK271.out 2).trans rfl, (blk_cell BK271.out 3).trans rfl, (blk_cell BK271.out 4).trans rfl, (blk_cell BK271.out 5).trans rfl⟩ (fun hHeld => ?_); refine with_tabW trucelaw16_AcctMoves.tab14 trucelaw16_AcctMoves.bits14 (fun HT_ HW_ => ?_)
                   generalize w104.drew = w105 at HO_13 HO_86 BK234 BK252 BK258 BK271 HB hHeld ⊢
                   refine pure_ (i := 0) (N := some 92) (v := ?_) (a' := ?_) mT1 rfl rfl (any_of HT_.out (by kernel_rfl)) (fun _ _ _ h => h) (Or.inl ⟨by rfl, ?_⟩) ?_ ?_
                   rotate_left
                   ·intro w'
                    go_simp
                    with_reducible rfl
                   rotate_left
                   ·simp only [Act.put, List.setIfInBounds_toArray, List.set_cons_zero, List.set_cons_succ, i64_w, i32_w]
                    rfl
                   refine pure_ (i := 2) (N := some 94) (v := ?_) (a' := ?_) mT2 rfl rfl (any_of HT_.out (by kernel_rfl)) (fun _ _ _ h => h) (Or.inl ⟨by rfl, ?_⟩) ?_ ?_
                   rotate_left
                   ·intro w'
                    go_simp
                    with_reducible rfl
                   rotate_left
                   ·simp only [Act.put, List.setIfInBounds_toArray, List.set_cons_zero, List.set_cons_succ, i64_w, i32_w]
                    rfl
                   refine take_ (i := 1) (N := some 93) (v := ?_) (a' := ?_) mT3 rfl rfl (take_ofW HT_.out HW_.out (by kernel_rfl)) (fun _ _ _ h => h) (Or.inl ⟨by rfl, ?_⟩) hHeld ?_ ?_
                   rotate_left
                   ·rintro w' ⟨s0, s1, s2, s3, s4, s5⟩
                    go_simp
                    with_reducible rfl
                   rotate_left
                   ·simp only [Act.put, List.setIfInBounds_toArray, List.set_cons_zero, List.set_cons_succ, i64_w, i32_w]
                    rfl
                   refine pure_ (i := 3) (N := some 95) (v := ?_) (a' := ?_) mT4 rfl rfl (any_of HT_.out (by kernel_rfl)) (fun _ _ _ h => h) (Or.inl ⟨by rfl, ?_⟩) ?_ ?_
                   rotate_left
                   ·intro w'
                    go_simp
                    with_reducible rfl
                   rotate_left
                   ·simp only [Act.put, List.setIfInBounds_toArray, List.set_cons_zero, List.set_cons_succ, i64_w, i32_w]
                    rfl
                   refine pure_ (i := 4) (N := some 96) (v := ?_) (a' := ?_) mT5 rfl rfl (any_of HT_.out (by kernel_rfl)) (fun _ _ _ h => h) (Or.inl ⟨by rfl, ?_⟩) ?_ ?_
                   rotate_left
                   ·intro w'
                    go_simp
                    with_reducible rfl
                   rotate_left
                   ·simp only [Act.put, List.setIfInBounds_toArray, List.set_cons_zero, List.set_cons_succ, i64_w, i32_w]
                    rfl
                   refine pure_ (i := 5) (N := some 97) (v := undef) (a' := ?_) mT6 rfl rfl (any_of HT_.out (by kernel_rfl)) (fun _ _ _ h => h) (Or.inr ⟨by rfl, rfl⟩) ?_ ?_
                   rotate_left
                   ·simp only [Act.put, List.setIfInBounds_toArray, List.set_cons_zero, List.set_cons_succ, i64_w, i32_w]
                    rfl
                   refine pure_ (i := 6) (N := some 98) (v := undef) (a' := ?_) mT41 rfl rfl (any_of HT_.out (by kernel_rfl)) (fun _ _ _ h => h) (Or.inr ⟨by rfl, rfl⟩) ?_ ?_
                   rotate_left
                   ·simp only [Act.put, List.setIfInBounds_toArray, List.set_cons_zero, List.set_cons_succ, i64_w, i32_w]
                    rfl
                   refine pure_ (i := 7) (N := some 99) (v := undef) (a' := ?_) mT7 rfl rfl (any_of HT_.out (by kernel_rfl)) (fun _ _ _ h => h) (Or.inr ⟨by rfl, rfl⟩) ?_ ?_
                   rotate_left
                   ·simp only [Act.put, List.setIfInBounds_toArray, List.set_cons_zero, List.set_cons_succ, i64_w, i32_w]
                    rfl
                   refine pure_ (i := 8) (N := some 100) (v := undef) (a' := ?_) mT8 rfl rfl (any_of HT_.out (by kernel_rfl)) (fun _ _ _ h => h) (Or.inr ⟨by rfl, rfl⟩) ?_ ?_
                   rotate_left
                   ·simp only [Act.put, List.setIfInBounds_toArray, List.set_cons_zero, List.set_cons_succ, i64_w, i32_w]
                    rfl
                   refine pure_ (i := 9) (N := some 101) (v := undef) (a' := ?_) mT9 rfl rfl (any_of HT_.out (by kernel_rfl)) (fun _ _ _ h => h) (Or.inr ⟨by rfl, rfl⟩) ?_ ?_
                   rotate_left
                   ·simp only [Act.put, List.setIfInBounds_toArray, List.set_cons_zero, List.set_cons_succ, i64_w, i32_w]
                    rfl
                   refine pure_ (i := 10) (N := some 102) (v := undef) (a' := ?_) mT10 rfl rfl (any_of HT_.out (by kernel_rfl)) (fun _ _ _ h => h) (Or.inr ⟨by rfl, rfl⟩) ?_ ?_
                   rotate_left
                   ·simp only [Act.put, List.setIfInBounds_toArray, List.set_cons_zero, List.set_cons_succ, i64_w, i32_w]
                    rfl
                   refine pure_ (i := 11) (N := some 103) (v := undef) (a' := ?_) mT23 rfl rfl (any_of HT_.out (by kernel_rfl)) (fun _ _ _ h => h) (Or.inr ⟨by rfl, rfl⟩) ?_ ?_
                   rotate_left
                   ·simp only [Act.put, List.setIfInBounds_toArray, List.set_cons_zero, List.set_cons_succ, i64_w, i32_w]
                    rfl
                   refine pure_ (i := 12) (N := some 104) (v := undef) (a' := ?_) mT11 rfl rfl (any_of HT_.out (by kernel_rfl)) (fun _ _ _ h => h) (Or.inr ⟨by rfl, rfl⟩) ?_ ?_
                   rotate_left
                   ·simp only [Act.put, List.setIfInBounds_toArray, List.set_cons_zero, List.set_cons_succ, i64_w, i32_w]
                    rfl
                   refine pure_ (i := 13) (N := some 105) (v := undef) (a' := ?_) mT12 rfl rfl (any_of HT_.out (by kernel_rfl)) (fun _ _ _ h => h) (Or.inr ⟨by rfl, rfl⟩) ?_ ?_
                   rotate_left
                   ·simp only [Act.put, List.setIfInBounds_toArray, List.set_cons_zero, List.set_cons_succ, i64_w, i32_w]
                    rfl
                   refine pure_ (i := 14) (N := some 106) (v := undef) (a' := ?_) mT13 rfl rfl (any_of HT_.out (by kernel_rfl)) (fun _ _ _ h => h) (Or.inr ⟨by rfl, rfl⟩) ?_ ?_
                   rotate_left
                   ·simp only [Act.put, List.setIfInBounds_toArray, List.set_cons_zero, List.set_cons_succ, i64_w, i32_w]
                    rfl
                   refine pure_ (i := 15) (N := some 107) (v := ?_) (a' := ?_) mT14 rfl rfl (any_of HT_.out (by kernel_rfl)) (fun _ _ _ h => h) (Or.inl ⟨by rfl, ?_⟩) ?_ ?_
                   rotate_left
                   ·intro w'
                    go_simp
                    with_reducible rfl
                   rotate_left
                   ·simp only [Act.put, List.setIfInBounds_toArray, List.set_cons_zero, List.set_cons_succ, i64_w, i32_w]
                    rfl
                   refine pure_ (i := 16) (N := some 108) (v := ?_) (a' := ?_) mT15 rfl rfl (any_of HT_.out (by kernel_rfl)) (fun _ _ _ h => h) (Or.inl ⟨by rfl, ?_⟩) ?_ ?_
                   rotate_left
                   ·intro w'
                    go_simp
                    with_reducible rfl
                   rotate_left
                   ·simp only [Act.put, List.setIfInBounds_toArray, List.set_cons_zero, List.set_cons_succ, i64_w, i32_w]
                    rfl
                   refine pure_ (i := 17) (N := some 109) (v := ?_) (a' := ?_) mT16 rfl rfl (any_of HT_.out (by kernel_rfl)) (fun _ _ _ h => h) (Or.inl ⟨by rfl, ?_⟩) ?_ ?_
                   rotate_left
                   ·intro w'
                    go_simp
                    with_reducible rfl
                   rotate_left
                   ·simp only [Act.put, List.setIfInBounds_toArray, List.set_cons_zero, List.set_cons_succ, i64_w, i32_w]
                    rfl
                   refine pure_ (i := 18) (N := some 110) (v := ?_) (a' := ?_) mT17 rfl rfl (any_of HT_.out (by kernel_rfl)) (fun _ _ _ h => h) (Or.inl ⟨by rfl, ?_⟩) ?_ ?_
                   rotate_left
                   ·intro w'
                    go_simp
                    with_reducible rfl
                   rotate_left
                   ·simp only [Act.put, List.setIfInBounds_toArray, List.set_cons_zero, List.set_cons_succ, i64_w, i32_w]
                    rfl
                   refine pure_ (i := 20) (N := some 112) (v := ?_) (a' := ?_) mT33 rfl rfl (any_of HT_.out (by kernel_rfl)) (fun _ _ _ h => h) (Or.inl ⟨by rfl, ?_⟩) ?_ ?_
                   rotate_left
                   ·intro w'
                    go_simp
                    with_reducible rfl
                   rotate_left
                   ·simp only [Act.put, List.setIfInBounds_toArray, List.set_cons_zero, List.set_cons_succ, i64_w, i32_w]
                    rfl
                   refine pure_ (i := 23) (N := some 115) (v := ?_) (a' := ?_) mT34 rfl rfl (any_of HT_.out (by kernel_rfl)) (fun _ _ _ h => h) (Or.inl ⟨by rfl, ?_⟩) ?_ ?_
                   rotate_left
                   ·intro w'
                    go_simp
                    with_reducible rfl
                   rotate_left
                   ·simp only [Act.put, List.setIfInBounds_toArray, List.set_cons_zero, List.set_cons_succ, i64_w, i32_w]
                    rfl
                   refine pure_ (i := 24) (N := some 116) (v := ?_) (a' := ?_) mT35 rfl rfl (any_of HT_.out (by kernel_rfl)) (fun _ _ _ h => h) (Or.inl ⟨by rfl, ?_⟩) ?_ ?_
                   rotate_left
                   ·intro w'
                    go_simp
                    with_reducible rfl
                   rotate_left
                   ·simp only [Act.put, List.setIfInBounds_toArray, List.set_cons_zero, List.set_cons_succ, i64_w, i32_w]
                    rfl
                   refine pure_ (i := 26) (N := some 118) (v := ?_) (a' := ?_) mT36 rfl rfl (any_of HT_.out (by kernel_rfl)) (fun _ _ _ h => h) (Or.inl ⟨by rfl, ?_⟩) ?_ ?_
                   rotate_left
                   ·intro w'
                    go_simp
                    with_reducible rfl
                   rotate_left
                   ·simp only [Act.put, List.setIfInBounds_toArray, List.set_cons_zero, List.set_cons_succ, i64_w, i32_w]
                    rfl
                   refine take_ (i := 19) (N := some 111) (v := ?_) (a' := ?_) mT37 rfl rfl (take_ofW HT_.out HW_.out (by kernel_rfl)) (fun _ _ _ h => h) (Or.inl ⟨by rfl, ?_⟩) hHeld ?_ ?_
                   rotate_left
                   ·rintro w' ⟨s0, s1, s2, s3, s4, s5⟩
                    go_simp
                    with_reducible rfl
                   rotate_left
                   ·simp only [Act.put, List.setIfInBounds_toArray, List.set_cons_zero, List.set_cons_succ, i64_w, i32_w]
                    rfl
                   refine take_ (i := 21) (N := some 113) (v := ?_) (a' := ?_) mT38 rfl rfl (take_ofW HT_.out HW_.out (by kernel_rfl)) (fun _ _ _ h => h) (Or.inl ⟨by rfl, ?_⟩) hHeld ?_ ?_
                   rotate_left
                   ·rintro w' ⟨s0, s1, s2, s3, s4, s5⟩
                    go_simp
                    with_reducible rfl
                   rotate_left
                   ·simp only [Act.put, List.setIfInBounds_toArray, List.set_cons_zero, List.set_cons_succ, i64_w, i32_w]
                    rfl
                   refine take_ (i := 25) (N := some 117) (v := ?_) (a' := ?_) mT39 rfl rfl (take_ofW HT_.out HW_.out (by kernel_rfl)) (fun _ _ _ h => h) (Or.inl ⟨by rfl, ?_⟩) hHeld ?_ ?_
                   rotate_left
                   ·rintro w' ⟨s0, s1, s2, s3, s4, s5⟩
                    go_simp
                    with_reducible rfl
                   rotate_left
                   ·simp only [Act.put, List.setIfInBounds_toArray, List.set_cons_zero, List.set_cons_succ, i64_w, i32_w]
                    rfl
                   refine take_ (i := 27) (N := some 119) (v := ?_) (a' := ?_) mT40 rfl rfl (take_ofW HT_.out HW_.out (by kernel_rfl)) (fun _ _ _ h => h) (Or.inl ⟨by rfl, ?_⟩) hHeld ?_ ?_
                   rotate_left
                   ·rintro w' ⟨s0, s1, s2, s3, s4, s5⟩
                    go_simp
                    with_reducible rfl
                   rotate_left
                   ·simp only [Act.put, List.setIfInBounds_toArray, List.set_cons_zero, List.set_cons_succ, i64_w, i32_w]
                    rfl
                   refine one_ (i := 22) (N := some 114) mT18 rfl rfl (one_of HT_.out (by kernel_rfl)) (by decide) (fun K hK => ?_)
                   refine goes_ Try.func17 (by kernel_rfl) rfl #[.slice A0 l0.length c0, .string ((rd_T39 y266 x88_4).f0), .string ((rd_T39 y266 x88_4).f1)] (by rfl) rfl rfl (by (try simp only [List.map_toArray, List.map_cons, List.map_nil]); first | done | rfl | (simp only [List.length_drop, List.length_take]; rfl)) ?_
                   with_reducible refine (truceref16_Get.calls k4 _ _ l0 ((rd_T39 y266 x88_4).f0) ((rd_T39 y266 x88_4).f1) t280 t281 t282 t283 _ ?side1 ?side2 A96.out).mono ?_
                   (case side1 => repeat (first | exact (Kd.C_below HR0.out HB.out) | (with_reducible refine Kd.C_alloc ?_ _) | (with_reducible refine Kd.C_drewN ?_ _) | (with_reducible refine Kd.C_drew ?_)))
                   (case side2 => exact HC0.out)
                   rintro e w106 ⟨rfl, hb⟩
                   refine ⟨_, rfl, ?_⟩
                   have n0_ := Aside0.mk (Kd.V_below (by (with_reducible repeat (first | apply Kd.V_alloc | apply Kd.V_drewN | apply Kd.V_drew)); exact HO_13.out) hb)
                   have n1_ := Aside0.mk (Kd.R_below (by (with_reducible repeat (first | apply Kd.R_alloc | apply Kd.R_drewN | apply Kd.R_drew)); exact HO_86.out) hb)
                   have n2_ := Aside0.mk (blk_below (g := gb234) (o := .cells #[.int .u64 a4_0, .int .u64 a4_1, .int .u64 a4_2, .int .u64 a4_3] 25 (0, 0)) (by (with_reducible repeat (first | apply mlN | apply mlD | apply mlA)); exact BK234.out) hb)
                   have n3_ := Aside0.mk (blk_below (g := gb252) (o := .cells #[.int .u64 t247, .int .u64 t248, .int .u64 t249, .int .u64 t250] 25 (0, 0)) (by (with_reducible repeat (first | apply mlN | apply mlD | apply mlA)); exact BK252.out) hb)
                   have n4_ := Aside0.mk (blk_below (g := gb258) (o := .cells #[.int .u64 t253, .int .u64 t254, .int .u64 t255, .int .u64 t256] 25 (0, 0)) (by (with_reducible repeat (first | apply mlN | apply mlD | apply mlA)); exact BK258.out) hb)
                   have n5_ := Aside0.mk (blk_below (g := gb271) (o := .cells #[.string ((rd_T39 y266 x88_4).f0), .string ((rd_T39 y266 x88_4).f1), .int .u64 ((rd_T39 y266 x88_4).f2.f0), .int .u64 ((rd_T39 y266 x88_4).f2.f1), .int .u64 ((rd_T39 y266 x88_4).f2.f2), .int .u64 ((rd_T39 y266 x88_4).f2.f3)] 39 (0, 0)) (by (with_reducible repeat (first | apply mlN | apply mlD | apply mlA)); exact BK271.out) hb)
                   have n6_ := Aside0.mk (below_step (by repeat (first | (with_reducible first | exact HB.out | apply below_alloc | apply pw_below_drewN | apply below_drew1 | refine below_set ?_ GE234.out | refine below_set ?_ GE252.out | refine below_set ?_ GE258.out | refine below_set ?_ GE271.out) | exact HB.out)) hb)
                   clear HO_13
                   clear HO_86
                   clear BK234
                   clear BK252
                   clear BK258
                   clear BK271
                   clear HB
                   have HO_13 := n0_
                   have HO_86 := n1_
                   have BK234 := n2_
                   have BK252 := n3_
                   have BK258 := n4_
                   have BK271 := n5_
                   have HB := n6_
                   clear n0_ n1_ n2_ n3_ n4_ n5_ n6_
                   (try clear hb)
                   (try clear hb2)
                   (try clear hk)
                   (try clear hi)
                   refine hK.out _ _ ⟨(blk_cell BK271.out 0).trans rfl, (blk_cell BK271.out 1).trans rfl, (blk_cell BK271.out 2).trans rfl, (blk_cell BK271.out 3).trans rfl, (blk_cell BK271.out 4).trans rfl, (blk_cell BK271.out 5).trans rfl⟩ (fun hHeld => ?_)
                   clear hK K
                   refine norm_ (a' := ?_) ?_ ?_
                   rotate_left
                   ·show Act.put _ (some 114) _ = _
                    simp only [Act.put, List.setIfInBounds_toArray, List.set_cons_zero, List.set_cons_succ, i64_w, i32_w]
                    rfl
                   refine one_ (i := 28) (N := some 120) mT19 rfl rfl (one_of HT_.out (by kernel_rfl)) (by decide) (fun K hK => ?_)
                   refine goes_ Try.func17 (by kernel_rfl) rfl #[.slice Ao36 t242.length co36, .string ((rd_T39 y266 x88_4).f0), .string ((rd_T39 y266 x88_4).f1)] (by rfl) rfl rfl (by (try simp only [List.map_toArray, List.map_cons, List.map_nil]); first | done | rfl | (simp only [List.length_drop, List.length_take]; rfl)) ?_
                   with_reducible refine (truceref16_Get.calls k4 _ _ t242 ((rd_T39 y266 x88_4).f0) ((rd_T39 y266 x88_4).f1) t284 t285 t286 t287 _ ?side1 ?side2 A97.out).mono ?_
                   (case side1 => repeat (first | exact (Kd.V_reads' HO_13.out).2.2 | (with_reducible refine Kd.C_alloc ?_ _) | (with_reducible refine Kd.C_drewN ?_ _) | (with_reducible refine Kd.C_drew ?_)))
                   (case side2 => exact (Kd.V_reads' HO_13.out).2.1)
                   rintro e w107 ⟨rfl, hb⟩
                   refine ⟨_, rfl, ?_⟩
                   have n0_ := Aside0.mk (Kd.V_below (by (with_reducible repeat (first | apply Kd.V_alloc | apply Kd.V_drewN | apply Kd.V_drew)); exact HO_13.out) hb)
                   have n1_ := Aside0.mk (Kd.R_below (by (with_reducible repeat (first | apply Kd.R_alloc | apply Kd.R_drewN | apply Kd.R_drew)); exact HO_86.out) hb)
                   have n2_ := Aside0.mk (blk_below (g := gb234) (o := .cells #[.int .u64 a4_0, .int .u64 a4_1, .int .u64 a4_2, .int .u64 a4_3] 25 (0, 0)) (by (with_reducible repeat (first | apply mlN | apply mlD | apply mlA)); exact BK234.out) hb)
                   have n3_ := Aside0.mk (blk_below (g := gb252) (o := .cells #[.int .u64 t247, .int .u64 t248, .int .u64 t249, .int .u64 t250] 25 (0, 0)) (by (with_reducible repeat (first | apply mlN | apply mlD | apply mlA)); exact BK252.out) hb)
                   have n4_ := Aside0.mk (blk_below (g := gb258) (o := .cells #[.int .u64 t253, .int .u64 t254, .int .u64 t255, .int .u64 t256] 25 (0, 0)) (by (with_reducible repeat (first | apply mlN | apply mlD | apply mlA)); exact BK258.out) hb)
                   have n5_ := Aside0.mk (blk_below (g := gb271) (o := .cells #[.string ((rd_T39 y266 x88_4).f0), .string ((rd_T39 y266 x88_4).f1), .int .u64 ((rd_T39 y266 x88_4).f2.f0), .int .u64 ((rd_T39 y266 x88_4).f2.f1), .int .u64 ((rd_T39 y266 x88_4).f2.f2), .int .u64 ((rd_T39 y266 x88_4).f2.f3)] 39 (0, 0)) (by (with_reducible repeat (first | apply mlN | apply mlD | apply mlA)); exact BK271.out) hb)
                   have n6_ := Aside0.mk (below_step (by repeat (first | (with_reducible first | exact HB.out | apply below_alloc | apply pw_below_drewN | apply below_drew1 | refine below_set ?_ GE234.out | refine below_set ?_ GE252.out | refine below_set ?_ GE258.out | refine below_set ?_ GE271.out) | exact HB.out)) hb)
                   clear HO_13
                   clear HO_86
                   clear BK234
                   clear BK252
                   clear BK258
                   clear BK271
                   clear HB
                   have HO_13 := n0_
                   have HO_86 := n1_
                   have BK234 := n2_
                   have BK252 := n3_
                   have BK258 := n4_
                   have BK271 := n5_
                   have HB := n6_
                   clear n0_ n1_ n2_ n3_ n4_ n5_ n6_
                   (try clear hb)
                   (try clear hb2)
                   (try clear hk)
                   (try clear hi)
                   refine hK.out _ _ ⟨(blk_cell BK271.out 0).trans rfl, (blk_cell BK271.out 1).trans rfl, (blk_cell BK271.out 2).trans rfl, (blk_cell BK271.out 3).trans rfl, (blk_cell BK271.out 4).trans rfl, (blk_cell BK271.out 5).trans rfl⟩ (fun hHeld => ?_)
                   clear hK K
                   refine norm_ (a' := ?_) ?_ ?_
                   rotate_left
                   ·show Act.put _ (some 120) _ = _
                    simp only [Act.put, List.setIfInBounds_toArray, List.set_cons_zero, List.set_cons_succ, i64_w, i32_w]
                    rfl
                   refine pure_ (i := 29) (N := some 121) (v := ?_) (a' := ?_) mT20 rfl rfl (any_of HT_.out (by kernel_rfl)) (fun _ _ _ h => h) (Or.inl ⟨by rfl, ?_⟩) ?_ ?_
                   rotate_left
                   ·intro w'
                    go_simp
                    with_reducible rfl
                   rotate_left
                   ·simp only [Act.put, List.setIfInBounds_toArray, List.set_cons_zero, List.set_cons_succ, i64_w, i32_w]
                    rfl
                   refine pure_ (i := 30) (N := some 122) (v := ?_) (a' := ?_) mT21 rfl rfl (any_of HT_.out (by kernel_rfl)) (fun _ _ _ h => h) (Or.inl ⟨by rfl, ?_⟩) ?_ ?_
                   rotate_left
                   ·intro w'
                    go_simp
                    with_reducible rfl
                   rotate_left
                   ·simp only [Act.put, List.setIfInBounds_toArray, List.set_cons_zero, List.set_cons_succ, i64_w, i32_w]
                    rfl
                   refine done_ (done_of HT_.out (by kernel_rfl)) ?_
                   try go_wp2
                   go_roundg k4
                   case measure => have := HJ5.out; have := HJ18.out; have := HJ30.out; have := HK4.out; omega
                   case rel => exact ⟨(wrap64 (x88_4 + 1)), (by first | rfl | (simp; done) | (simp [*]; done)), H', ⟨by have := HJ5.out; have := HJ18.out; have := HJ30.out; have := HK4.out; omega⟩, ⟨by (with_reducible repeat (first | apply Kd.V_alloc | apply Kd.V_drewN | apply Kd.V_drew)); exact Kd.V_mono HO_13.out (fun _ hk => ⟨hk.1, ⟨hk.2.1, ⟨hk.2.2.1, hk.2.2.2.1⟩⟩⟩)⟩, ⟨by (with_reducible repeat (first | apply Kd.R_alloc | apply Kd.R_drewN | apply Kd.R_drew)); exact Kd.R_mono HO_86.out (fun _ hk => trivial)⟩, ⟨by (with_reducible repeat (first | apply mlN | apply mlD | apply mlA)); exact BK234.out⟩, ⟨by (with_reducible repeat (first | apply mlN | apply mlD | apply mlA)); exact BK252.out⟩, ⟨by (with_reducible repeat (first | apply mlN | apply mlD | apply mlA)); exact BK258.out⟩, ⟨by repeat (first | (with_reducible first | exact HB.out | apply below_alloc | apply pw_below_drewN | apply below_drew1 | refine below_set ?_ GE234.out | refine below_set ?_ GE252.out | refine below_set ?_ GE258.out | refine below_set ?_ GE271.out) | exact HB.out)⟩⟩
                ·rw [if_neg c66] at H
                 exact absurd H (by simp)
               ·rw [if_neg c65] at H
                exact absurd H (by simp)
              ·rw [if_neg c64] at H
               have c64b0 : decide (x88_4 < (y266.length : Int)) = false := decide_eq_false c64
               clear c64
               replace H := Option.bind_eq_some_iff.mp H
               obtain ⟨t269, A1080, H⟩ := H
               replace H : (some t269) = some r := H
               have A108 := Aside0.mk A1080
               clear A1080
               obtain rfl := Option.some.inj H
               go_wp2_with (first | ((with_reducible refine gate_callee (f := 9) rfl ?_); refine goesL_ (some 124) rfl rfl Try.func9 (by kernel_rfl) rfl #[] rfl (by (try simp only [List.map_toArray, List.map_cons, List.map_nil]); first | done | rfl | (simp only [List.length_drop, List.length_take]; rfl)) ?_; (with_reducible refine (trucelaw16_awake.calls k4  t269 _ A108.out).mono ?_); rintro e w109 ⟨rfl, hb⟩; refine ⟨_, rfl, ?_⟩; have n0_ := Aside0.mk (Kd.V_below (by (with_reducible repeat (first | apply Kd.V_alloc | apply Kd.V_drewN | apply Kd.V_drew)); exact HO_13.out) hb); have n1_ := Aside0.mk (Kd.R_below (by (with_reducible repeat (first | apply Kd.R_alloc | apply Kd.R_drewN | apply Kd.R_drew)); exact HO_86.out) hb); have n2_ := Aside0.mk (blk_below (g := gb234) (o := .cells #[.int .u64 a4_0, .int .u64 a4_1, .int .u64 a4_2, .int .u64 a4_3] 25 (0, 0)) (by (with_reducible repeat (first | apply mlN | apply mlD | apply mlA)); exact BK234.out) hb); have n3_ := Aside0.mk (blk_below (g := gb252) (o := .cells #[.int .u64 t247, .int .u64 t248, .int .u64 t249, .int .u64 t250] 25 (0, 0)) (by (with_reducible repeat (first | apply mlN | apply mlD | apply mlA)); exact BK252.out) hb); have n4_ := Aside0.mk (blk_below (g := gb258) (o := .cells #[.int .u64 t253, .int .u64 t254, .int .u64 t255, .int .u64 t256] 25 (0, 0)) (by (with_reducible repeat (first | apply mlN | apply mlD | apply mlA)); exact BK258.out) hb); have n5_ := Aside0.mk (below_step (by repeat (first | (with_reducible first | exact HB.out | apply below_alloc | apply pw_below_drewN | apply below_drew1 | refine below_set ?_ GE234.out | refine below_set ?_ GE252.out | refine below_set ?_ GE258.out) | exact HB.out)) hb); clear HO_13; clear HO_86; clear BK234; clear BK252; clear BK258; clear HB; have HO_13 := n0_; have HO_86 := n1_; have BK234 := n2_; have BK252 := n3_; have BK258 := n4_; have HB := n5_; clear n0_ n1_ n2_ n3_ n4_ n5_; (try clear hb); (try clear hb2); (try clear hk); (try clear hi)))
               go_ret
               exact ⟨by first | rfl | (simp [errW_none, errW_some] <;> rfl) | (simp [*, errW_none, errW_some] <;> rfl), by repeat (first | (with_reducible first | exact HB.out | apply below_alloc | apply pw_below_drewN | apply below_drew1 | refine below_set ?_ GE234.out | refine below_set ?_ GE252.out | refine below_set ?_ GE258.out) | exact HB.out)⟩
           ·rw [if_neg c58] at H
            exact absurd H (by simp)
          ·rw [if_neg c57] at H
           exact absurd H (by simp)

end Go.Proofs.Ytnedmaddjikmkaa.P


