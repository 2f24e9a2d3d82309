/- A function of the program as a Lean function, and the proof that the code comes to its answers; written by a program of this session. -/
import Derived.Test.YtmnphdgghjdkmaaDtruceref17Transfer
namespace Go.Proofs.Ytmnphdgghjdkmaa.P
open Go.RowKit Go.Proofs.YtmnphdgghjdkmaaW.PrintWords Go.Proofs.YtmnphdgghjdkmaaW.PrintLast Go.Proofs.YtmnphdgghjdkmaaW.PrintMore
attribute [local go_sem] max2_int min2_int max_two min_two max_three min_three max_four min_four   -- for this text's walks alone
set_option linter.unusedVariables false
set_option linter.unusedSimpArgs false

set_option maxHeartbeats 8000000 in
set_option maxRecDepth 100000 in
theorem truceref17_Transfer.calls (k : Nat) (a0_0 : Int) (a0_1 : Int) (a0_2 : Int) (a0_3 : Int) (P1_ : Nat → Prop) (A1 : Option Addr) (c1 : Nat) (l1 : List (S40)) (A2 : Option Addr) (c2 : Nat) (l2 : List Int) (r1 : List (S40)) (r2 : List (S24)) (r3 : Int) (r4 : Int) (r5 : Int) (r6 : Int) (r7 : Int) (w : World) (hs1 : Kd.V k40 40 w w.heap.size (fun k_ => P1_ k_) (.slice A1 l1.length c1) l1) (hr2 : Kd.C (Kd.int .i64) w A2 l2.length l2) (hc2 : l2.length ≤ c2) (h : truceref17_Transfer.f k a0_0 a0_1 a0_2 a0_3 l1 l2 = some (r1, r2, r3, r4, r5, r6, r7)) :
  Calls Try.prog 10 #[.agg #[.int .u64 a0_0, .int .u64 a0_1, .int .u64 a0_2, .int .u64 a0_3], .slice A1 l1.length c1, .slice A2 l2.length c2] w fun e w' => ∃ v0_ v1_ : Value, e = .returned (.tuple #[v0_, v1_, .agg #[.int .u64 r3, .int .u64 r4, .int .u64 r5, .int .u64 r6], .int .i64 r7]) ∧ Kd.V k40 40 w' w.heap.size (fun k_ => (P1_ k_ ∨ w.heap.size ≤ k_) ∧ some k_ ≠ (v1_ : Value).ownBlock) v0_ r1 ∧ Kd.R k24 24 w' w.heap.size (fun k_ => (w.heap.size ≤ k_)) v1_ r2 ∧ Below w.heap.size w w' := by
 have hu24 := Try.underlying24
 have hu40 := Try.underlying40
 have HO1 := Aside0.mk (show Kd.V k40 40 w w.heap.size (fun k_ => (P1_ k_ ∨ w.heap.size ≤ k_)) (.slice A1 l1.length c1) l1 from Kd.V_mono hs1 (fun k_ hk => .inl hk))
 have HR2 := Aside0.mk hr2
 have HC2 := Aside0.mk hc2
 clear hr2 hc2
 have HB := Aside0.mk (Below.refl w.heap.size w)
 have H : (truceref17_Transfer.l0 k l1 l2 0 a0_0 a0_1 a0_2 a0_3) = some (r1, r2, r3, r4, r5, r6, r7) := h
 clear h
 have H' := Aside0.mk H
 clear H
 go_enter Try.func10, Try.ntmps10
 go_wp2_with (first | ((with_reducible refine gate_dst (N := 3) rfl ?_); (try (refine gate_guard (by rfl) ?_; dsimp only)); refine box_event ?hg (N := 3) ?hd (cs := #[.int .u64 a0_0, .int .u64 a0_1, .int .u64 a0_2, .int .u64 a0_3]) (t := 24) ?hr ?_; (case hd => rfl); (case hg => rfl); (case hr => first | (go_simp; done) | (go_simp; rfl)); intro gb157 hg w4 hbox hb; have n0_ := Aside0.mk (Kd.V_below (Kd.V_elderB (by (with_reducible repeat (first | apply Kd.V_alloc | apply Kd.V_drewN | apply Kd.V_drew)); exact HO1.out) gb157 (Nat.le_of_eq hg.symm)) hb); have n1_ := Aside0.mk (below_step (by repeat (first | (with_reducible first | exact HB.out | apply below_alloc | apply pw_below_drewN | apply below_drew1) | exact HB.out)) hb); have n2_ := Aside0.mk (hbox); have n3_ := Aside0.mk ((by rw [hg]; exact (below_size (by repeat (first | (with_reducible first | exact HB.out | apply below_alloc | apply pw_below_drewN | apply below_drew1) | exact HB.out))) : w.heap.size ≤ gb157)); have n4_ := Aside0.mk ((by rw [hg]; exact (below_size (by repeat (first | (with_reducible first | exact HB.out | apply below_alloc | apply pw_below_drewN | apply below_drew1) | exact HB.out))) : w.heap.size ≤ gb157)); clear HO1; clear HB; have HO1 := n0_; have HB := n1_; have BK157 := n2_; have GW157 := n3_; have GE157 := n4_; clear n0_ n1_ n2_ n3_ n4_; clear hb hbox hg) | ((with_reducible refine gate_dst (N := 8) rfl ?_); (try (refine gate_guard (by rfl) ?_; dsimp only)); refine box_event ?hg (N := 8) ?hd (cs := #[.int .u64 0, .int .u64 0, .int .u64 0, .int .u64 0]) (t := 24) ?hr ?_; (case hd => rfl); (case hg => rfl); (case hr => first | (go_simp; done) | (go_simp; rfl)); intro gb158 hg w5 hbox hb; have n0_ := Aside0.mk (Kd.V_below (Kd.V_elderB (by (with_reducible repeat (first | apply Kd.V_alloc | apply Kd.V_drewN | apply Kd.V_drew)); exact HO1.out) gb158 (Nat.le_of_eq hg.symm)) hb); have n1_ := Aside0.mk (blk_below (g := gb157) (o := .cells #[.int .u64 a0_0, .int .u64 a0_1, .int .u64 a0_2, .int .u64 a0_3] 24 (0, 0)) (by (with_reducible repeat (first | apply blN | apply blD | apply blA)); exact BK157.out) hb); have n2_ := Aside0.mk (below_step (by repeat (first | (with_reducible first | exact HB.out | apply below_alloc | apply pw_below_drewN | apply below_drew1 | refine below_set ?_ GE157.out) | exact HB.out)) hb); have n3_ := Aside0.mk (hbox); have n4_ := Aside0.mk ((by rw [hg]; exact (below_size (by repeat (first | (with_reducible first | exact HB.out | apply below_alloc | apply pw_below_drewN | apply below_drew1 | refine below_set ?_ GE157.out) | exact HB.out))) : w.heap.size ≤ gb158)); have n5_ := Aside0.mk ((by rw [hg]; exact (below_size (by repeat (first | (with_reducible first | exact HB.out | apply below_alloc | apply pw_below_drewN | apply below_drew1 | refine below_set ?_ GE157.out) | exact HB.out))) : w.heap.size ≤ gb158)); have n6_ := Aside0.mk ((by rw [hg]; exact Nat.ne_of_lt (blk_lt (g := gb157) (o := .cells #[.int .u64 a0_0, .int .u64 a0_1, .int .u64 a0_2, .int .u64 a0_3] 24 (0, 0)) (by (with_reducible repeat (first | apply blN | apply blD | apply blA)); exact BK157.out)) : gb157 ≠ gb158)); have n7_ := Aside0.mk ((by rw [hg]; exact Nat.ne_of_gt (blk_lt (g := gb157) (o := .cells #[.int .u64 a0_0, .int .u64 a0_1, .int .u64 a0_2, .int .u64 a0_3] 24 (0, 0)) (by (with_reducible repeat (first | apply blN | apply blD | apply blA)); exact BK157.out)) : gb158 ≠ gb157)); clear HO1; clear BK157; clear HB; have HO1 := n0_; have BK157 := n1_; have HB := n2_; have BK158 := n3_; have GW158 := n4_; have GE158 := n5_; have NB157_158 := n6_; have NB158_157 := n7_; clear n0_ n1_ n2_ n3_ n4_ n5_ n6_ n7_; clear hb hbox hg))
 go_loopg [10] k (fun kq v10 w' => ∃ (x10_1 : Int) (y4 : Int) (y6 : Int) (y8 : Int) (ya : Int), v10 = .int .i64 x10_1 ∧ Aside0 (truceref17_Transfer.l0 kq l1 l2 x10_1 a0_0 a0_1 a0_2 a0_3 = some (r1, r2, r3, r4, r5, r6, r7)) ∧ Aside0 (kq ≤ k) ∧ Aside0 (Kd.V k40 40 w' w.heap.size (fun k_ => (P1_ k_ ∨ w.heap.size ≤ k_) ∧ k_ ≠ gb157 ∧ k_ ≠ gb158) (.slice A1 l1.length c1) l1) ∧ Aside0 (w'.heap[gb157]? = some (.cells #[.int .u64 a0_0, .int .u64 a0_1, .int .u64 a0_2, .int .u64 a0_3] 24 (0, 0))) ∧ Aside0 (w'.heap[gb158]? = some (.cells #[.int .u64 y4, .int .u64 y6, .int .u64 y8, .int .u64 ya] 24 (0, 0))) ∧ Aside0 (Below w.heap.size w w'))
 case atStart => exact ⟨(0), (0), (0), (0), (0), (by first | rfl | (simp; done) | (simp [*]; done)), H', ⟨Nat.le_refl _⟩, ⟨by (with_reducible repeat (first | apply Kd.V_alloc | apply Kd.V_drewN | apply Kd.V_drew)); exact Kd.V_mono HO1.out (fun _ hk => ⟨hk.1.1, ⟨hk.1.2, hk.2⟩⟩)⟩, ⟨by (with_reducible repeat (first | apply blN | apply blD | apply blA)); exact BK157.out⟩, ⟨by (with_reducible repeat (first | apply blN | apply blD | apply blA)); exact BK158.out⟩, ⟨by repeat (first | (with_reducible first | exact HB.out | apply below_alloc | apply pw_below_drewN | apply below_drew1 | refine below_set ?_ GE157.out | refine below_set ?_ GE158.out) | exact HB.out)⟩⟩
 case round =>
  clear H'
  try clear c1
  try clear c2
  try clear p2
  obtain ⟨x10_1, y4, y6, y8, ya, rfl, HA, HK1, HO_1, BK157, BK158, HB⟩ := hrel
  cases gk with
  | zero => exact absurd HA.out (by simp [truceref17_Transfer.l0])
  | succ k1 =>
   have H := HA.out
   clear HA
   simp only [truceref17_Transfer.l0] at H
   by_cases c6 : x10_1 < (l2.length : Int)
   ·rw [if_pos c6] at H
    have c6b0 : decide (x10_1 < (l2.length : Int)) = true := decide_eq_true c6
    clear c6
    by_cases c7 : 0 ≤ x10_1
    ·rw [if_pos c7] at H
     have c7b0 : decide (0 ≤ x10_1) = true := decide_eq_true c7
     clear c7
     by_cases c8 : (rd l2 x10_1) < 0
     ·rw [if_pos c8] at H
      have c8b0 : decide ((rd l2 x10_1) < 0) = true := decide_eq_true c8
      clear c8
      simp only [Option.some.injEq, Prod.mk.injEq] at H
      obtain ⟨rfl, rfl, rfl, rfl, rfl, rfl, rfl⟩ := H
      try go_wp2
      have n0_ := Aside0.mk (Kd.V_drew HO_1.out)
      have n1_ := Aside0.mk (blk_drew BK157.out)
      have n2_ := Aside0.mk (blk_drew BK158.out)
      have n3_ := Aside0.mk (below_drew1 HB.out)
      clear HO_1
      clear BK157
      clear BK158
      clear HB
      have HO_1 := n0_
      have BK157 := n1_
      have BK158 := n2_
      have HB := n3_
      clear n0_ n1_ n2_ n3_
      have p159 : 0 ≤ (x10_1 : Int) := of_decide_eq_true (by first | (with_reducible assumption) | assumption)
      have q159 : x10_1 < (l2.length : Int) := of_decide_eq_true (by first | (with_reducible assumption) | assumption)
      obtain ⟨ad159, e159, hx159_0⟩ := Kd.at_int HR2.out x10_1 p159 q159
      have hw159_0 := hx159_0
      cases e159
      replace hx159_0 := (HB.out.cell (World.block_lt_of_cell? w _ hx159_0)).trans hx159_0
      replace p159 := eq_true p159
      replace q159 := eq_true q159
      refine start_ (n := 30) (S := fun w' => w'.cell? (ad159.add (x10_1).toNat) = some (.int .i64 (rd l2 x10_1))) (ds := []) qT0 (by kernel_rfl) rfl rfl (((HB.out.cell (World.block_lt_of_cell? w _ hw159_0)).trans hw159_0)) (fun hHeld => ?_); refine with_tabW truceref17_Transfer.tab4 truceref17_Transfer.bits4 (fun HT_ HW_ => ?_)
      generalize wr.drew = w9 at HO_1 BK157 BK158 HB hx159_0 hHeld ⊢
      refine pure_ (i := 0) (N := some 24) (v := ?_) (a' := ?_) qT1 rfl rfl (any_of HT_.out (by kernel_rfl)) (fun _ _ _ h => h) (Or.inl ⟨by rfl, ?_⟩) ?_ ?_
      rotate_left
      ·intro w'
       go_simp
       with_reducible rfl
      rotate_left
      ·simp only [Act.put, List.setIfInBounds_toArray, List.set_cons_zero, List.set_cons_succ, i64_w, i32_w]
       rfl
      refine pure_ (i := 1) (N := some 25) (v := ?_) (a' := ?_) qT2 rfl rfl (any_of HT_.out (by kernel_rfl)) (fun _ _ _ h => h) (Or.inl ⟨by rfl, ?_⟩) ?_ ?_
      rotate_left
      ·intro w'
       go_simp
       with_reducible rfl
      rotate_left
      ·simp only [Act.put, List.setIfInBounds_toArray, List.set_cons_zero, List.set_cons_succ, i64_w, i32_w]
       rfl
      refine pure_ (i := 2) (N := some 26) (v := ?_) (a' := ?_) qT3 rfl rfl (any_of HT_.out (by kernel_rfl)) (fun _ _ _ h => h) (Or.inl ⟨by rfl, ?_⟩) ?_ ?_
      rotate_left
      ·intro w'
       go_simp
       with_reducible rfl
      rotate_left
      ·simp only [Act.put, List.setIfInBounds_toArray, List.set_cons_zero, List.set_cons_succ, i64_w, i32_w]
       rfl
      refine take_ (i := 3) (N := some 27) (v := ?_) (a' := ?_) qT4 rfl rfl (take_ofW HT_.out HW_.out (by kernel_rfl)) (fun _ _ _ h => h) (Or.inl ⟨by rfl, ?_⟩) hHeld ?_ ?_
      rotate_left
      ·intro w' s0
       go_simp
       with_reducible rfl
      rotate_left
      ·simp only [Act.put, List.setIfInBounds_toArray, List.set_cons_zero, List.set_cons_succ, i64_w, i32_w]
       rfl
      refine pure_ (i := 4) (N := some 28) (v := ?_) (a' := ?_) qT5 rfl rfl (any_of HT_.out (by kernel_rfl)) (fun _ _ _ h => h) (Or.inl ⟨by rfl, ?_⟩) ?_ ?_
      rotate_left
      ·intro w'
       go_simp
       with_reducible rfl
      rotate_left
      ·simp only [Act.put, List.setIfInBounds_toArray, List.set_cons_zero, List.set_cons_succ, i64_w, i32_w]
       rfl
      refine pure_ (i := 5) (N := some 29) (v := ?_) (a' := ?_) qT6 rfl rfl (any_of HT_.out (by kernel_rfl)) (fun _ _ _ h => h) (Or.inl ⟨by rfl, ?_⟩) ?_ ?_
      rotate_left
      ·intro w'
       go_simp
       with_reducible rfl
      rotate_left
      ·simp only [Act.put, List.setIfInBounds_toArray, List.set_cons_zero, List.set_cons_succ, i64_w, i32_w]
       rfl
      refine pure_ (i := 6) (N := some 30) (v := undef) (a' := ?_) qT7 rfl rfl (any_of HT_.out (by kernel_rfl)) (fun _ _ _ h => h) (Or.inr ⟨by rfl, rfl⟩) ?_ ?_
      rotate_left
      ·simp only [Act.put, List.setIfInBounds_toArray, List.set_cons_zero, List.set_cons_succ, i64_w, i32_w]
       rfl
      refine pure_ (i := 7) (N := some 31) (v := undef) (a' := ?_) qT8 rfl rfl (any_of HT_.out (by kernel_rfl)) (fun _ _ _ h => h) (Or.inr ⟨by rfl, rfl⟩) ?_ ?_
      rotate_left
      ·simp only [Act.put, List.setIfInBounds_toArray, List.set_cons_zero, List.set_cons_succ, i64_w, i32_w]
       rfl
      refine pure_ (i := 8) (N := some 32) (v := undef) (a' := ?_) qT9 rfl rfl (any_of HT_.out (by kernel_rfl)) (fun _ _ _ h => h) (Or.inr ⟨by rfl, rfl⟩) ?_ ?_
      rotate_left
      ·simp only [Act.put, List.setIfInBounds_toArray, List.set_cons_zero, List.set_cons_succ, i64_w, i32_w]
       rfl
      refine pure_ (i := 9) (N := some 33) (v := undef) (a' := ?_) qT41 rfl rfl (any_of HT_.out (by kernel_rfl)) (fun _ _ _ h => h) (Or.inr ⟨by rfl, rfl⟩) ?_ ?_
      rotate_left
      ·simp only [Act.put, List.setIfInBounds_toArray, List.set_cons_zero, List.set_cons_succ, i64_w, i32_w]
       rfl
      refine pure_ (i := 10) (N := some 34) (v := undef) (a' := ?_) qT42 rfl rfl (any_of HT_.out (by kernel_rfl)) (fun _ _ _ h => h) (Or.inr ⟨by rfl, rfl⟩) ?_ ?_
      rotate_left
      ·simp only [Act.put, List.setIfInBounds_toArray, List.set_cons_zero, List.set_cons_succ, i64_w, i32_w]
       rfl
      refine pure_ (i := 11) (N := some 35) (v := undef) (a' := ?_) qT10 rfl rfl (any_of HT_.out (by kernel_rfl)) (fun _ _ _ h => h) (Or.inr ⟨by rfl, rfl⟩) ?_ ?_
      rotate_left
      ·simp only [Act.put, List.setIfInBounds_toArray, List.set_cons_zero, List.set_cons_succ, i64_w, i32_w]
       rfl
      refine pure_ (i := 12) (N := some 36) (v := undef) (a' := ?_) qT11 rfl rfl (any_of HT_.out (by kernel_rfl)) (fun _ _ _ h => h) (Or.inr ⟨by rfl, rfl⟩) ?_ ?_
      rotate_left
      ·simp only [Act.put, List.setIfInBounds_toArray, List.set_cons_zero, List.set_cons_succ, i64_w, i32_w]
       rfl
      refine pure_ (i := 13) (N := some 37) (v := ?_) (a' := ?_) qT12 rfl rfl (any_of HT_.out (by kernel_rfl)) (fun _ _ _ h => h) (Or.inl ⟨by rfl, ?_⟩) ?_ ?_
      rotate_left
      ·intro w'
       go_simp
       with_reducible rfl
      rotate_left
      ·simp only [Act.put, List.setIfInBounds_toArray, List.set_cons_zero, List.set_cons_succ, i64_w, i32_w]
       rfl
      refine pure_ (i := 14) (N := some 38) (v := ?_) (a' := ?_) qT13 rfl rfl (any_of HT_.out (by kernel_rfl)) (fun _ _ _ h => h) (Or.inl ⟨by rfl, ?_⟩) ?_ ?_
      rotate_left
      ·intro w'
       go_simp
       with_reducible rfl
      rotate_left
      ·simp only [Act.put, List.setIfInBounds_toArray, List.set_cons_zero, List.set_cons_succ, i64_w, i32_w]
       rfl
      refine pure_ (i := 15) (N := some 39) (v := undef) (a' := ?_) qT14 rfl rfl (any_of HT_.out (by kernel_rfl)) (fun _ _ _ h => h) (Or.inr ⟨by rfl, rfl⟩) ?_ ?_
      rotate_left
      ·simp only [Act.put, List.setIfInBounds_toArray, List.set_cons_zero, List.set_cons_succ, i64_w, i32_w]
       rfl
      refine pure_ (i := 16) (N := some 40) (v := undef) (a' := ?_) qT15 rfl rfl (any_of HT_.out (by kernel_rfl)) (fun _ _ _ h => h) (Or.inr ⟨by rfl, rfl⟩) ?_ ?_
      rotate_left
      ·simp only [Act.put, List.setIfInBounds_toArray, List.set_cons_zero, List.set_cons_succ, i64_w, i32_w]
       rfl
      refine pure_ (i := 17) (N := some 41) (v := undef) (a' := ?_) qT16 rfl rfl (any_of HT_.out (by kernel_rfl)) (fun _ _ _ h => h) (Or.inr ⟨by rfl, rfl⟩) ?_ ?_
      rotate_left
      ·simp only [Act.put, List.setIfInBounds_toArray, List.set_cons_zero, List.set_cons_succ, i64_w, i32_w]
       rfl
      refine pure_ (i := 18) (N := some 42) (v := undef) (a' := ?_) qT17 rfl rfl (any_of HT_.out (by kernel_rfl)) (fun _ _ _ h => h) (Or.inr ⟨by rfl, rfl⟩) ?_ ?_
      rotate_left
      ·simp only [Act.put, List.setIfInBounds_toArray, List.set_cons_zero, List.set_cons_succ, i64_w, i32_w]
       rfl
      refine pure_ (i := 19) (N := some 43) (v := undef) (a' := ?_) qT18 rfl rfl (any_of HT_.out (by kernel_rfl)) (fun _ _ _ h => h) (Or.inr ⟨by rfl, rfl⟩) ?_ ?_
      rotate_left
      ·simp only [Act.put, List.setIfInBounds_toArray, List.set_cons_zero, List.set_cons_succ, i64_w, i32_w]
       rfl
      refine pure_ (i := 20) (N := some 44) (v := undef) (a' := ?_) qT19 rfl rfl (any_of HT_.out (by kernel_rfl)) (fun _ _ _ h => h) (Or.inr ⟨by rfl, rfl⟩) ?_ ?_
      rotate_left
      ·simp only [Act.put, List.setIfInBounds_toArray, List.set_cons_zero, List.set_cons_succ, i64_w, i32_w]
       rfl
      refine pure_ (i := 21) (N := some 45) (v := undef) (a' := ?_) qT20 rfl rfl (any_of HT_.out (by kernel_rfl)) (fun _ _ _ h => h) (Or.inr ⟨by rfl, rfl⟩) ?_ ?_
      rotate_left
      ·simp only [Act.put, List.setIfInBounds_toArray, List.set_cons_zero, List.set_cons_succ, i64_w, i32_w]
       rfl
      refine pure_ (i := 22) (N := some 46) (v := undef) (a' := ?_) qT35 rfl rfl (any_of HT_.out (by kernel_rfl)) (fun _ _ _ h => h) (Or.inr ⟨by rfl, rfl⟩) ?_ ?_
      rotate_left
      ·simp only [Act.put, List.setIfInBounds_toArray, List.set_cons_zero, List.set_cons_succ, i64_w, i32_w]
       rfl
      refine pure_ (i := 23) (N := some 47) (v := undef) (a' := ?_) qT36 rfl rfl (any_of HT_.out (by kernel_rfl)) (fun _ _ _ h => h) (Or.inr ⟨by rfl, rfl⟩) ?_ ?_
      rotate_left
      ·simp only [Act.put, List.setIfInBounds_toArray, List.set_cons_zero, List.set_cons_succ, i64_w, i32_w]
       rfl
      refine pure_ (i := 24) (N := some 48) (v := undef) (a' := ?_) qT37 rfl rfl (any_of HT_.out (by kernel_rfl)) (fun _ _ _ h => h) (Or.inr ⟨by rfl, rfl⟩) ?_ ?_
      rotate_left
      ·simp only [Act.put, List.setIfInBounds_toArray, List.set_cons_zero, List.set_cons_succ, i64_w, i32_w]
       rfl
      refine pure_ (i := 25) (N := some 49) (v := undef) (a' := ?_) qT21 rfl rfl (any_of HT_.out (by kernel_rfl)) (fun _ _ _ h => h) (Or.inr ⟨by rfl, rfl⟩) ?_ ?_
      rotate_left
      ·simp only [Act.put, List.setIfInBounds_toArray, List.set_cons_zero, List.set_cons_succ, i64_w, i32_w]
       rfl
      refine pure_ (i := 26) (N := some 50) (v := undef) (a' := ?_) qT22 rfl rfl (any_of HT_.out (by kernel_rfl)) (fun _ _ _ h => h) (Or.inr ⟨by rfl, rfl⟩) ?_ ?_
      rotate_left
      ·simp only [Act.put, List.setIfInBounds_toArray, List.set_cons_zero, List.set_cons_succ, i64_w, i32_w]
       rfl
      refine pure_ (i := 27) (N := some 51) (v := undef) (a' := ?_) qT23 rfl rfl (any_of HT_.out (by kernel_rfl)) (fun _ _ _ h => h) (Or.inr ⟨by rfl, rfl⟩) ?_ ?_
      rotate_left
      ·simp only [Act.put, List.setIfInBounds_toArray, List.set_cons_zero, List.set_cons_succ, i64_w, i32_w]
       rfl
      refine pure_ (i := 28) (N := some 52) (v := undef) (a' := ?_) qT24 rfl rfl (any_of HT_.out (by kernel_rfl)) (fun _ _ _ h => h) (Or.inr ⟨by rfl, rfl⟩) ?_ ?_
      rotate_left
      ·simp only [Act.put, List.setIfInBounds_toArray, List.set_cons_zero, List.set_cons_succ, i64_w, i32_w]
       rfl
      refine pure_ (i := 29) (N := some 53) (v := ?_) (a' := ?_) qT25 rfl rfl (any_of HT_.out (by kernel_rfl)) (fun _ _ _ h => h) (Or.inl ⟨by rfl, ?_⟩) ?_ ?_
      rotate_left
      ·intro w'
       go_simp
       with_reducible rfl
      rotate_left
      ·simp only [Act.put, List.setIfInBounds_toArray, List.set_cons_zero, List.set_cons_succ, i64_w, i32_w]
       rfl
      refine done_ (done_of HT_.out (by kernel_rfl)) ?_
      try go_wp2
      have n0_ := Aside0.mk (Kd.V_drew HO_1.out)
      have n1_ := Aside0.mk (blk_drew BK157.out)
      have n2_ := Aside0.mk (blk_drew BK158.out)
      have n3_ := Aside0.mk (below_drew1 HB.out)
      clear HO_1
      clear BK157
      clear BK158
      clear HB
      have HO_1 := n0_
      have BK157 := n1_
      have BK158 := n2_
      have HB := n3_
      clear n0_ n1_ n2_ n3_
      refine start_ (n := 6) (S := fun w' => w'.cell? ⟨gb157, 0, none⟩ = some (.int .u64 a0_0) ∧ w'.cell? ⟨gb157, 1, none⟩ = some (.int .u64 a0_1) ∧ w'.cell? ⟨gb157, 2, none⟩ = some (.int .u64 a0_2) ∧ w'.cell? ⟨gb157, 3, none⟩ = some (.int .u64 a0_3)) (ds := []) qT26 (by kernel_rfl) rfl rfl ⟨(blk_cell BK157.out 0).trans rfl, (blk_cell BK157.out 1).trans rfl, (blk_cell BK157.out 2).trans rfl, (blk_cell BK157.out 3).trans rfl⟩ (fun hHeld => ?_)
      generalize w9.drew = w10 at HO_1 BK157 BK158 HB hHeld ⊢
      refine pure_ (i := 0) (N := some 54) (v := ?_) (a' := ?_) qT27 rfl rfl (by kernel_rfl) (fun _ _ _ h => h) (Or.inl ⟨by rfl, ?_⟩) ?_ ?_
      rotate_left
      ·intro w'
       go_simp
       with_reducible rfl
      rotate_left
      ·simp only [Act.put, List.setIfInBounds_toArray, List.set_cons_zero, List.set_cons_succ, i64_w, i32_w]
       rfl
      refine pure_ (i := 2) (N := some 6) (v := ?_) (a' := ?_) qT28 rfl rfl (by kernel_rfl) (fun _ _ _ h => h) (Or.inl ⟨by rfl, ?_⟩) ?_ ?_
      rotate_left
      ·intro w'
       go_simp
       with_reducible rfl
      rotate_left
      ·simp only [Act.put, List.setIfInBounds_toArray, List.set_cons_zero, List.set_cons_succ, i64_w, i32_w]
       rfl
      refine pure_ (i := 3) (N := some 7) (v := ?_) (a' := ?_) qT29 rfl rfl (by kernel_rfl) (fun _ _ _ h => h) (Or.inl ⟨by rfl, ?_⟩) ?_ ?_
      rotate_left
      ·intro w'
       go_simp
       with_reducible rfl
      rotate_left
      ·simp only [Act.put, List.setIfInBounds_toArray, List.set_cons_zero, List.set_cons_succ, i64_w, i32_w]
       rfl
      refine take_ (i := 1) (N := some 55) (v := ?_) (a' := ?_) qT30 rfl rfl (by kernel_rfl) (fun _ _ _ h => h) (Or.inl ⟨by rfl, ?_⟩) hHeld ?_ ?_
      rotate_left
      ·rintro w' ⟨s0, s1, s2, s3⟩
       go_simp
       with_reducible rfl
      rotate_left
      ·simp only [Act.put, List.setIfInBounds_toArray, List.set_cons_zero, List.set_cons_succ, i64_w, i32_w]
       rfl
      refine one_ (i := 4) (N := none) qT31 rfl rfl (by kernel_rfl) (by decide) (fun K hK => ?_)
      have hs11 : w10.cell? ⟨gb158, 0, none⟩ = some (.int .u64 y4) := (blk_cell BK158.out 0).trans rfl
      have hfs11 := blk_frozen BK158.out 0
      have hns11_0 := NB157_158.out
      have hms11_0 := NB158_157.out
      have hs12 : w10.cell? ⟨gb158, 1, none⟩ = some (.int .u64 y6) := (blk_cell BK158.out 1).trans rfl
      have hfs12 := blk_frozen BK158.out 1
      have hns12_0 := NB157_158.out
      have hms12_0 := NB158_157.out
      have hs13 : w10.cell? ⟨gb158, 2, none⟩ = some (.int .u64 y8) := (blk_cell BK158.out 2).trans rfl
      have hfs13 := blk_frozen BK158.out 2
      have hns13_0 := NB157_158.out
      have hms13_0 := NB158_157.out
      have hs14 : w10.cell? ⟨gb158, 3, none⟩ = some (.int .u64 ya) := (blk_cell BK158.out 3).trans rfl
      have hfs14 := blk_frozen BK158.out 3
      have hns14_0 := NB157_158.out
      have hms14_0 := NB158_157.out
      refine skip_ (w1 := ?_) (by rfl) rfl ?_ ?_
      rotate_left
      ·go_simp
       rfl
      refine hK.out _ _ ⟨((cell_far (p := ⟨gb158, _, none⟩) NB157_158.out _).trans (((cell_far (p := ⟨gb158, _, none⟩) NB157_158.out _).trans (((cell_far (p := ⟨gb158, _, none⟩) NB157_158.out _).trans (((cell_far (p := ⟨gb158, _, none⟩) NB157_158.out _).trans (hHeld.1)))))))), ((cell_far (p := ⟨gb158, _, none⟩) NB157_158.out _).trans (((cell_far (p := ⟨gb158, _, none⟩) NB157_158.out _).trans (((cell_far (p := ⟨gb158, _, none⟩) NB157_158.out _).trans (((cell_far (p := ⟨gb158, _, none⟩) NB157_158.out _).trans (hHeld.2.1)))))))), ((cell_far (p := ⟨gb158, _, none⟩) NB157_158.out _).trans (((cell_far (p := ⟨gb158, _, none⟩) NB157_158.out _).trans (((cell_far (p := ⟨gb158, _, none⟩) NB157_158.out _).trans (((cell_far (p := ⟨gb158, _, none⟩) NB157_158.out _).trans (hHeld.2.2.1)))))))), ((cell_far (p := ⟨gb158, _, none⟩) NB157_158.out _).trans (((cell_far (p := ⟨gb158, _, none⟩) NB157_158.out _).trans (((cell_far (p := ⟨gb158, _, none⟩) NB157_158.out _).trans (((cell_far (p := ⟨gb158, _, none⟩) NB157_158.out _).trans (hHeld.2.2.2))))))))⟩ (fun hHeld => ?_)
      clear hK K
      refine pure_ (i := 5) (N := some 9) (v := ?_) (a' := ?_) qT32 rfl rfl (by kernel_rfl) (fun _ _ _ h => h) (Or.inl ⟨by rfl, ?_⟩) ?_ ?_
      rotate_left
      ·intro w'
       go_simp
       with_reducible rfl
      rotate_left
      ·simp only [Act.put, List.setIfInBounds_toArray, List.set_cons_zero, List.set_cons_succ, i64_w, i32_w]
       rfl
      refine done_ (by kernel_rfl) ?_
      try go_wp2
      refine bodyPost_ret (results_list (rs := [.tmp 6, .tmp 7, .cell 8 24, .tmp 9]) rfl (by simp) (.tmp (.tmp (.cell gb158 24 #[.int .u64 a0_0, .int .u64 a0_1, .int .u64 a0_2, .int .u64 a0_3] (0, 0) _ rfl (by (with_reducible repeat (first | apply blN | apply blD | apply blA)); refine blk_put (cs := #[.int .u64 a0_0, .int .u64 a0_1, .int .u64 a0_2, .int .u64 ya]) ?_ 3 _ rfl; (with_reducible repeat (first | apply blN | apply blD | apply blA)); refine blk_put (cs := #[.int .u64 a0_0, .int .u64 a0_1, .int .u64 y8, .int .u64 ya]) ?_ 2 _ rfl; (with_reducible repeat (first | apply blN | apply blD | apply blA)); refine blk_put (cs := #[.int .u64 a0_0, .int .u64 y6, .int .u64 y8, .int .u64 ya]) ?_ 1 _ rfl; (with_reducible repeat (first | apply blN | apply blD | apply blA)); refine blk_put (cs := #[.int .u64 y4, .int .u64 y6, .int .u64 y8, .int .u64 ya]) ?_ 0 _ rfl; (with_reducible repeat (first | apply blN | apply blD | apply blA)); exact BK158.out) Try.underlying24 rfl (by kernel_rfl) (.tmp .nil))))) rfl ?_
      exact ⟨_, _, by first | rfl | (simp [errW_none, errW_some] <;> rfl) | (simp [*, errW_none, errW_some] <;> rfl), by (with_reducible repeat (first | apply Kd.V_alloc | apply Kd.V_drewN | apply Kd.V_drew)); exact Kd.V_mono (Kd.V_far (p := ⟨gb158, 3, none⟩) (Kd.V_far (p := ⟨gb158, 2, none⟩) (Kd.V_far (p := ⟨gb158, 1, none⟩) (Kd.V_far (p := ⟨gb158, 0, none⟩) (Kd.V_mono HO_1.out (fun k_ hk => (⟨hk, hk.2.2⟩ : _ ∧ k_ ≠ gb158))) (fun _ hk => hk.2) (.int .u64 a0_0)) (fun _ hk => hk.2) (.int .u64 a0_1)) (fun _ hk => hk.2) (.int .u64 a0_2)) (fun _ hk => hk.2) (.int .u64 a0_3)) (fun _ hk => ⟨hk.1.1, (by simp [Value.ownBlock])⟩), by first | exact Kd.R_nil _ _ _ _ _ | exact Kd.N_nil _ _ _ _ _ | exact Kd.V_nil _ _ _ _ _ | exact Kd.Q_nil _ _ _ _ _ | exact Kd.S_nil _ _ _ _ _, by repeat (first | (with_reducible first | exact HB.out | apply below_alloc | apply pw_below_drewN | apply below_drew1 | refine below_set ?_ GE157.out | refine below_set ?_ GE158.out) | exact HB.out)⟩
     ·rw [if_neg c8] at H
      have c8b0 : decide ((rd l2 x10_1) < 0) = false := decide_eq_false c8
      clear c8
      by_cases c15 : (rd l2 x10_1) ≥ (l1.length : Int)
      ·rw [if_pos c15] at H
       have c15b0 : decide ((l1.length : Int) ≤ (rd l2 x10_1)) = true := decide_eq_true c15
       clear c15
       simp only [Option.some.injEq, Prod.mk.injEq] at H
       obtain ⟨rfl, rfl, rfl, rfl, rfl, rfl, rfl⟩ := H
       try go_wp2
       have n0_ := Aside0.mk (Kd.V_drew HO_1.out)
       have n1_ := Aside0.mk (blk_drew BK157.out)
       have n2_ := Aside0.mk (blk_drew BK158.out)
       have n3_ := Aside0.mk (below_drew1 HB.out)
       clear HO_1
       clear BK157
       clear BK158
       clear HB
       have HO_1 := n0_
       have BK157 := n1_
       have BK158 := n2_
       have HB := n3_
       clear n0_ n1_ n2_ n3_
       have p159 : 0 ≤ (x10_1 : Int) := of_decide_eq_true (by first | (with_reducible assumption) | assumption)
       have q159 : x10_1 < (l2.length : Int) := of_decide_eq_true (by first | (with_reducible assumption) | assumption)
       obtain ⟨ad159, e159, hx159_0⟩ := Kd.at_int HR2.out x10_1 p159 q159
       have hw159_0 := hx159_0
       cases e159
       replace hx159_0 := (HB.out.cell (World.block_lt_of_cell? w _ hx159_0)).trans hx159_0
       replace p159 := eq_true p159
       replace q159 := eq_true q159
       have p160 : 0 ≤ (x10_1 : Int) := of_decide_eq_true (by first | (with_reducible assumption) | assumption)
       have q160 : x10_1 < (l2.length : Int) := of_decide_eq_true (by first | (with_reducible assumption) | assumption)
       obtain ⟨ad160, e160, hx160_0⟩ := Kd.at_int HR2.out x10_1 p160 q160
       have hw160_0 := hx160_0
       obtain rfl : ad159 = ad160 := (by injection e160)
       replace hx160_0 := (HB.out.cell (World.block_lt_of_cell? w _ hx160_0)).trans hx160_0
       replace p160 := eq_true p160
       replace q160 := eq_true q160
       refine start_ (n := 30) (S := fun w' => w'.cell? (ad159.add (x10_1).toNat) = some (.int .i64 (rd l2 x10_1)) ∧ w'.cell? (ad159.add (x10_1).toNat) = some (.int .i64 (rd l2 x10_1))) (ds := []) qT0 (by kernel_rfl) rfl rfl ⟨((HB.out.cell (World.block_lt_of_cell? w _ hw159_0)).trans hw159_0), ((HB.out.cell (World.block_lt_of_cell? w _ hw160_0)).trans hw160_0)⟩ (fun hHeld => ?_); refine with_tabW truceref17_Transfer.tab4 truceref17_Transfer.bits4 (fun HT_ HW_ => ?_)
       generalize wr.drew = w16 at HO_1 BK157 BK158 HB hx159_0 hx160_0 hHeld ⊢
       refine pure_ (i := 0) (N := some 24) (v := ?_) (a' := ?_) qT1 rfl rfl (any_of HT_.out (by kernel_rfl)) (fun _ _ _ h => h) (Or.inl ⟨by rfl, ?_⟩) ?_ ?_
       rotate_left
       ·intro w'
        go_simp
        with_reducible rfl
       rotate_left
       ·simp only [Act.put, List.setIfInBounds_toArray, List.set_cons_zero, List.set_cons_succ, i64_w, i32_w]
        rfl
       refine pure_ (i := 1) (N := some 25) (v := ?_) (a' := ?_) qT2 rfl rfl (any_of HT_.out (by kernel_rfl)) (fun _ _ _ h => h) (Or.inl ⟨by rfl, ?_⟩) ?_ ?_
       rotate_left
       ·intro w'
        go_simp
        with_reducible rfl
       rotate_left
       ·simp only [Act.put, List.setIfInBounds_toArray, List.set_cons_zero, List.set_cons_succ, i64_w, i32_w]
        rfl
       refine pure_ (i := 2) (N := some 26) (v := ?_) (a' := ?_) qT3 rfl rfl (any_of HT_.out (by kernel_rfl)) (fun _ _ _ h => h) (Or.inl ⟨by rfl, ?_⟩) ?_ ?_
       rotate_left
       ·intro w'
        go_simp
        with_reducible rfl
       rotate_left
       ·simp only [Act.put, List.setIfInBounds_toArray, List.set_cons_zero, List.set_cons_succ, i64_w, i32_w]
        rfl
       refine take_ (i := 3) (N := some 27) (v := ?_) (a' := ?_) qT4 rfl rfl (take_ofW HT_.out HW_.out (by kernel_rfl)) (fun _ _ _ h => h) (Or.inl ⟨by rfl, ?_⟩) hHeld ?_ ?_
       rotate_left
       ·rintro w' ⟨s0, s1⟩
        go_simp
        with_reducible rfl
       rotate_left
       ·simp only [Act.put, List.setIfInBounds_toArray, List.set_cons_zero, List.set_cons_succ, i64_w, i32_w]
        rfl
       refine pure_ (i := 4) (N := some 28) (v := ?_) (a' := ?_) qT5 rfl rfl (any_of HT_.out (by kernel_rfl)) (fun _ _ _ h => h) (Or.inl ⟨by rfl, ?_⟩) ?_ ?_
       rotate_left
       ·intro w'
        go_simp
        with_reducible rfl
       rotate_left
       ·simp only [Act.put, List.setIfInBounds_toArray, List.set_cons_zero, List.set_cons_succ, i64_w, i32_w]
        rfl
       refine pure_ (i := 5) (N := some 29) (v := ?_) (a' := ?_) qT6 rfl rfl (any_of HT_.out (by kernel_rfl)) (fun _ _ _ h => h) (Or.inl ⟨by rfl, ?_⟩) ?_ ?_
       rotate_left
       ·intro w'
        go_simp
        with_reducible rfl
       rotate_left
       ·simp only [Act.put, List.setIfInBounds_toArray, List.set_cons_zero, List.set_cons_succ, i64_w, i32_w]
        rfl
       refine pure_ (i := 6) (N := some 30) (v := ?_) (a' := ?_) qT7 rfl rfl (any_of HT_.out (by kernel_rfl)) (fun _ _ _ h => h) (Or.inl ⟨by rfl, ?_⟩) ?_ ?_
       rotate_left
       ·intro w'
        go_simp
        with_reducible rfl
       rotate_left
       ·simp only [Act.put, List.setIfInBounds_toArray, List.set_cons_zero, List.set_cons_succ, i64_w, i32_w]
        rfl
       refine pure_ (i := 7) (N := some 31) (v := ?_) (a' := ?_) qT8 rfl rfl (any_of HT_.out (by kernel_rfl)) (fun _ _ _ h => h) (Or.inl ⟨by rfl, ?_⟩) ?_ ?_
       rotate_left
       ·intro w'
        go_simp
        with_reducible rfl
       rotate_left
       ·simp only [Act.put, List.setIfInBounds_toArray, List.set_cons_zero, List.set_cons_succ, i64_w, i32_w]
        rfl
       refine pure_ (i := 8) (N := some 32) (v := ?_) (a' := ?_) qT9 rfl rfl (any_of HT_.out (by kernel_rfl)) (fun _ _ _ h => h) (Or.inl ⟨by rfl, ?_⟩) ?_ ?_
       rotate_left
       ·intro w'
        go_simp
        with_reducible rfl
       rotate_left
       ·simp only [Act.put, List.setIfInBounds_toArray, List.set_cons_zero, List.set_cons_succ, i64_w, i32_w]
        rfl
       refine pure_ (i := 10) (N := some 34) (v := ?_) (a' := ?_) qT33 rfl rfl (any_of HT_.out (by kernel_rfl)) (fun _ _ _ h => h) (Or.inl ⟨by rfl, ?_⟩) ?_ ?_
       rotate_left
       ·intro w'
        go_simp
        with_reducible rfl
       rotate_left
       ·simp only [Act.put, List.setIfInBounds_toArray, List.set_cons_zero, List.set_cons_succ, i64_w, i32_w]
        rfl
       refine pure_ (i := 11) (N := some 35) (v := ?_) (a' := ?_) qT34 rfl rfl (any_of HT_.out (by kernel_rfl)) (fun _ _ _ h => h) (Or.inl ⟨by rfl, ?_⟩) ?_ ?_
       rotate_left
       ·intro w'
        go_simp
        with_reducible rfl
       rotate_left
       ·simp only [Act.put, List.setIfInBounds_toArray, List.set_cons_zero, List.set_cons_succ, i64_w, i32_w]
        rfl
       refine take_ (i := 9) (N := some 33) (v := ?_) (a' := ?_) qT10 rfl rfl (take_ofW HT_.out HW_.out (by kernel_rfl)) (fun _ _ _ h => h) (Or.inl ⟨by rfl, ?_⟩) hHeld ?_ ?_
       rotate_left
       ·rintro w' ⟨s0, s1⟩
        go_simp
        with_reducible rfl
       rotate_left
       ·simp only [Act.put, List.setIfInBounds_toArray, List.set_cons_zero, List.set_cons_succ, i64_w, i32_w]
        rfl
       refine pure_ (i := 12) (N := some 36) (v := ?_) (a' := ?_) qT11 rfl rfl (any_of HT_.out (by kernel_rfl)) (fun _ _ _ h => h) (Or.inl ⟨by rfl, ?_⟩) ?_ ?_
       rotate_left
       ·intro w'
        go_simp
        with_reducible rfl
       rotate_left
       ·simp only [Act.put, List.setIfInBounds_toArray, List.set_cons_zero, List.set_cons_succ, i64_w, i32_w]
        rfl
       refine pure_ (i := 13) (N := some 37) (v := ?_) (a' := ?_) qT12 rfl rfl (any_of HT_.out (by kernel_rfl)) (fun _ _ _ h => h) (Or.inl ⟨by rfl, ?_⟩) ?_ ?_
       rotate_left
       ·intro w'
        go_simp
        with_reducible rfl
       rotate_left
       ·simp only [Act.put, List.setIfInBounds_toArray, List.set_cons_zero, List.set_cons_succ, i64_w, i32_w]
        rfl
       refine pure_ (i := 14) (N := some 38) (v := ?_) (a' := ?_) qT13 rfl rfl (any_of HT_.out (by kernel_rfl)) (fun _ _ _ h => h) (Or.inl ⟨by rfl, ?_⟩) ?_ ?_
       rotate_left
       ·intro w'
        go_simp
        with_reducible rfl
       rotate_left
       ·simp only [Act.put, List.setIfInBounds_toArray, List.set_cons_zero, List.set_cons_succ, i64_w, i32_w]
        rfl
       refine pure_ (i := 15) (N := some 39) (v := undef) (a' := ?_) qT14 rfl rfl (any_of HT_.out (by kernel_rfl)) (fun _ _ _ h => h) (Or.inr ⟨by rfl, rfl⟩) ?_ ?_
       rotate_left
       ·simp only [Act.put, List.setIfInBounds_toArray, List.set_cons_zero, List.set_cons_succ, i64_w, i32_w]
        rfl
       refine pure_ (i := 16) (N := some 40) (v := undef) (a' := ?_) qT15 rfl rfl (any_of HT_.out (by kernel_rfl)) (fun _ _ _ h => h) (Or.inr ⟨by rfl, rfl⟩) ?_ ?_
       rotate_left
       ·simp only [Act.put, List.setIfInBounds_toArray, List.set_cons_zero, List.set_cons_succ, i64_w, i32_w]
        rfl
       refine pure_ (i := 17) (N := some 41) (v := undef) (a' := ?_) qT16 rfl rfl (any_of HT_.out (by kernel_rfl)) (fun _ _ _ h => h) (Or.inr ⟨by rfl, rfl⟩) ?_ ?_
       rotate_left
       ·simp only [Act.put, List.setIfInBounds_toArray, List.set_cons_zero, List.set_cons_succ, i64_w, i32_w]
        rfl
       refine pure_ (i := 18) (N := some 42) (v := undef) (a' := ?_) qT17 rfl rfl (any_of HT_.out (by kernel_rfl)) (fun _ _ _ h => h) (Or.inr ⟨by rfl, rfl⟩) ?_ ?_
       rotate_left
       ·simp only [Act.put, List.setIfInBounds_toArray, List.set_cons_zero, List.set_cons_succ, i64_w, i32_w]
        rfl
       refine pure_ (i := 19) (N := some 43) (v := undef) (a' := ?_) qT18 rfl rfl (any_of HT_.out (by kernel_rfl)) (fun _ _ _ h => h) (Or.inr ⟨by rfl, rfl⟩) ?_ ?_
       rotate_left
       ·simp only [Act.put, List.setIfInBounds_toArray, List.set_cons_zero, List.set_cons_succ, i64_w, i32_w]
        rfl
       refine pure_ (i := 20) (N := some 44) (v := undef) (a' := ?_) qT19 rfl rfl (any_of HT_.out (by kernel_rfl)) (fun _ _ _ h => h) (Or.inr ⟨by rfl, rfl⟩) ?_ ?_
       rotate_left
       ·simp only [Act.put, List.setIfInBounds_toArray, List.set_cons_zero, List.set_cons_succ, i64_w, i32_w]
        rfl
       refine pure_ (i := 21) (N := some 45) (v := undef) (a' := ?_) qT20 rfl rfl (any_of HT_.out (by kernel_rfl)) (fun _ _ _ h => h) (Or.inr ⟨by rfl, rfl⟩) ?_ ?_
       rotate_left
       ·simp only [Act.put, List.setIfInBounds_toArray, List.set_cons_zero, List.set_cons_succ, i64_w, i32_w]
        rfl
       refine pure_ (i := 22) (N := some 46) (v := undef) (a' := ?_) qT35 rfl rfl (any_of HT_.out (by kernel_rfl)) (fun _ _ _ h => h) (Or.inr ⟨by rfl, rfl⟩) ?_ ?_
       rotate_left
       ·simp only [Act.put, List.setIfInBounds_toArray, List.set_cons_zero, List.set_cons_succ, i64_w, i32_w]
        rfl
       refine pure_ (i := 23) (N := some 47) (v := undef) (a' := ?_) qT36 rfl rfl (any_of HT_.out (by kernel_rfl)) (fun _ _ _ h => h) (Or.inr ⟨by rfl, rfl⟩) ?_ ?_
       rotate_left
       ·simp only [Act.put, List.setIfInBounds_toArray, List.set_cons_zero, List.set_cons_succ, i64_w, i32_w]
        rfl
       refine pure_ (i := 24) (N := some 48) (v := undef) (a' := ?_) qT37 rfl rfl (any_of HT_.out (by kernel_rfl)) (fun _ _ _ h => h) (Or.inr ⟨by rfl, rfl⟩) ?_ ?_
       rotate_left
       ·simp only [Act.put, List.setIfInBounds_toArray, List.set_cons_zero, List.set_cons_succ, i64_w, i32_w]
        rfl
       refine pure_ (i := 25) (N := some 49) (v := undef) (a' := ?_) qT21 rfl rfl (any_of HT_.out (by kernel_rfl)) (fun _ _ _ h => h) (Or.inr ⟨by rfl, rfl⟩) ?_ ?_
       rotate_left
       ·simp only [Act.put, List.setIfInBounds_toArray, List.set_cons_zero, List.set_cons_succ, i64_w, i32_w]
        rfl
       refine pure_ (i := 26) (N := some 50) (v := undef) (a' := ?_) qT22 rfl rfl (any_of HT_.out (by kernel_rfl)) (fun _ _ _ h => h) (Or.inr ⟨by rfl, rfl⟩) ?_ ?_
       rotate_left
       ·simp only [Act.put, List.setIfInBounds_toArray, List.set_cons_zero, List.set_cons_succ, i64_w, i32_w]
        rfl
       refine pure_ (i := 27) (N := some 51) (v := undef) (a' := ?_) qT23 rfl rfl (any_of HT_.out (by kernel_rfl)) (fun _ _ _ h => h) (Or.inr ⟨by rfl, rfl⟩) ?_ ?_
       rotate_left
       ·simp only [Act.put, List.setIfInBounds_toArray, List.set_cons_zero, List.set_cons_succ, i64_w, i32_w]
        rfl
       refine pure_ (i := 28) (N := some 52) (v := undef) (a' := ?_) qT24 rfl rfl (any_of HT_.out (by kernel_rfl)) (fun _ _ _ h => h) (Or.inr ⟨by rfl, rfl⟩) ?_ ?_
       rotate_left
       ·simp only [Act.put, List.setIfInBounds_toArray, List.set_cons_zero, List.set_cons_succ, i64_w, i32_w]
        rfl
       refine pure_ (i := 29) (N := some 53) (v := ?_) (a' := ?_) qT25 rfl rfl (any_of HT_.out (by kernel_rfl)) (fun _ _ _ h => h) (Or.inl ⟨by rfl, ?_⟩) ?_ ?_
       rotate_left
       ·intro w'
        go_simp
        with_reducible rfl
       rotate_left
       ·simp only [Act.put, List.setIfInBounds_toArray, List.set_cons_zero, List.set_cons_succ, i64_w, i32_w]
        rfl
       refine done_ (done_of HT_.out (by kernel_rfl)) ?_
       try go_wp2
       have n0_ := Aside0.mk (Kd.V_drew HO_1.out)
       have n1_ := Aside0.mk (blk_drew BK157.out)
       have n2_ := Aside0.mk (blk_drew BK158.out)
       have n3_ := Aside0.mk (below_drew1 HB.out)
       clear HO_1
       clear BK157
       clear BK158
       clear HB
       have HO_1 := n0_
       have BK157 := n1_
       have BK158 := n2_
       have HB := n3_
       clear n0_ n1_ n2_ n3_
       refine start_ (n := 6) (S := fun w' => w'.cell? ⟨gb157, 0, none⟩ = some (.int .u64 a0_0) ∧ w'.cell? ⟨gb157, 1, none⟩ = some (.int .u64 a0_1) ∧ w'.cell? ⟨gb157, 2, none⟩ = some (.int .u64 a0_2) ∧ w'.cell? ⟨gb157, 3, none⟩ = some (.int .u64 a0_3)) (ds := []) qT26 (by kernel_rfl) rfl rfl ⟨(blk_cell BK157.out 0).trans rfl, (blk_cell BK157.out 1).trans rfl, (blk_cell BK157.out 2).trans rfl, (blk_cell BK157.out 3).trans rfl⟩ (fun hHeld => ?_)
       generalize w16.drew = w17 at HO_1 BK157 BK158 HB hHeld ⊢
       refine pure_ (i := 0) (N := some 54) (v := ?_) (a' := ?_) qT27 rfl rfl (by kernel_rfl) (fun _ _ _ h => h) (Or.inl ⟨by rfl, ?_⟩) ?_ ?_
       rotate_left
       ·intro w'
        go_simp
        with_reducible rfl
       rotate_left
       ·simp only [Act.put, List.setIfInBounds_toArray, List.set_cons_zero, List.set_cons_succ, i64_w, i32_w]
        rfl
       refine pure_ (i := 2) (N := some 6) (v := ?_) (a' := ?_) qT28 rfl rfl (by kernel_rfl) (fun _ _ _ h => h) (Or.inl ⟨by rfl, ?_⟩) ?_ ?_
       rotate_left
       ·intro w'
        go_simp
        with_reducible rfl
       rotate_left
       ·simp only [Act.put, List.setIfInBounds_toArray, List.set_cons_zero, List.set_cons_succ, i64_w, i32_w]
        rfl
       refine pure_ (i := 3) (N := some 7) (v := ?_) (a' := ?_) qT29 rfl rfl (by kernel_rfl) (fun _ _ _ h => h) (Or.inl ⟨by rfl, ?_⟩) ?_ ?_
       rotate_left
       ·intro w'
        go_simp
        with_reducible rfl
       rotate_left
       ·simp only [Act.put, List.setIfInBounds_toArray, List.set_cons_zero, List.set_cons_succ, i64_w, i32_w]
        rfl
       refine take_ (i := 1) (N := some 55) (v := ?_) (a' := ?_) qT30 rfl rfl (by kernel_rfl) (fun _ _ _ h => h) (Or.inl ⟨by rfl, ?_⟩) hHeld ?_ ?_
       rotate_left
       ·rintro w' ⟨s0, s1, s2, s3⟩
        go_simp
        with_reducible rfl
       rotate_left
       ·simp only [Act.put, List.setIfInBounds_toArray, List.set_cons_zero, List.set_cons_succ, i64_w, i32_w]
        rfl
       refine one_ (i := 4) (N := none) qT31 rfl rfl (by kernel_rfl) (by decide) (fun K hK => ?_)
       have hs18 : w17.cell? ⟨gb158, 0, none⟩ = some (.int .u64 y4) := (blk_cell BK158.out 0).trans rfl
       have hfs18 := blk_frozen BK158.out 0
       have hns18_0 := NB157_158.out
       have hms18_0 := NB158_157.out
       have hs19 : w17.cell? ⟨gb158, 1, none⟩ = some (.int .u64 y6) := (blk_cell BK158.out 1).trans rfl
       have hfs19 := blk_frozen BK158.out 1
       have hns19_0 := NB157_158.out
       have hms19_0 := NB158_157.out
       have hs20 : w17.cell? ⟨gb158, 2, none⟩ = some (.int .u64 y8) := (blk_cell BK158.out 2).trans rfl
       have hfs20 := blk_frozen BK158.out 2
       have hns20_0 := NB157_158.out
       have hms20_0 := NB158_157.out
       have hs21 : w17.cell? ⟨gb158, 3, none⟩ = some (.int .u64 ya) := (blk_cell BK158.out 3).trans rfl
       have hfs21 := blk_frozen BK158.out 3
       have hns21_0 := NB157_158.out
       have hms21_0 := NB158_157.out
       refine skip_ (w1 := ?_) (by rfl) rfl ?_ ?_
       rotate_left
       ·go_simp
        rfl
       refine hK.out _ _ ⟨((cell_far (p := ⟨gb158, _, none⟩) NB157_158.out _).trans (((cell_far (p := ⟨gb158, _, none⟩) NB157_158.out _).trans (((cell_far (p := ⟨gb158, _, none⟩) NB157_158.out _).trans (((cell_far (p := ⟨gb158, _, none⟩) NB157_158.out _).trans (hHeld.1)))))))), ((cell_far (p := ⟨gb158, _, none⟩) NB157_158.out _).trans (((cell_far (p := ⟨gb158, _, none⟩) NB157_158.out _).trans (((cell_far (p := ⟨gb158, _, none⟩) NB157_158.out _).trans (((cell_far (p := ⟨gb158, _, none⟩) NB157_158.out _).trans (hHeld.2.1)))))))), ((cell_far (p := ⟨gb158, _, none⟩) NB157_158.out _).trans (((cell_far (p := ⟨gb158, _, none⟩) NB157_158.out _).trans (((cell_far (p := ⟨gb158, _, none⟩) NB157_158.out _).trans (((cell_far (p := ⟨gb158, _, none⟩) NB157_158.out _).trans (hHeld.2.2.1)))))))), ((cell_far (p := ⟨gb158, _, none⟩) NB157_158.out _).trans (((cell_far (p := ⟨gb158, _, none⟩) NB157_158.out _).trans (((cell_far (p := ⟨gb158, _, none⟩) NB157_158.out _).trans (((cell_far (p := ⟨gb158, _, none⟩) NB157_158.out _).trans (hHeld.2.2.2))))))))⟩ (fun hHeld => ?_)
       clear hK K
       refine pure_ (i := 5) (N := some 9) (v := ?_) (a' := ?_) qT32 rfl rfl (by kernel_rfl) (fun _ _ _ h => h) (Or.inl ⟨by rfl, ?_⟩) ?_ ?_
       rotate_left
       ·intro w'
        go_simp
        with_reducible rfl
       rotate_left
       ·simp only [Act.put, List.setIfInBounds_toArray, List.set_cons_zero, List.set_cons_succ, i64_w, i32_w]
        rfl
       refine done_ (by kernel_rfl) ?_
       try go_wp2
       refine bodyPost_ret (results_list (rs := [.tmp 6, .tmp 7, .cell 8 24, .tmp 9]) rfl (by simp) (.tmp (.tmp (.cell gb158 24 #[.int .u64 a0_0, .int .u64 a0_1, .int .u64 a0_2, .int .u64 a0_3] (0, 0) _ rfl (by (with_reducible repeat (first | apply blN | apply blD | apply blA)); refine blk_put (cs := #[.int .u64 a0_0, .int .u64 a0_1, .int .u64 a0_2, .int .u64 ya]) ?_ 3 _ rfl; (with_reducible repeat (first | apply blN | apply blD | apply blA)); refine blk_put (cs := #[.int .u64 a0_0, .int .u64 a0_1, .int .u64 y8, .int .u64 ya]) ?_ 2 _ rfl; (with_reducible repeat (first | apply blN | apply blD | apply blA)); refine blk_put (cs := #[.int .u64 a0_0, .int .u64 y6, .int .u64 y8, .int .u64 ya]) ?_ 1 _ rfl; (with_reducible repeat (first | apply blN | apply blD | apply blA)); refine blk_put (cs := #[.int .u64 y4, .int .u64 y6, .int .u64 y8, .int .u64 ya]) ?_ 0 _ rfl; (with_reducible repeat (first | apply blN | apply blD | apply blA)); exact BK158.out) Try.underlying24 rfl (by kernel_rfl) (.tmp .nil))))) rfl ?_
       exact ⟨_, _, by first | rfl | (simp [errW_none, errW_some] <;> rfl) | (simp [*, errW_none, errW_some] <;> rfl), by (with_reducible repeat (first | apply Kd.V_alloc | apply Kd.V_drewN | apply Kd.V_drew)); exact Kd.V_mono (Kd.V_far (p := ⟨gb158, 3, none⟩) (Kd.V_far (p := ⟨gb158, 2, none⟩) (Kd.V_far (p := ⟨gb158, 1, none⟩) (Kd.V_far (p := ⟨gb158, 0, none⟩) (Kd.V_mono HO_1.out (fun k_ hk => (⟨hk, hk.2.2⟩ : _ ∧ k_ ≠ gb158))) (fun _ hk => hk.2) (.int .u64 a0_0)) (fun _ hk => hk.2) (.int .u64 a0_1)) (fun _ hk => hk.2) (.int .u64 a0_2)) (fun _ hk => hk.2) (.int .u64 a0_3)) (fun _ hk => ⟨hk.1.1, (by simp [Value.ownBlock])⟩), by first | exact Kd.R_nil _ _ _ _ _ | exact Kd.N_nil _ _ _ _ _ | exact Kd.V_nil _ _ _ _ _ | exact Kd.Q_nil _ _ _ _ _ | exact Kd.S_nil _ _ _ _ _, by repeat (first | (with_reducible first | exact HB.out | apply below_alloc | apply pw_below_drewN | apply below_drew1 | refine below_set ?_ GE157.out | refine below_set ?_ GE158.out) | exact HB.out)⟩
      ·rw [if_neg c15] at H
       have c15b0 : decide ((l1.length : Int) ≤ (rd l2 x10_1)) = false := decide_eq_false c15
       clear c15
       by_cases c22 : x10_1 > 0
       ·rw [if_pos c22] at H
        have c22b0 : decide (0 < x10_1) = true := decide_eq_true c22
        clear c22
        obtain ⟨ji23, hji23⟩ : ∃ j_ : Int, (wrap64 (x10_1 - 1)) = j_ := ⟨_, rfl⟩
        replace H : (if 0 ≤ (ji23) then (if (ji23) < (l2.length : Int) then (if (rd l2 (ji23)) ≥ (rd l2 x10_1) then (some (l1, ([] : List (S24)), a0_0, a0_1, a0_2, a0_3, 3)) else (truceref17_Transfer.l0 k1 l1 l2 (wrap64 (x10_1 + 1)) a0_0 a0_1 a0_2 a0_3)) else (none)) else (none)) = some (r1, r2, r3, r4, r5, r6, r7) := by first | (rw [hji23] at H; exact H) | (simp only [hji23] at H ⊢; exact H)
        have hji23w : (IntKind.i64.wrap (x10_1 - 1)) = ji23 := (i64_w _).trans hji23
        by_cases c24 : 0 ≤ (ji23)
        ·rw [if_pos c24] at H
         have c24b0 : decide (0 ≤ (ji23)) = true := decide_eq_true c24
         clear c24
         by_cases c25 : (ji23) < (l2.length : Int)
         ·rw [if_pos c25] at H
          have c25b0 : decide ((ji23) < (l2.length : Int)) = true := decide_eq_true c25
          clear c25
          by_cases c26 : (rd l2 (ji23)) ≥ (rd l2 x10_1)
          ·rw [if_pos c26] at H
           have c26b0 : decide ((rd l2 x10_1) ≤ (rd l2 (ji23))) = true := decide_eq_true c26
           clear c26
           simp only [Option.some.injEq, Prod.mk.injEq] at H
           obtain ⟨rfl, rfl, rfl, rfl, rfl, rfl, rfl⟩ := H
           try go_wp2
           have n0_ := Aside0.mk (Kd.V_drew HO_1.out)
           have n1_ := Aside0.mk (blk_drew BK157.out)
           have n2_ := Aside0.mk (blk_drew BK158.out)
           have n3_ := Aside0.mk (below_drew1 HB.out)
           clear HO_1
           clear BK157
           clear BK158
           clear HB
           have HO_1 := n0_
           have BK157 := n1_
           have BK158 := n2_
           have HB := n3_
           clear n0_ n1_ n2_ n3_
           have p159 : 0 ≤ (x10_1 : Int) := of_decide_eq_true (by first | (with_reducible assumption) | assumption)
           have q159 : x10_1 < (l2.length : Int) := of_decide_eq_true (by first | (with_reducible assumption) | assumption)
           obtain ⟨ad159, e159, hx159_0⟩ := Kd.at_int HR2.out x10_1 p159 q159
           have hw159_0 := hx159_0
           cases e159
           replace hx159_0 := (HB.out.cell (World.block_lt_of_cell? w _ hx159_0)).trans hx159_0
           replace p159 := eq_true p159
           replace q159 := eq_true q159
           have p160 : 0 ≤ (x10_1 : Int) := of_decide_eq_true (by first | (with_reducible assumption) | assumption)
           have q160 : x10_1 < (l2.length : Int) := of_decide_eq_true (by first | (with_reducible assumption) | assumption)
           obtain ⟨ad160, e160, hx160_0⟩ := Kd.at_int HR2.out x10_1 p160 q160
           have hw160_0 := hx160_0
           obtain rfl : ad159 = ad160 := (by injection e160)
           replace hx160_0 := (HB.out.cell (World.block_lt_of_cell? w _ hx160_0)).trans hx160_0
           replace p160 := eq_true p160
           replace q160 := eq_true q160
           have p161 : 0 ≤ ((ji23) : Int) := of_decide_eq_true (by first | (with_reducible assumption) | assumption)
           have q161 : (ji23) < (l2.length : Int) := of_decide_eq_true (by first | (with_reducible assumption) | assumption)
           obtain ⟨ad161, e161, hx161_0⟩ := Kd.at_int HR2.out (ji23) p161 q161
           have hw161_0 := hx161_0
           obtain rfl : ad159 = ad161 := (by injection e161)
           replace hx161_0 := (HB.out.cell (World.block_lt_of_cell? w _ hx161_0)).trans hx161_0
           replace p161 := eq_true p161
           replace q161 := eq_true q161
           have p162 : 0 ≤ (x10_1 : Int) := of_decide_eq_true (by first | (with_reducible assumption) | assumption)
           have q162 : x10_1 < (l2.length : Int) := of_decide_eq_true (by first | (with_reducible assumption) | assumption)
           obtain ⟨ad162, e162, hx162_0⟩ := Kd.at_int HR2.out x10_1 p162 q162
           have hw162_0 := hx162_0
           obtain rfl : ad159 = ad162 := (by injection e162)
           replace hx162_0 := (HB.out.cell (World.block_lt_of_cell? w _ hx162_0)).trans hx162_0
           replace p162 := eq_true p162
           replace q162 := eq_true q162
           refine start_ (n := 30) (S := fun w' => w'.cell? (ad159.add (x10_1).toNat) = some (.int .i64 (rd l2 x10_1)) ∧ w'.cell? (ad159.add (x10_1).toNat) = some (.int .i64 (rd l2 x10_1)) ∧ w'.cell? (ad159.add ((ji23)).toNat) = some (.int .i64 (rd l2 (ji23))) ∧ w'.cell? (ad159.add (x10_1).toNat) = some (.int .i64 (rd l2 x10_1))) (ds := []) qT0 (by kernel_rfl) rfl rfl ⟨((HB.out.cell (World.block_lt_of_cell? w _ hw159_0)).trans hw159_0), ((HB.out.cell (World.block_lt_of_cell? w _ hw160_0)).trans hw160_0), ((HB.out.cell (World.block_lt_of_cell? w _ hw161_0)).trans hw161_0), ((HB.out.cell (World.block_lt_of_cell? w _ hw162_0)).trans hw162_0)⟩ (fun hHeld => ?_); refine with_tabW truceref17_Transfer.tab4 truceref17_Transfer.bits4 (fun HT_ HW_ => ?_)
           generalize wr.drew = w27 at HO_1 BK157 BK158 HB hx159_0 hx160_0 hx161_0 hx162_0 hHeld ⊢
           refine pure_ (i := 0) (N := some 24) (v := ?_) (a' := ?_) qT1 rfl rfl (any_of HT_.out (by kernel_rfl)) (fun _ _ _ h => h) (Or.inl ⟨by rfl, ?_⟩) ?_ ?_
           rotate_left
           ·intro w'
            go_simp
            with_reducible rfl
           rotate_left
           ·simp only [Act.put, List.setIfInBounds_toArray, List.set_cons_zero, List.set_cons_succ, i64_w, i32_w]
            rfl
           refine pure_ (i := 1) (N := some 25) (v := ?_) (a' := ?_) qT2 rfl rfl (any_of HT_.out (by kernel_rfl)) (fun _ _ _ h => h) (Or.inl ⟨by rfl, ?_⟩) ?_ ?_
           rotate_left
           ·intro w'
            go_simp
            with_reducible rfl
           rotate_left
           ·simp only [Act.put, List.setIfInBounds_toArray, List.set_cons_zero, List.set_cons_succ, i64_w, i32_w]
            rfl
           refine pure_ (i := 2) (N := some 26) (v := ?_) (a' := ?_) qT3 rfl rfl (any_of HT_.out (by kernel_rfl)) (fun _ _ _ h => h) (Or.inl ⟨by rfl, ?_⟩) ?_ ?_
           rotate_left
           ·intro w'
            go_simp
            with_reducible rfl
           rotate_left
           ·simp only [Act.put, List.setIfInBounds_toArray, List.set_cons_zero, List.set_cons_succ, i64_w, i32_w]
            rfl
           refine take_ (i := 3) (N := some 27) (v := ?_) (a' := ?_) qT4 rfl rfl (take_ofW HT_.out HW_.out (by kernel_rfl)) (fun _ _ _ h => h) (Or.inl ⟨by rfl, ?_⟩) hHeld ?_ ?_
           rotate_left
           ·rintro w' ⟨s0, s1, s2, s3⟩
            go_simp
            with_reducible rfl
           rotate_left
           ·simp only [Act.put, List.setIfInBounds_toArray, List.set_cons_zero, List.set_cons_succ, i64_w, i32_w]
            rfl
           refine pure_ (i := 4) (N := some 28) (v := ?_) (a' := ?_) qT5 rfl rfl (any_of HT_.out (by kernel_rfl)) (fun _ _ _ h => h) (Or.inl ⟨by rfl, ?_⟩) ?_ ?_
           rotate_left
           ·intro w'
            go_simp
            with_reducible rfl
           rotate_left
           ·simp only [Act.put, List.setIfInBounds_toArray, List.set_cons_zero, List.set_cons_succ, i64_w, i32_w]
            rfl
           refine pure_ (i := 5) (N := some 29) (v := ?_) (a' := ?_) qT6 rfl rfl (any_of HT_.out (by kernel_rfl)) (fun _ _ _ h => h) (Or.inl ⟨by rfl, ?_⟩) ?_ ?_
           rotate_left
           ·intro w'
            go_simp
            with_reducible rfl
           rotate_left
           ·simp only [Act.put, List.setIfInBounds_toArray, List.set_cons_zero, List.set_cons_succ, i64_w, i32_w]
            rfl
           refine pure_ (i := 6) (N := some 30) (v := ?_) (a' := ?_) qT7 rfl rfl (any_of HT_.out (by kernel_rfl)) (fun _ _ _ h => h) (Or.inl ⟨by rfl, ?_⟩) ?_ ?_
           rotate_left
           ·intro w'
            go_simp
            with_reducible rfl
           rotate_left
           ·simp only [Act.put, List.setIfInBounds_toArray, List.set_cons_zero, List.set_cons_succ, i64_w, i32_w]
            rfl
           refine pure_ (i := 7) (N := some 31) (v := ?_) (a' := ?_) qT8 rfl rfl (any_of HT_.out (by kernel_rfl)) (fun _ _ _ h => h) (Or.inl ⟨by rfl, ?_⟩) ?_ ?_
           rotate_left
           ·intro w'
            go_simp
            with_reducible rfl
           rotate_left
           ·simp only [Act.put, List.setIfInBounds_toArray, List.set_cons_zero, List.set_cons_succ, i64_w, i32_w]
            rfl
           refine pure_ (i := 8) (N := some 32) (v := ?_) (a' := ?_) qT9 rfl rfl (any_of HT_.out (by kernel_rfl)) (fun _ _ _ h => h) (Or.inl ⟨by rfl, ?_⟩) ?_ ?_
           rotate_left
           ·intro w'
            go_simp
            with_reducible rfl
           rotate_left
           ·simp only [Act.put, List.setIfInBounds_toArray, List.set_cons_zero, List.set_cons_succ, i64_w, i32_w]
            rfl
           refine pure_ (i := 10) (N := some 34) (v := ?_) (a' := ?_) qT33 rfl rfl (any_of HT_.out (by kernel_rfl)) (fun _ _ _ h => h) (Or.inl ⟨by rfl, ?_⟩) ?_ ?_
           rotate_left
           ·intro w'
            go_simp
            with_reducible rfl
           rotate_left
           ·simp only [Act.put, List.setIfInBounds_toArray, List.set_cons_zero, List.set_cons_succ, i64_w, i32_w]
            rfl
           refine pure_ (i := 11) (N := some 35) (v := ?_) (a' := ?_) qT34 rfl rfl (any_of HT_.out (by kernel_rfl)) (fun _ _ _ h => h) (Or.inl ⟨by rfl, ?_⟩) ?_ ?_
           rotate_left
           ·intro w'
            go_simp
            with_reducible rfl
           rotate_left
           ·simp only [Act.put, List.setIfInBounds_toArray, List.set_cons_zero, List.set_cons_succ, i64_w, i32_w]
            rfl
           refine take_ (i := 9) (N := some 33) (v := ?_) (a' := ?_) qT10 rfl rfl (take_ofW HT_.out HW_.out (by kernel_rfl)) (fun _ _ _ h => h) (Or.inl ⟨by rfl, ?_⟩) hHeld ?_ ?_
           rotate_left
           ·rintro w' ⟨s0, s1, s2, s3⟩
            go_simp
            with_reducible rfl
           rotate_left
           ·simp only [Act.put, List.setIfInBounds_toArray, List.set_cons_zero, List.set_cons_succ, i64_w, i32_w]
            rfl
           refine pure_ (i := 12) (N := some 36) (v := ?_) (a' := ?_) qT11 rfl rfl (any_of HT_.out (by kernel_rfl)) (fun _ _ _ h => h) (Or.inl ⟨by rfl, ?_⟩) ?_ ?_
           rotate_left
           ·intro w'
            go_simp
            with_reducible rfl
           rotate_left
           ·simp only [Act.put, List.setIfInBounds_toArray, List.set_cons_zero, List.set_cons_succ, i64_w, i32_w]
            rfl
           refine pure_ (i := 13) (N := some 37) (v := ?_) (a' := ?_) qT12 rfl rfl (any_of HT_.out (by kernel_rfl)) (fun _ _ _ h => h) (Or.inl ⟨by rfl, ?_⟩) ?_ ?_
           rotate_left
           ·intro w'
            go_simp
            with_reducible rfl
           rotate_left
           ·simp only [Act.put, List.setIfInBounds_toArray, List.set_cons_zero, List.set_cons_succ, i64_w, i32_w]
            rfl
           refine pure_ (i := 14) (N := some 38) (v := ?_) (a' := ?_) qT13 rfl rfl (any_of HT_.out (by kernel_rfl)) (fun _ _ _ h => h) (Or.inl ⟨by rfl, ?_⟩) ?_ ?_
           rotate_left
           ·intro w'
            go_simp
            with_reducible rfl
           rotate_left
           ·simp only [Act.put, List.setIfInBounds_toArray, List.set_cons_zero, List.set_cons_succ, i64_w, i32_w]
            rfl
           refine pure_ (i := 15) (N := some 39) (v := ?_) (a' := ?_) qT14 rfl rfl (any_of HT_.out (by kernel_rfl)) (fun _ _ _ h => h) (Or.inl ⟨by rfl, ?_⟩) ?_ ?_
           rotate_left
           ·intro w'
            go_simp
            with_reducible rfl
           rotate_left
           ·simp only [Act.put, List.setIfInBounds_toArray, List.set_cons_zero, List.set_cons_succ, i64_w, i32_w]
            rfl
           refine pure_ (i := 16) (N := some 40) (v := ?_) (a' := ?_) qT15 rfl rfl (any_of HT_.out (by kernel_rfl)) (fun _ _ _ h => h) (Or.inl ⟨by rfl, ?_⟩) ?_ ?_
           rotate_left
           ·intro w'
            go_simp
            with_reducible rfl
           rotate_left
           ·simp only [Act.put, List.setIfInBounds_toArray, List.set_cons_zero, List.set_cons_succ, i64_w, i32_w]
            rfl
           refine pure_ (i := 17) (N := some 41) (v := ?_) (a' := ?_) qT16 rfl rfl (any_of HT_.out (by kernel_rfl)) (fun _ _ _ h => h) (Or.inl ⟨by rfl, ?_⟩) ?_ ?_
           rotate_left
           ·intro w'
            go_simp
            with_reducible rfl
           rotate_left
           ·simp only [Act.put, List.setIfInBounds_toArray, List.set_cons_zero, List.set_cons_succ, i64_w, i32_w]
            rfl
           refine pure_ (i := 18) (N := some 42) (v := ?_) (a' := ?_) qT17 rfl rfl (any_of HT_.out (by kernel_rfl)) (fun _ _ _ h => h) (Or.inl ⟨by rfl, ?_⟩) ?_ ?_
           rotate_left
           ·intro w'
            go_simp
            with_reducible rfl
           rotate_left
           ·simp only [Act.put, List.setIfInBounds_toArray, List.set_cons_zero, List.set_cons_succ, i64_w, i32_w]
            rfl
           refine pure_ (i := 19) (N := some 43) (v := ?_) (a' := ?_) qT18 rfl rfl (any_of HT_.out (by kernel_rfl)) (fun _ _ _ h => h) (Or.inl ⟨by rfl, ?_⟩) ?_ ?_
           rotate_left
           ·intro w'
            go_simp
            with_reducible rfl
           rotate_left
           ·simp only [Act.put, List.setIfInBounds_toArray, List.set_cons_zero, List.set_cons_succ, i64_w, i32_w]
            rfl
           refine pure_ (i := 20) (N := some 44) (v := ?_) (a' := ?_) qT19 rfl rfl (any_of HT_.out (by kernel_rfl)) (fun _ _ _ h => h) (Or.inl ⟨by rfl, ?_⟩) ?_ ?_
           rotate_left
           ·intro w'
            go_simp
            with_reducible rfl
           rotate_left
           ·simp only [Act.put, List.setIfInBounds_toArray, List.set_cons_zero, List.set_cons_succ, i64_w, i32_w]
            rfl
           refine pure_ (i := 21) (N := some 45) (v := ?_) (a' := ?_) qT20 rfl rfl (any_of HT_.out (by kernel_rfl)) (fun _ _ _ h => h) (Or.inl ⟨by rfl, ?_⟩) ?_ ?_
           rotate_left
           ·intro w'
            go_simp
            with_reducible rfl
           rotate_left
           ·simp only [Act.put, List.setIfInBounds_toArray, List.set_cons_zero, List.set_cons_succ, i64_w, i32_w]
            rfl
           refine pure_ (i := 23) (N := some 47) (v := ?_) (a' := ?_) qT38 rfl rfl (any_of HT_.out (by kernel_rfl)) (fun _ _ _ h => h) (Or.inl ⟨by rfl, ?_⟩) ?_ ?_
           rotate_left
           ·intro w'
            go_simp
            with_reducible rfl
           rotate_left
           ·simp only [Act.put, List.setIfInBounds_toArray, List.set_cons_zero, List.set_cons_succ, i64_w, i32_w]
            rfl
           refine pure_ (i := 24) (N := some 48) (v := ?_) (a' := ?_) qT39 rfl rfl (any_of HT_.out (by kernel_rfl)) (fun _ _ _ h => h) (Or.inl ⟨by rfl, ?_⟩) ?_ ?_
           rotate_left
           ·intro w'
            go_simp
            with_reducible rfl
           rotate_left
           ·simp only [Act.put, List.setIfInBounds_toArray, List.set_cons_zero, List.set_cons_succ, i64_w, i32_w]
            rfl
           refine pure_ (i := 25) (N := some 49) (v := ?_) (a' := ?_) qT40 rfl rfl (any_of HT_.out (by kernel_rfl)) (fun _ _ _ h => h) (Or.inl ⟨by rfl, ?_⟩) ?_ ?_
           rotate_left
           ·intro w'
            go_simp
            with_reducible rfl
           rotate_left
           ·simp only [Act.put, List.setIfInBounds_toArray, List.set_cons_zero, List.set_cons_succ, i64_w, i32_w]
            rfl
           refine take_ (i := 22) (N := some 46) (v := ?_) (a' := ?_) qT21 rfl rfl (take_ofW HT_.out HW_.out (by kernel_rfl)) (fun _ _ _ h => h) (Or.inl ⟨by rfl, ?_⟩) hHeld ?_ ?_
           rotate_left
           ·rintro w' ⟨s0, s1, s2, s3⟩
            go_simp
            with_reducible rfl
           rotate_left
           ·simp only [Act.put, List.setIfInBounds_toArray, List.set_cons_zero, List.set_cons_succ, i64_w, i32_w]
            rfl
           refine take_ (i := 26) (N := some 50) (v := ?_) (a' := ?_) qT22 rfl rfl (take_ofW HT_.out HW_.out (by kernel_rfl)) (fun _ _ _ h => h) (Or.inl ⟨by rfl, ?_⟩) hHeld ?_ ?_
           rotate_left
           ·rintro w' ⟨s0, s1, s2, s3⟩
            go_simp
            with_reducible rfl
           rotate_left
           ·simp only [Act.put, List.setIfInBounds_toArray, List.set_cons_zero, List.set_cons_succ, i64_w, i32_w]
            rfl
           refine pure_ (i := 27) (N := some 51) (v := ?_) (a' := ?_) qT23 rfl rfl (any_of HT_.out (by kernel_rfl)) (fun _ _ _ h => h) (Or.inl ⟨by rfl, ?_⟩) ?_ ?_
           rotate_left
           ·intro w'
            go_simp
            with_reducible rfl
           rotate_left
           ·simp only [Act.put, List.setIfInBounds_toArray, List.set_cons_zero, List.set_cons_succ, i64_w, i32_w]
            rfl
           refine pure_ (i := 28) (N := some 52) (v := ?_) (a' := ?_) qT24 rfl rfl (any_of HT_.out (by kernel_rfl)) (fun _ _ _ h => h) (Or.inl ⟨by rfl, ?_⟩) ?_ ?_
           rotate_left
           ·intro w'
            go_simp
            with_reducible rfl
           rotate_left
           ·simp only [Act.put, List.setIfInBounds_toArray, List.set_cons_zero, List.set_cons_succ, i64_w, i32_w]
            rfl
           refine pure_ (i := 29) (N := some 53) (v := ?_) (a' := ?_) qT25 rfl rfl (any_of HT_.out (by kernel_rfl)) (fun _ _ _ h => h) (Or.inl ⟨by rfl, ?_⟩) ?_ ?_
           rotate_left
           ·intro w'
            go_simp
            with_reducible rfl
           rotate_left
           ·simp only [Act.put, List.setIfInBounds_toArray, List.set_cons_zero, List.set_cons_succ, i64_w, i32_w]
            rfl
           refine done_ (done_of HT_.out (by kernel_rfl)) ?_
           try go_wp2
           have n0_ := Aside0.mk (Kd.V_drew HO_1.out)
           have n1_ := Aside0.mk (blk_drew BK157.out)
           have n2_ := Aside0.mk (blk_drew BK158.out)
           have n3_ := Aside0.mk (below_drew1 HB.out)
           clear HO_1
           clear BK157
           clear BK158
           clear HB
           have HO_1 := n0_
           have BK157 := n1_
           have BK158 := n2_
           have HB := n3_
           clear n0_ n1_ n2_ n3_
           refine start_ (n := 6) (S := fun w' => w'.cell? ⟨gb157, 0, none⟩ = some (.int .u64 a0_0) ∧ w'.cell? ⟨gb157, 1, none⟩ = some (.int .u64 a0_1) ∧ w'.cell? ⟨gb157, 2, none⟩ = some (.int .u64 a0_2) ∧ w'.cell? ⟨gb157, 3, none⟩ = some (.int .u64 a0_3)) (ds := []) qT26 (by kernel_rfl) rfl rfl ⟨(blk_cell BK157.out 0).trans rfl, (blk_cell BK157.out 1).trans rfl, (blk_cell BK157.out 2).trans rfl, (blk_cell BK157.out 3).trans rfl⟩ (fun hHeld => ?_)
           generalize w27.drew = w28 at HO_1 BK157 BK158 HB hHeld ⊢
           refine pure_ (i := 0) (N := some 54) (v := ?_) (a' := ?_) qT27 rfl rfl (by kernel_rfl) (fun _ _ _ h => h) (Or.inl ⟨by rfl, ?_⟩) ?_ ?_
           rotate_left
           ·intro w'
            go_simp
            with_reducible rfl
           rotate_left
           ·simp only [Act.put, List.setIfInBounds_toArray, List.set_cons_zero, List.set_cons_succ, i64_w, i32_w]
            rfl
           refine pure_ (i := 2) (N := some 6) (v := ?_) (a' := ?_) qT28 rfl rfl (by kernel_rfl) (fun _ _ _ h => h) (Or.inl ⟨by rfl, ?_⟩) ?_ ?_
           rotate_left
           ·intro w'
            go_simp
            with_reducible rfl
           rotate_left
           ·simp only [Act.put, List.setIfInBounds_toArray, List.set_cons_zero, List.set_cons_succ, i64_w, i32_w]
            rfl
           refine pure_ (i := 3) (N := some 7) (v := ?_) (a' := ?_) qT29 rfl rfl (by kernel_rfl) (fun _ _ _ h => h) (Or.inl ⟨by rfl, ?_⟩) ?_ ?_
           rotate_left
           ·intro w'
            go_simp
            with_reducible rfl
           rotate_left
           ·simp only [Act.put, List.setIfInBounds_toArray, List.set_cons_zero, List.set_cons_succ, i64_w, i32_w]
            rfl
           refine take_ (i := 1) (N := some 55) (v := ?_) (a' := ?_) qT30 rfl rfl (by kernel_rfl) (fun _ _ _ h => h) (Or.inl ⟨by rfl, ?_⟩) hHeld ?_ ?_
           rotate_left
           ·rintro w' ⟨s0, s1, s2, s3⟩
            go_simp
            with_reducible rfl
           rotate_left
           ·simp only [Act.put, List.setIfInBounds_toArray, List.set_cons_zero, List.set_cons_succ, i64_w, i32_w]
            rfl
           refine one_ (i := 4) (N := none) qT31 rfl rfl (by kernel_rfl) (by decide) (fun K hK => ?_)
           have hs29 : w28.cell? ⟨gb158, 0, none⟩ = some (.int .u64 y4) := (blk_cell BK158.out 0).trans rfl
           have hfs29 := blk_frozen BK158.out 0
           have hns29_0 := NB157_158.out
           have hms29_0 := NB158_157.out
           have hs30 : w28.cell? ⟨gb158, 1, none⟩ = some (.int .u64 y6) := (blk_cell BK158.out 1).trans rfl
           have hfs30 := blk_frozen BK158.out 1
           have hns30_0 := NB157_158.out
           have hms30_0 := NB158_157.out
           have hs31 : w28.cell? ⟨gb158, 2, none⟩ = some (.int .u64 y8) := (blk_cell BK158.out 2).trans rfl
           have hfs31 := blk_frozen BK158.out 2
           have hns31_0 := NB157_158.out
           have hms31_0 := NB158_157.out
           have hs32 : w28.cell? ⟨gb158, 3, none⟩ = some (.int .u64 ya) := (blk_cell BK158.out 3).trans rfl
           have hfs32 := blk_frozen BK158.out 3
           have hns32_0 := NB157_158.out
           have hms32_0 := NB158_157.out
           refine skip_ (w1 := ?_) (by rfl) rfl ?_ ?_
           rotate_left
           ·go_simp
            rfl
           refine hK.out _ _ ⟨((cell_far (p := ⟨gb158, _, none⟩) NB157_158.out _).trans (((cell_far (p := ⟨gb158, _, none⟩) NB157_158.out _).trans (((cell_far (p := ⟨gb158, _, none⟩) NB157_158.out _).trans (((cell_far (p := ⟨gb158, _, none⟩) NB157_158.out _).trans (hHeld.1)))))))), ((cell_far (p := ⟨gb158, _, none⟩) NB157_158.out _).trans (((cell_far (p := ⟨gb158, _, none⟩) NB157_158.out _).trans (((cell_far (p := ⟨gb158, _, none⟩) NB157_158.out _).trans (((cell_far (p := ⟨gb158, _, none⟩) NB157_158.out _).trans (hHeld.2.1)))))))), ((cell_far (p := ⟨gb158, _, none⟩) NB157_158.out _).trans (((cell_far (p := ⟨gb158, _, none⟩) NB157_158.out _).trans (((cell_far (p := ⟨gb158, _, none⟩) NB157_158.out _).trans (((cell_far (p := ⟨gb158, _, none⟩) NB157_158.out _).trans (hHeld.2.2.1)))))))), ((cell_far (p := ⟨gb158, _, none⟩) NB157_158.out _).trans (((cell_far (p := ⟨gb158, _, none⟩) NB157_158.out _).trans (((cell_far (p := ⟨gb158, _, none⟩) NB157_158.out _).trans (((cell_far (p := ⟨gb158, _, none⟩) NB157_158.out _).trans (hHeld.2.2.2))))))))⟩ (fun hHeld => ?_)
           clear hK K
           refine pure_ (i := 5) (N := some 9) (v := ?_) (a' := ?_) qT32 rfl rfl (by kernel_rfl) (fun _ _ _ h => h) (Or.inl ⟨by rfl, ?_⟩) ?_ ?_
           rotate_left
           ·intro w'
            go_simp
            with_reducible rfl
           rotate_left
           ·simp only [Act.put, List.setIfInBounds_toArray, List.set_cons_zero, List.set_cons_succ, i64_w, i32_w]
            rfl
           refine done_ (by kernel_rfl) ?_
           try go_wp2
           refine bodyPost_ret (results_list (rs := [.tmp 6, .tmp 7, .cell 8 24, .tmp 9]) rfl (by simp) (.tmp (.tmp (.cell gb158 24 #[.int .u64 a0_0, .int .u64 a0_1, .int .u64 a0_2, .int .u64 a0_3] (0, 0) _ rfl (by (with_reducible repeat (first | apply blN | apply blD | apply blA)); refine blk_put (cs := #[.int .u64 a0_0, .int .u64 a0_1, .int .u64 a0_2, .int .u64 ya]) ?_ 3 _ rfl; (with_reducible repeat (first | apply blN | apply blD | apply blA)); refine blk_put (cs := #[.int .u64 a0_0, .int .u64 a0_1, .int .u64 y8, .int .u64 ya]) ?_ 2 _ rfl; (with_reducible repeat (first | apply blN | apply blD | apply blA)); refine blk_put (cs := #[.int .u64 a0_0, .int .u64 y6, .int .u64 y8, .int .u64 ya]) ?_ 1 _ rfl; (with_reducible repeat (first | apply blN | apply blD | apply blA)); refine blk_put (cs := #[.int .u64 y4, .int .u64 y6, .int .u64 y8, .int .u64 ya]) ?_ 0 _ rfl; (with_reducible repeat (first | apply blN | apply blD | apply blA)); exact BK158.out) Try.underlying24 rfl (by kernel_rfl) (.tmp .nil))))) rfl ?_
           exact ⟨_, _, by first | rfl | (simp [errW_none, errW_some] <;> rfl) | (simp only [← hji23]; first | rfl | (simp [errW_none, errW_some] <;> rfl)) | (simp [*, errW_none, errW_some] <;> rfl), by (with_reducible repeat (first | apply Kd.V_alloc | apply Kd.V_drewN | apply Kd.V_drew)); exact Kd.V_mono (Kd.V_far (p := ⟨gb158, 3, none⟩) (Kd.V_far (p := ⟨gb158, 2, none⟩) (Kd.V_far (p := ⟨gb158, 1, none⟩) (Kd.V_far (p := ⟨gb158, 0, none⟩) (Kd.V_mono HO_1.out (fun k_ hk => (⟨hk, hk.2.2⟩ : _ ∧ k_ ≠ gb158))) (fun _ hk => hk.2) (.int .u64 a0_0)) (fun _ hk => hk.2) (.int .u64 a0_1)) (fun _ hk => hk.2) (.int .u64 a0_2)) (fun _ hk => hk.2) (.int .u64 a0_3)) (fun _ hk => ⟨hk.1.1, (by simp [Value.ownBlock])⟩), by first | exact Kd.R_nil _ _ _ _ _ | exact Kd.N_nil _ _ _ _ _ | exact Kd.V_nil _ _ _ _ _ | exact Kd.Q_nil _ _ _ _ _ | exact Kd.S_nil _ _ _ _ _, by repeat (first | (with_reducible first | exact HB.out | apply below_alloc | apply pw_below_drewN | apply below_drew1 | refine below_set ?_ GE157.out | refine below_set ?_ GE158.out) | exact HB.out)⟩
          ·rw [if_neg c26] at H
           have c26b0 : decide ((rd l2 x10_1) ≤ (rd l2 (ji23))) = false := decide_eq_false c26
           clear c26
           have H' := Aside0.mk H
           clear H
           try go_wp2
           have n0_ := Aside0.mk (Kd.V_drew HO_1.out)
           have n1_ := Aside0.mk (blk_drew BK157.out)
           have n2_ := Aside0.mk (blk_drew BK158.out)
           have n3_ := Aside0.mk (below_drew1 HB.out)
           clear HO_1
           clear BK157
           clear BK158
           clear HB
           have HO_1 := n0_
           have BK157 := n1_
           have BK158 := n2_
           have HB := n3_
           clear n0_ n1_ n2_ n3_
           have p159 : 0 ≤ (x10_1 : Int) := of_decide_eq_true (by first | (with_reducible assumption) | assumption)
           have q159 : x10_1 < (l2.length : Int) := of_decide_eq_true (by first | (with_reducible assumption) | assumption)
           obtain ⟨ad159, e159, hx159_0⟩ := Kd.at_int HR2.out x10_1 p159 q159
           have hw159_0 := hx159_0
           cases e159
           replace hx159_0 := (HB.out.cell (World.block_lt_of_cell? w _ hx159_0)).trans hx159_0
           replace p159 := eq_true p159
           replace q159 := eq_true q159
           have p160 : 0 ≤ (x10_1 : Int) := of_decide_eq_true (by first | (with_reducible assumption) | assumption)
           have q160 : x10_1 < (l2.length : Int) := of_decide_eq_true (by first | (with_reducible assumption) | assumption)
           obtain ⟨ad160, e160, hx160_0⟩ := Kd.at_int HR2.out x10_1 p160 q160
           have hw160_0 := hx160_0
           obtain rfl : ad159 = ad160 := (by injection e160)
           replace hx160_0 := (HB.out.cell (World.block_lt_of_cell? w _ hx160_0)).trans hx160_0
           replace p160 := eq_true p160
           replace q160 := eq_true q160
           have p161 : 0 ≤ ((ji23) : Int) := of_decide_eq_true (by first | (with_reducible assumption) | assumption)
           have q161 : (ji23) < (l2.length : Int) := of_decide_eq_true (by first | (with_reducible assumption) | assumption)
           obtain ⟨ad161, e161, hx161_0⟩ := Kd.at_int HR2.out (ji23) p161 q161
           have hw161_0 := hx161_0
           obtain rfl : ad159 = ad161 := (by injection e161)
           replace hx161_0 := (HB.out.cell (World.block_lt_of_cell? w _ hx161_0)).trans hx161_0
           replace p161 := eq_true p161
           replace q161 := eq_true q161
           have p162 : 0 ≤ (x10_1 : Int) := of_decide_eq_true (by first | (with_reducible assumption) | assumption)
           have q162 : x10_1 < (l2.length : Int) := of_decide_eq_true (by first | (with_reducible assumption) | assumption)
           obtain ⟨ad162, e162, hx162_0⟩ := Kd.at_int HR2.out x10_1 p162 q162
           have hw162_0 := hx162_0
           obtain rfl : ad159 = ad162 := (by injection e162)
           replace hx162_0 := (HB.out.cell (World.block_lt_of_cell? w _ hx162_0)).trans hx162_0
           replace p162 := eq_true p162
           replace q162 := eq_true q162
           refine start_ (n := 30) (S := fun w' => w'.cell? (ad159.add (x10_1).toNat) = some (.int .i64 (rd l2 x10_1)) ∧ w'.cell? (ad159.add (x10_1).toNat) = some (.int .i64 (rd l2 x10_1)) ∧ w'.cell? (ad159.add ((ji23)).toNat) = some (.int .i64 (rd l2 (ji23))) ∧ w'.cell? (ad159.add (x10_1).toNat) = some (.int .i64 (rd l2 x10_1))) (ds := []) qT0 (by kernel_rfl) rfl rfl ⟨((HB.out.cell (World.block_lt_of_cell? w _ hw159_0)).trans hw159_0), ((HB.out.cell (World.block_lt_of_cell? w _ hw160_0)).trans hw160_0), ((HB.out.cell (World.block_lt_of_cell? w _ hw161_0)).trans hw161_0), ((HB.out.cell (World.block_lt_of_cell? w _ hw162_0)).trans hw162_0)⟩ (fun hHeld => ?_); refine with_tabW truceref17_Transfer.tab4 truceref17_Transfer.bits4 (fun HT_ HW_ => ?_)
           generalize wr.drew = w33 at HO_1 BK157 BK158 HB hx159_0 hx160_0 hx161_0 hx162_0 hHeld ⊢
           refine pure_ (i := 0) (N := some 24) (v := ?_) (a' := ?_) qT1 rfl rfl (any_of HT_.out (by kernel_rfl)) (fun _ _ _ h => h) (Or.inl ⟨by rfl, ?_⟩) ?_ ?_
           rotate_left
           ·intro w'
            go_simp
            with_reducible rfl
           rotate_left
           ·simp only [Act.put, List.setIfInBounds_toArray, List.set_cons_zero, List.set_cons_succ, i64_w, i32_w]
            rfl
           refine pure_ (i := 1) (N := some 25) (v := ?_) (a' := ?_) qT2 rfl rfl (any_of HT_.out (by kernel_rfl)) (fun _ _ _ h => h) (Or.inl ⟨by rfl, ?_⟩) ?_ ?_
           rotate_left
           ·intro w'
            go_simp
            with_reducible rfl
           rotate_left
           ·simp only [Act.put, List.setIfInBounds_toArray, List.set_cons_zero, List.set_cons_succ, i64_w, i32_w]
            rfl
           refine pure_ (i := 2) (N := some 26) (v := ?_) (a' := ?_) qT3 rfl rfl (any_of HT_.out (by kernel_rfl)) (fun _ _ _ h => h) (Or.inl ⟨by rfl, ?_⟩) ?_ ?_
           rotate_left
           ·intro w'
            go_simp
            with_reducible rfl
           rotate_left
           ·simp only [Act.put, List.setIfInBounds_toArray, List.set_cons_zero, List.set_cons_succ, i64_w, i32_w]
            rfl
           refine take_ (i := 3) (N := some 27) (v := ?_) (a' := ?_) qT4 rfl rfl (take_ofW HT_.out HW_.out (by kernel_rfl)) (fun _ _ _ h => h) (Or.inl ⟨by rfl, ?_⟩) hHeld ?_ ?_
           rotate_left
           ·rintro w' ⟨s0, s1, s2, s3⟩
            go_simp
            with_reducible rfl
           rotate_left
           ·simp only [Act.put, List.setIfInBounds_toArray, List.set_cons_zero, List.set_cons_succ, i64_w, i32_w]
            rfl
           refine pure_ (i := 4) (N := some 28) (v := ?_) (a' := ?_) qT5 rfl rfl (any_of HT_.out (by kernel_rfl)) (fun _ _ _ h => h) (Or.inl ⟨by rfl, ?_⟩) ?_ ?_
           rotate_left
           ·intro w'
            go_simp
            with_reducible rfl
           rotate_left
           ·simp only [Act.put, List.setIfInBounds_toArray, List.set_cons_zero, List.set_cons_succ, i64_w, i32_w]
            rfl
           refine pure_ (i := 5) (N := some 29) (v := ?_) (a' := ?_) qT6 rfl rfl (any_of HT_.out (by kernel_rfl)) (fun _ _ _ h => h) (Or.inl ⟨by rfl, ?_⟩) ?_ ?_
           rotate_left
           ·intro w'
            go_simp
            with_reducible rfl
           rotate_left
           ·simp only [Act.put, List.setIfInBounds_toArray, List.set_cons_zero, List.set_cons_succ, i64_w, i32_w]
            rfl
           refine pure_ (i := 6) (N := some 30) (v := ?_) (a' := ?_) qT7 rfl rfl (any_of HT_.out (by kernel_rfl)) (fun _ _ _ h => h) (Or.inl ⟨by rfl, ?_⟩) ?_ ?_
           rotate_left
           ·intro w'
            go_simp
            with_reducible rfl
           rotate_left
           ·simp only [Act.put, List.setIfInBounds_toArray, List.set_cons_zero, List.set_cons_succ, i64_w, i32_w]
            rfl
           refine pure_ (i := 7) (N := some 31) (v := ?_) (a' := ?_) qT8 rfl rfl (any_of HT_.out (by kernel_rfl)) (fun _ _ _ h => h) (Or.inl ⟨by rfl, ?_⟩) ?_ ?_
           rotate_left
           ·intro w'
            go_simp
            with_reducible rfl
           rotate_left
           ·simp only [Act.put, List.setIfInBounds_toArray, List.set_cons_zero, List.set_cons_succ, i64_w, i32_w]
            rfl
           refine pure_ (i := 8) (N := some 32) (v := ?_) (a' := ?_) qT9 rfl rfl (any_of HT_.out (by kernel_rfl)) (fun _ _ _ h => h) (Or.inl ⟨by rfl, ?_⟩) ?_ ?_
           rotate_left
           ·intro w'
            go_simp
            with_reducible rfl
           rotate_left
           ·simp only [Act.put, List.setIfInBounds_toArray, List.set_cons_zero, List.set_cons_succ, i64_w, i32_w]
            rfl
           refine pure_ (i := 10) (N := some 34) (v := ?_) (a' := ?_) qT33 rfl rfl (any_of HT_.out (by kernel_rfl)) (fun _ _ _ h => h) (Or.inl ⟨by rfl, ?_⟩) ?_ ?_
           rotate_left
           ·intro w'
            go_simp
            with_reducible rfl
           rotate_left
           ·simp only [Act.put, List.setIfInBounds_toArray, List.set_cons_zero, List.set_cons_succ, i64_w, i32_w]
            rfl
           refine pure_ (i := 11) (N := some 35) (v := ?_) (a' := ?_) qT34 rfl rfl (any_of HT_.out (by kernel_rfl)) (fun _ _ _ h => h) (Or.inl ⟨by rfl, ?_⟩) ?_ ?_
           rotate_left
           ·intro w'
            go_simp
            with_reducible rfl
           rotate_left
           ·simp only [Act.put, List.setIfInBounds_toArray, List.set_cons_zero, List.set_cons_succ, i64_w, i32_w]
            rfl
           refine take_ (i := 9) (N := some 33) (v := ?_) (a' := ?_) qT10 rfl rfl (take_ofW HT_.out HW_.out (by kernel_rfl)) (fun _ _ _ h => h) (Or.inl ⟨by rfl, ?_⟩) hHeld ?_ ?_
           rotate_left
           ·rintro w' ⟨s0, s1, s2, s3⟩
            go_simp
            with_reducible rfl
           rotate_left
           ·simp only [Act.put, List.setIfInBounds_toArray, List.set_cons_zero, List.set_cons_succ, i64_w, i32_w]
            rfl
           refine pure_ (i := 12) (N := some 36) (v := ?_) (a' := ?_) qT11 rfl rfl (any_of HT_.out (by kernel_rfl)) (fun _ _ _ h => h) (Or.inl ⟨by rfl, ?_⟩) ?_ ?_
           rotate_left
           ·intro w'
            go_simp
            with_reducible rfl
           rotate_left
           ·simp only [Act.put, List.setIfInBounds_toArray, List.set_cons_zero, List.set_cons_succ, i64_w, i32_w]
            rfl
           refine pure_ (i := 13) (N := some 37) (v := ?_) (a' := ?_) qT12 rfl rfl (any_of HT_.out (by kernel_rfl)) (fun _ _ _ h => h) (Or.inl ⟨by rfl, ?_⟩) ?_ ?_
           rotate_left
           ·intro w'
            go_simp
            with_reducible rfl
           rotate_left
           ·simp only [Act.put, List.setIfInBounds_toArray, List.set_cons_zero, List.set_cons_succ, i64_w, i32_w]
            rfl
           refine pure_ (i := 14) (N := some 38) (v := ?_) (a' := ?_) qT13 rfl rfl (any_of HT_.out (by kernel_rfl)) (fun _ _ _ h => h) (Or.inl ⟨by rfl, ?_⟩) ?_ ?_
           rotate_left
           ·intro w'
            go_simp
            with_reducible rfl
           rotate_left
           ·simp only [Act.put, List.setIfInBounds_toArray, List.set_cons_zero, List.set_cons_succ, i64_w, i32_w]
            rfl
           refine pure_ (i := 15) (N := some 39) (v := ?_) (a' := ?_) qT14 rfl rfl (any_of HT_.out (by kernel_rfl)) (fun _ _ _ h => h) (Or.inl ⟨by rfl, ?_⟩) ?_ ?_
           rotate_left
           ·intro w'
            go_simp
            with_reducible rfl
           rotate_left
           ·simp only [Act.put, List.setIfInBounds_toArray, List.set_cons_zero, List.set_cons_succ, i64_w, i32_w]
            rfl
           refine pure_ (i := 16) (N := some 40) (v := ?_) (a' := ?_) qT15 rfl rfl (any_of HT_.out (by kernel_rfl)) (fun _ _ _ h => h) (Or.inl ⟨by rfl, ?_⟩) ?_ ?_
           rotate_left
           ·intro w'
            go_simp
            with_reducible rfl
           rotate_left
           ·simp only [Act.put, List.setIfInBounds_toArray, List.set_cons_zero, List.set_cons_succ, i64_w, i32_w]
            rfl
           refine pure_ (i := 17) (N := some 41) (v := ?_) (a' := ?_) qT16 rfl rfl (any_of HT_.out (by kernel_rfl)) (fun _ _ _ h => h) (Or.inl ⟨by rfl, ?_⟩) ?_ ?_
           rotate_left
           ·intro w'
            go_simp
            with_reducible rfl
           rotate_left
           ·simp only [Act.put, List.setIfInBounds_toArray, List.set_cons_zero, List.set_cons_succ, i64_w, i32_w]
            rfl
           refine pure_ (i := 18) (N := some 42) (v := ?_) (a' := ?_) qT17 rfl rfl (any_of HT_.out (by kernel_rfl)) (fun _ _ _ h => h) (Or.inl ⟨by rfl, ?_⟩) ?_ ?_
           rotate_left
           ·intro w'
            go_simp
            with_reducible rfl
           rotate_left
           ·simp only [Act.put, List.setIfInBounds_toArray, List.set_cons_zero, List.set_cons_succ, i64_w, i32_w]
            rfl
           refine pure_ (i := 19) (N := some 43) (v := ?_) (a' := ?_) qT18 rfl rfl (any_of HT_.out (by kernel_rfl)) (fun _ _ _ h => h) (Or.inl ⟨by rfl, ?_⟩) ?_ ?_
           rotate_left
           ·intro w'
            go_simp
            with_reducible rfl
           rotate_left
           ·simp only [Act.put, List.setIfInBounds_toArray, List.set_cons_zero, List.set_cons_succ, i64_w, i32_w]
            rfl
           refine pure_ (i := 20) (N := some 44) (v := ?_) (a' := ?_) qT19 rfl rfl (any_of HT_.out (by kernel_rfl)) (fun _ _ _ h => h) (Or.inl ⟨by rfl, ?_⟩) ?_ ?_
           rotate_left
           ·intro w'
            go_simp
            with_reducible rfl
           rotate_left
           ·simp only [Act.put, List.setIfInBounds_toArray, List.set_cons_zero, List.set_cons_succ, i64_w, i32_w]
            rfl
           refine pure_ (i := 21) (N := some 45) (v := ?_) (a' := ?_) qT20 rfl rfl (any_of HT_.out (by kernel_rfl)) (fun _ _ _ h => h) (Or.inl ⟨by rfl, ?_⟩) ?_ ?_
           rotate_left
           ·intro w'
            go_simp
            with_reducible rfl
           rotate_left
           ·simp only [Act.put, List.setIfInBounds_toArray, List.set_cons_zero, List.set_cons_succ, i64_w, i32_w]
            rfl
           refine pure_ (i := 23) (N := some 47) (v := ?_) (a' := ?_) qT38 rfl rfl (any_of HT_.out (by kernel_rfl)) (fun _ _ _ h => h) (Or.inl ⟨by rfl, ?_⟩) ?_ ?_
           rotate_left
           ·intro w'
            go_simp
            with_reducible rfl
           rotate_left
           ·simp only [Act.put, List.setIfInBounds_toArray, List.set_cons_zero, List.set_cons_succ, i64_w, i32_w]
            rfl
           refine pure_ (i := 24) (N := some 48) (v := ?_) (a' := ?_) qT39 rfl rfl (any_of HT_.out (by kernel_rfl)) (fun _ _ _ h => h) (Or.inl ⟨by rfl, ?_⟩) ?_ ?_
           rotate_left
           ·intro w'
            go_simp
            with_reducible rfl
           rotate_left
           ·simp only [Act.put, List.setIfInBounds_toArray, List.set_cons_zero, List.set_cons_succ, i64_w, i32_w]
            rfl
           refine pure_ (i := 25) (N := some 49) (v := ?_) (a' := ?_) qT40 rfl rfl (any_of HT_.out (by kernel_rfl)) (fun _ _ _ h => h) (Or.inl ⟨by rfl, ?_⟩) ?_ ?_
           rotate_left
           ·intro w'
            go_simp
            with_reducible rfl
           rotate_left
           ·simp only [Act.put, List.setIfInBounds_toArray, List.set_cons_zero, List.set_cons_succ, i64_w, i32_w]
            rfl
           refine take_ (i := 22) (N := some 46) (v := ?_) (a' := ?_) qT21 rfl rfl (take_ofW HT_.out HW_.out (by kernel_rfl)) (fun _ _ _ h => h) (Or.inl ⟨by rfl, ?_⟩) hHeld ?_ ?_
           rotate_left
           ·rintro w' ⟨s0, s1, s2, s3⟩
            go_simp
            with_reducible rfl
           rotate_left
           ·simp only [Act.put, List.setIfInBounds_toArray, List.set_cons_zero, List.set_cons_succ, i64_w, i32_w]
            rfl
           refine take_ (i := 26) (N := some 50) (v := ?_) (a' := ?_) qT22 rfl rfl (take_ofW HT_.out HW_.out (by kernel_rfl)) (fun _ _ _ h => h) (Or.inl ⟨by rfl, ?_⟩) hHeld ?_ ?_
           rotate_left
           ·rintro w' ⟨s0, s1, s2, s3⟩
            go_simp
            with_reducible rfl
           rotate_left
           ·simp only [Act.put, List.setIfInBounds_toArray, List.set_cons_zero, List.set_cons_succ, i64_w, i32_w]
            rfl
           refine pure_ (i := 27) (N := some 51) (v := ?_) (a' := ?_) qT23 rfl rfl (any_of HT_.out (by kernel_rfl)) (fun _ _ _ h => h) (Or.inl ⟨by rfl, ?_⟩) ?_ ?_
           rotate_left
           ·intro w'
            go_simp
            with_reducible rfl
           rotate_left
           ·simp only [Act.put, List.setIfInBounds_toArray, List.set_cons_zero, List.set_cons_succ, i64_w, i32_w]
            rfl
           refine pure_ (i := 28) (N := some 52) (v := ?_) (a' := ?_) qT24 rfl rfl (any_of HT_.out (by kernel_rfl)) (fun _ _ _ h => h) (Or.inl ⟨by rfl, ?_⟩) ?_ ?_
           rotate_left
           ·intro w'
            go_simp
            with_reducible rfl
           rotate_left
           ·simp only [Act.put, List.setIfInBounds_toArray, List.set_cons_zero, List.set_cons_succ, i64_w, i32_w]
            rfl
           refine pure_ (i := 29) (N := some 53) (v := ?_) (a' := ?_) qT25 rfl rfl (any_of HT_.out (by kernel_rfl)) (fun _ _ _ h => h) (Or.inl ⟨by rfl, ?_⟩) ?_ ?_
           rotate_left
           ·intro w'
            go_simp
            with_reducible rfl
           rotate_left
           ·simp only [Act.put, List.setIfInBounds_toArray, List.set_cons_zero, List.set_cons_succ, i64_w, i32_w]
            rfl
           refine done_ (done_of HT_.out (by kernel_rfl)) ?_
           try go_wp2
           go_roundg k1
           case measure => have := HK1.out; omega
           case rel => exact ⟨(wrap64 (x10_1 + 1)), (y4), (y6), (y8), (ya), (by first | rfl | (simp; done) | (simp [*]; done)), H', ⟨by have := HK1.out; omega⟩, ⟨by (with_reducible repeat (first | apply Kd.V_alloc | apply Kd.V_drewN | apply Kd.V_drew)); exact HO_1.out⟩, ⟨by (with_reducible repeat (first | apply blN | apply blD | apply blA)); exact BK157.out⟩, ⟨by (with_reducible repeat (first | apply blN | apply blD | apply blA)); exact BK158.out⟩, ⟨by repeat (first | (with_reducible first | exact HB.out | apply below_alloc | apply pw_below_drewN | apply below_drew1 | refine below_set ?_ GE157.out | refine below_set ?_ GE158.out) | exact HB.out)⟩⟩
         ·rw [if_neg c25] at H
          exact absurd H (by simp)
        ·rw [if_neg c24] at H
         exact absurd H (by simp)
       ·rw [if_neg c22] at H
        have c22b0 : decide (0 < x10_1) = false := decide_eq_false c22
        clear c22
        have H' := Aside0.mk H
        clear H
        try go_wp2
        have n0_ := Aside0.mk (Kd.V_drew HO_1.out)
        have n1_ := Aside0.mk (blk_drew BK157.out)
        have n2_ := Aside0.mk (blk_drew BK158.out)
        have n3_ := Aside0.mk (below_drew1 HB.out)
        clear HO_1
        clear BK157
        clear BK158
        clear HB
        have HO_1 := n0_
        have BK157 := n1_
        have BK158 := n2_
        have HB := n3_
        clear n0_ n1_ n2_ n3_
        have p159 : 0 ≤ (x10_1 : Int) := of_decide_eq_true (by first | (with_reducible assumption) | assumption)
        have q159 : x10_1 < (l2.length : Int) := of_decide_eq_true (by first | (with_reducible assumption) | assumption)
        obtain ⟨ad159, e159, hx159_0⟩ := Kd.at_int HR2.out x10_1 p159 q159
        have hw159_0 := hx159_0
        cases e159
        replace hx159_0 := (HB.out.cell (World.block_lt_of_cell? w _ hx159_0)).trans hx159_0
        replace p159 := eq_true p159
        replace q159 := eq_true q159
        have p160 : 0 ≤ (x10_1 : Int) := of_decide_eq_true (by first | (with_reducible assumption) | assumption)
        have q160 : x10_1 < (l2.length : Int) := of_decide_eq_true (by first | (with_reducible assumption) | assumption)
        obtain ⟨ad160, e160, hx160_0⟩ := Kd.at_int HR2.out x10_1 p160 q160
        have hw160_0 := hx160_0
        obtain rfl : ad159 = ad160 := (by injection e160)
        replace hx160_0 := (HB.out.cell (World.block_lt_of_cell? w _ hx160_0)).trans hx160_0
        replace p160 := eq_true p160
        replace q160 := eq_true q160
        refine start_ (n := 30) (S := fun w' => w'.cell? (ad159.add (x10_1).toNat) = some (.int .i64 (rd l2 x10_1)) ∧ w'.cell? (ad159.add (x10_1).toNat) = some (.int .i64 (rd l2 x10_1))) (ds := []) qT0 (by kernel_rfl) rfl rfl ⟨((HB.out.cell (World.block_lt_of_cell? w _ hw159_0)).trans hw159_0), ((HB.out.cell (World.block_lt_of_cell? w _ hw160_0)).trans hw160_0)⟩ (fun hHeld => ?_); refine with_tabW truceref17_Transfer.tab4 truceref17_Transfer.bits4 (fun HT_ HW_ => ?_)
        generalize wr.drew = w34 at HO_1 BK157 BK158 HB hx159_0 hx160_0 hHeld ⊢
        refine pure_ (i := 0) (N := some 24) (v := ?_) (a' := ?_) qT1 rfl rfl (any_of HT_.out (by kernel_rfl)) (fun _ _ _ h => h) (Or.inl ⟨by rfl, ?_⟩) ?_ ?_
        rotate_left
        ·intro w'
         go_simp
         with_reducible rfl
        rotate_left
        ·simp only [Act.put, List.setIfInBounds_toArray, List.set_cons_zero, List.set_cons_succ, i64_w, i32_w]
         rfl
        refine pure_ (i := 1) (N := some 25) (v := ?_) (a' := ?_) qT2 rfl rfl (any_of HT_.out (by kernel_rfl)) (fun _ _ _ h => h) (Or.inl ⟨by rfl, ?_⟩) ?_ ?_
        rotate_left
        ·intro w'
         go_simp
         with_reducible rfl
        rotate_left
        ·simp only [Act.put, List.setIfInBounds_toArray, List.set_cons_zero, List.set_cons_succ, i64_w, i32_w]
         rfl
        refine pure_ (i := 2) (N := some 26) (v := ?_) (a' := ?_) qT3 rfl rfl (any_of HT_.out (by kernel_rfl)) (fun _ _ _ h => h) (Or.inl ⟨by rfl, ?_⟩) ?_ ?_
        rotate_left
        ·intro w'
         go_simp
         with_reducible rfl
        rotate_left
        ·simp only [Act.put, List.setIfInBounds_toArray, List.set_cons_zero, List.set_cons_succ, i64_w, i32_w]
         rfl
        refine take_ (i := 3) (N := some 27) (v := ?_) (a' := ?_) qT4 rfl rfl (take_ofW HT_.out HW_.out (by kernel_rfl)) (fun _ _ _ h => h) (Or.inl ⟨by rfl, ?_⟩) hHeld ?_ ?_
        rotate_left
        ·rintro w' ⟨s0, s1⟩
         go_simp
         with_reducible rfl
        rotate_left
        ·simp only [Act.put, List.setIfInBounds_toArray, List.set_cons_zero, List.set_cons_succ, i64_w, i32_w]
         rfl
        refine pure_ (i := 4) (N := some 28) (v := ?_) (a' := ?_) qT5 rfl rfl (any_of HT_.out (by kernel_rfl)) (fun _ _ _ h => h) (Or.inl ⟨by rfl, ?_⟩) ?_ ?_
        rotate_left
        ·intro w'
         go_simp
         with_reducible rfl
        rotate_left
        ·simp only [Act.put, List.setIfInBounds_toArray, List.set_cons_zero, List.set_cons_succ, i64_w, i32_w]
         rfl
        refine pure_ (i := 5) (N := some 29) (v := ?_) (a' := ?_) qT6 rfl rfl (any_of HT_.out (by kernel_rfl)) (fun _ _ _ h => h) (Or.inl ⟨by rfl, ?_⟩) ?_ ?_
        rotate_left
        ·intro w'
         go_simp
         with_reducible rfl
        rotate_left
        ·simp only [Act.put, List.setIfInBounds_toArray, List.set_cons_zero, List.set_cons_succ, i64_w, i32_w]
         rfl
        refine pure_ (i := 6) (N := some 30) (v := ?_) (a' := ?_) qT7 rfl rfl (any_of HT_.out (by kernel_rfl)) (fun _ _ _ h => h) (Or.inl ⟨by rfl, ?_⟩) ?_ ?_
        rotate_left
        ·intro w'
         go_simp
         with_reducible rfl
        rotate_left
        ·simp only [Act.put, List.setIfInBounds_toArray, List.set_cons_zero, List.set_cons_succ, i64_w, i32_w]
         rfl
        refine pure_ (i := 7) (N := some 31) (v := ?_) (a' := ?_) qT8 rfl rfl (any_of HT_.out (by kernel_rfl)) (fun _ _ _ h => h) (Or.inl ⟨by rfl, ?_⟩) ?_ ?_
        rotate_left
        ·intro w'
         go_simp
         with_reducible rfl
        rotate_left
        ·simp only [Act.put, List.setIfInBounds_toArray, List.set_cons_zero, List.set_cons_succ, i64_w, i32_w]
         rfl
        refine pure_ (i := 8) (N := some 32) (v := ?_) (a' := ?_) qT9 rfl rfl (any_of HT_.out (by kernel_rfl)) (fun _ _ _ h => h) (Or.inl ⟨by rfl, ?_⟩) ?_ ?_
        rotate_left
        ·intro w'
         go_simp
         with_reducible rfl
        rotate_left
        ·simp only [Act.put, List.setIfInBounds_toArray, List.set_cons_zero, List.set_cons_succ, i64_w, i32_w]
         rfl
        refine pure_ (i := 10) (N := some 34) (v := ?_) (a' := ?_) qT33 rfl rfl (any_of HT_.out (by kernel_rfl)) (fun _ _ _ h => h) (Or.inl ⟨by rfl, ?_⟩) ?_ ?_
        rotate_left
        ·intro w'
         go_simp
         with_reducible rfl
        rotate_left
        ·simp only [Act.put, List.setIfInBounds_toArray, List.set_cons_zero, List.set_cons_succ, i64_w, i32_w]
         rfl
        refine pure_ (i := 11) (N := some 35) (v := ?_) (a' := ?_) qT34 rfl rfl (any_of HT_.out (by kernel_rfl)) (fun _ _ _ h => h) (Or.inl ⟨by rfl, ?_⟩) ?_ ?_
        rotate_left
        ·intro w'
         go_simp
         with_reducible rfl
        rotate_left
        ·simp only [Act.put, List.setIfInBounds_toArray, List.set_cons_zero, List.set_cons_succ, i64_w, i32_w]
         rfl
        refine take_ (i := 9) (N := some 33) (v := ?_) (a' := ?_) qT10 rfl rfl (take_ofW HT_.out HW_.out (by kernel_rfl)) (fun _ _ _ h => h) (Or.inl ⟨by rfl, ?_⟩) hHeld ?_ ?_
        rotate_left
        ·rintro w' ⟨s0, s1⟩
         go_simp
         with_reducible rfl
        rotate_left
        ·simp only [Act.put, List.setIfInBounds_toArray, List.set_cons_zero, List.set_cons_succ, i64_w, i32_w]
         rfl
        refine pure_ (i := 12) (N := some 36) (v := ?_) (a' := ?_) qT11 rfl rfl (any_of HT_.out (by kernel_rfl)) (fun _ _ _ h => h) (Or.inl ⟨by rfl, ?_⟩) ?_ ?_
        rotate_left
        ·intro w'
         go_simp
         with_reducible rfl
        rotate_left
        ·simp only [Act.put, List.setIfInBounds_toArray, List.set_cons_zero, List.set_cons_succ, i64_w, i32_w]
         rfl
        refine pure_ (i := 13) (N := some 37) (v := ?_) (a' := ?_) qT12 rfl rfl (any_of HT_.out (by kernel_rfl)) (fun _ _ _ h => h) (Or.inl ⟨by rfl, ?_⟩) ?_ ?_
        rotate_left
        ·intro w'
         go_simp
         with_reducible rfl
        rotate_left
        ·simp only [Act.put, List.setIfInBounds_toArray, List.set_cons_zero, List.set_cons_succ, i64_w, i32_w]
         rfl
        refine pure_ (i := 14) (N := some 38) (v := ?_) (a' := ?_) qT13 rfl rfl (any_of HT_.out (by kernel_rfl)) (fun _ _ _ h => h) (Or.inl ⟨by rfl, ?_⟩) ?_ ?_
        rotate_left
        ·intro w'
         go_simp
         with_reducible rfl
        rotate_left
        ·simp only [Act.put, List.setIfInBounds_toArray, List.set_cons_zero, List.set_cons_succ, i64_w, i32_w]
         rfl
        refine pure_ (i := 15) (N := some 39) (v := ?_) (a' := ?_) qT14 rfl rfl (any_of HT_.out (by kernel_rfl)) (fun _ _ _ h => h) (Or.inl ⟨by rfl, ?_⟩) ?_ ?_
        rotate_left
        ·intro w'
         go_simp
         with_reducible rfl
        rotate_left
        ·simp only [Act.put, List.setIfInBounds_toArray, List.set_cons_zero, List.set_cons_succ, i64_w, i32_w]
         rfl
        refine pure_ (i := 16) (N := some 40) (v := ?_) (a' := ?_) qT15 rfl rfl (any_of HT_.out (by kernel_rfl)) (fun _ _ _ h => h) (Or.inl ⟨by rfl, ?_⟩) ?_ ?_
        rotate_left
        ·intro w'
         go_simp
         with_reducible rfl
        rotate_left
        ·simp only [Act.put, List.setIfInBounds_toArray, List.set_cons_zero, List.set_cons_succ, i64_w, i32_w]
         rfl
        refine pure_ (i := 17) (N := some 41) (v := ?_) (a' := ?_) qT16 rfl rfl (any_of HT_.out (by kernel_rfl)) (fun _ _ _ h => h) (Or.inl ⟨by rfl, ?_⟩) ?_ ?_
        rotate_left
        ·intro w'
         go_simp
         with_reducible rfl
        rotate_left
        ·simp only [Act.put, List.setIfInBounds_toArray, List.set_cons_zero, List.set_cons_succ, i64_w, i32_w]
         rfl
        refine pure_ (i := 18) (N := some 42) (v := undef) (a' := ?_) qT17 rfl rfl (any_of HT_.out (by kernel_rfl)) (fun _ _ _ h => h) (Or.inr ⟨by rfl, rfl⟩) ?_ ?_
        rotate_left
        ·simp only [Act.put, List.setIfInBounds_toArray, List.set_cons_zero, List.set_cons_succ, i64_w, i32_w]
         rfl
        refine pure_ (i := 19) (N := some 43) (v := undef) (a' := ?_) qT18 rfl rfl (any_of HT_.out (by kernel_rfl)) (fun _ _ _ h => h) (Or.inr ⟨by rfl, rfl⟩) ?_ ?_
        rotate_left
        ·simp only [Act.put, List.setIfInBounds_toArray, List.set_cons_zero, List.set_cons_succ, i64_w, i32_w]
         rfl
        refine pure_ (i := 20) (N := some 44) (v := undef) (a' := ?_) qT19 rfl rfl (any_of HT_.out (by kernel_rfl)) (fun _ _ _ h => h) (Or.inr ⟨by rfl, rfl⟩) ?_ ?_
        rotate_left
        ·simp only [Act.put, List.setIfInBounds_toArray, List.set_cons_zero, List.set_cons_succ, i64_w, i32_w]
         rfl
        refine pure_ (i := 21) (N := some 45) (v := undef) (a' := ?_) qT20 rfl rfl (any_of HT_.out (by kernel_rfl)) (fun _ _ _ h => h) (Or.inr ⟨by rfl, rfl⟩) ?_ ?_
        rotate_left
        ·simp only [Act.put, List.setIfInBounds_toArray, List.set_cons_zero, List.set_cons_succ, i64_w, i32_w]
         rfl
        refine pure_ (i := 22) (N := some 46) (v := undef) (a' := ?_) qT35 rfl rfl (any_of HT_.out (by kernel_rfl)) (fun _ _ _ h => h) (Or.inr ⟨by rfl, rfl⟩) ?_ ?_
        rotate_left
        ·simp only [Act.put, List.setIfInBounds_toArray, List.set_cons_zero, List.set_cons_succ, i64_w, i32_w]
         rfl
        refine pure_ (i := 23) (N := some 47) (v := undef) (a' := ?_) qT36 rfl rfl (any_of HT_.out (by kernel_rfl)) (fun _ _ _ h => h) (Or.inr ⟨by rfl, rfl⟩) ?_ ?_
        rotate_left
        ·simp only [Act.put, List.setIfInBounds_toArray, List.set_cons_zero, List.set_cons_succ, i64_w, i32_w]
         rfl
        refine pure_ (i := 24) (N := some 48) (v := undef) (a' := ?_) qT37 rfl rfl (any_of HT_.out (by kernel_rfl)) (fun _ _ _ h => h) (Or.inr ⟨by rfl, rfl⟩) ?_ ?_
        rotate_left
        ·simp only [Act.put, List.setIfInBounds_toArray, List.set_cons_zero, List.set_cons_succ, i64_w, i32_w]
         rfl
        refine pure_ (i := 25) (N := some 49) (v := undef) (a' := ?_) qT21 rfl rfl (any_of HT_.out (by kernel_rfl)) (fun _ _ _ h => h) (Or.inr ⟨by rfl, rfl⟩) ?_ ?_
        rotate_left
        ·simp only [Act.put, List.setIfInBounds_toArray, List.set_cons_zero, List.set_cons_succ, i64_w, i32_w]
         rfl
        refine pure_ (i := 26) (N := some 50) (v := undef) (a' := ?_) qT22 rfl rfl (any_of HT_.out (by kernel_rfl)) (fun _ _ _ h => h) (Or.inr ⟨by rfl, rfl⟩) ?_ ?_
        rotate_left
        ·simp only [Act.put, List.setIfInBounds_toArray, List.set_cons_zero, List.set_cons_succ, i64_w, i32_w]
         rfl
        refine pure_ (i := 27) (N := some 51) (v := undef) (a' := ?_) qT23 rfl rfl (any_of HT_.out (by kernel_rfl)) (fun _ _ _ h => h) (Or.inr ⟨by rfl, rfl⟩) ?_ ?_
        rotate_left
        ·simp only [Act.put, List.setIfInBounds_toArray, List.set_cons_zero, List.set_cons_succ, i64_w, i32_w]
         rfl
        refine pure_ (i := 28) (N := some 52) (v := ?_) (a' := ?_) qT24 rfl rfl (any_of HT_.out (by kernel_rfl)) (fun _ _ _ h => h) (Or.inl ⟨by rfl, ?_⟩) ?_ ?_
        rotate_left
        ·intro w'
         go_simp
         with_reducible rfl
        rotate_left
        ·simp only [Act.put, List.setIfInBounds_toArray, List.set_cons_zero, List.set_cons_succ, i64_w, i32_w]
         rfl
        refine pure_ (i := 29) (N := some 53) (v := ?_) (a' := ?_) qT25 rfl rfl (any_of HT_.out (by kernel_rfl)) (fun _ _ _ h => h) (Or.inl ⟨by rfl, ?_⟩) ?_ ?_
        rotate_left
        ·intro w'
         go_simp
         with_reducible rfl
        rotate_left
        ·simp only [Act.put, List.setIfInBounds_toArray, List.set_cons_zero, List.set_cons_succ, i64_w, i32_w]
         rfl
        refine done_ (done_of HT_.out (by kernel_rfl)) ?_
        try go_wp2
        go_roundg k1
        case measure => have := HK1.out; omega
        case rel => exact ⟨(wrap64 (x10_1 + 1)), (y4), (y6), (y8), (ya), (by first | rfl | (simp; done) | (simp [*]; done)), H', ⟨by have := HK1.out; omega⟩, ⟨by (with_reducible repeat (first | apply Kd.V_alloc | apply Kd.V_drewN | apply Kd.V_drew)); exact HO_1.out⟩, ⟨by (with_reducible repeat (first | apply blN | apply blD | apply blA)); exact BK157.out⟩, ⟨by (with_reducible repeat (first | apply blN | apply blD | apply blA)); exact BK158.out⟩, ⟨by repeat (first | (with_reducible first | exact HB.out | apply below_alloc | apply pw_below_drewN | apply below_drew1 | refine below_set ?_ GE157.out | refine below_set ?_ GE158.out) | exact HB.out)⟩⟩
    ·rw [if_neg c7] at H
     exact absurd H (by simp)
   ·rw [if_neg c6] at H
    have c6b0 : decide (x10_1 < (l2.length : Int)) = false := decide_eq_false c6
    clear c6
    have H' := Aside0.mk H
    clear H
    go_wp2
    go_loopg [11] k1 (fun kq v11 w' => ∃ (x11_2 : Int) (y5 : Int) (y7 : Int) (y9 : Int) (yb : Int), v11 = .int .i64 x11_2 ∧ Aside0 (truceref17_Transfer.l1 kq l1 l2 x11_2 a0_0 a0_1 a0_2 a0_3 = some (r1, r2, r3, r4, r5, r6, r7)) ∧ Aside0 (kq ≤ k1) ∧ Aside0 (Kd.V k40 40 w' w.heap.size (fun k_ => (P1_ k_ ∨ w.heap.size ≤ k_) ∧ k_ ≠ gb157 ∧ k_ ≠ gb158) (.slice A1 l1.length c1) l1) ∧ Aside0 (w'.heap[gb157]? = some (.cells #[.int .u64 a0_0, .int .u64 a0_1, .int .u64 a0_2, .int .u64 a0_3] 24 (0, 0))) ∧ Aside0 (w'.heap[gb158]? = some (.cells #[.int .u64 y5, .int .u64 y7, .int .u64 y9, .int .u64 yb] 24 (0, 0))) ∧ Aside0 (Below w.heap.size w w'))
    case atStart => exact ⟨(0), (y4), (y6), (y8), (ya), (by first | rfl | (simp; done) | (simp [*]; done)), H', ⟨Nat.le_refl _⟩, ⟨by (with_reducible repeat (first | apply Kd.V_alloc | apply Kd.V_drewN | apply Kd.V_drew)); exact HO_1.out⟩, ⟨by (with_reducible repeat (first | apply blN | apply blD | apply blA)); exact BK157.out⟩, ⟨by (with_reducible repeat (first | apply blN | apply blD | apply blA)); exact BK158.out⟩, ⟨by repeat (first | (with_reducible first | exact HB.out | apply below_alloc | apply pw_below_drewN | apply below_drew1 | refine below_set ?_ GE157.out | refine below_set ?_ GE158.out) | exact HB.out)⟩⟩
    case round =>
     clear H'
     try clear c1
     try clear p1
     try clear q1
     try clear hx1
     try clear c2
     try clear p2
     try clear c6
     try clear c6b0
     try clear p6
     try clear c7
     try clear p15
     try clear q15
     try clear hx15
     try clear p16
     try clear q16
     try clear hx16
     try clear c22
     try clear c22b0
     try clear c24
     try clear c25
     try clear c26
     try clear c26b0
     try clear hx159_0
     try clear hx160_0
     try clear hx161_0
     try clear hx162_0
     try clear p159
     try clear p160
     try clear p161
     try clear p162
     try clear q159
     try clear q160
     try clear q161
     try clear q162
     obtain ⟨x11_2, y5, y7, y9, yb, rfl, HA, HK2, HO_1, BK157, BK158, HB⟩ := hrel
     cases gk with
     | zero => exact absurd HA.out (by simp [truceref17_Transfer.l1])
     | succ k2 =>
      have H := HA.out
      clear HA
      simp only [truceref17_Transfer.l1] at H
      by_cases c35 : x11_2 < (l2.length : Int)
      ·rw [if_pos c35] at H
       have c35b0 : decide (x11_2 < (l2.length : Int)) = true := decide_eq_true c35
       clear c35
       by_cases c36 : 0 ≤ x11_2
       ·rw [if_pos c36] at H
        have c36b0 : decide (0 ≤ x11_2) = true := decide_eq_true c36
        clear c36
        by_cases c37 : 0 ≤ (rd l2 x11_2)
        ·rw [if_pos c37] at H
         have c37b0 : decide (0 ≤ (rd l2 x11_2)) = true := decide_eq_true c37
         clear c37
         by_cases c38 : (rd l2 x11_2) < (l1.length : Int)
         ·rw [if_pos c38] at H
          have c38b0 : decide ((rd l2 x11_2) < (l1.length : Int)) = true := decide_eq_true c38
          clear c38
          by_cases c39 : ((rd_T40 l1 (rd l2 x11_2)).f2) = 0
          ·rw [if_pos c39] at H
           have c39b0 : (((rd_T40 l1 (rd l2 x11_2)).f2) == 0) = true := beq_iff_eq.mpr c39
           have c39b1 : (((rd_T40 l1 (rd l2 x11_2)).f2) != 0) = false := bne_eq_false_iff_eq.mpr c39
           clear c39
           have H' := Aside0.mk H
           clear H
           have p163 : 0 ≤ (x11_2 : Int) := of_decide_eq_true (by first | (with_reducible assumption) | assumption)
           have q163 : x11_2 < (l2.length : Int) := of_decide_eq_true (by first | (with_reducible assumption) | assumption)
           obtain ⟨ad163, e163, hx163_0⟩ := Kd.at_int HR2.out x11_2 p163 q163
           cases e163
           replace hx163_0 := (HB.out.cell (World.block_lt_of_cell? w _ hx163_0)).trans hx163_0
           replace p163 := eq_true p163
           replace q163 := eq_true q163
           have p164 : 0 ≤ ((rd l2 x11_2) : Int) := of_decide_eq_true (by first | (with_reducible assumption) | assumption)
           have q164 : (rd l2 x11_2) < (l1.length : Int) := of_decide_eq_true (by first | (with_reducible assumption) | assumption)
           obtain ⟨ad164, e164, hx164_0, hx164_1, hx164_2, hx164_3, hx164_4, hx164_5, hx164_6, hx164_7⟩ := at_T40 (Kd.V_reads' HO_1.out).2.2 (rd l2 x11_2) p164 q164
           cases e164
           replace p164 := eq_true p164
           replace q164 := eq_true q164
           go_wp2
           go_roundg k2
           case measure => have := HK1.out; have := HK2.out; omega
           case rel => exact ⟨(wrap64 (x11_2 + 1)), (y5), (y7), (y9), (yb), (by first | rfl | (simp; done) | (simp [*]; done)), H', ⟨by have := HK1.out; have := HK2.out; omega⟩, ⟨by (with_reducible repeat (first | apply Kd.V_alloc | apply Kd.V_drewN | apply Kd.V_drew)); exact HO_1.out⟩, ⟨by (with_reducible repeat (first | apply blN | apply blD | apply blA)); exact BK157.out⟩, ⟨by (with_reducible repeat (first | apply blN | apply blD | apply blA)); exact BK158.out⟩, ⟨by repeat (first | (with_reducible first | exact HB.out | apply below_alloc | apply pw_below_drewN | apply below_drew1 | refine below_set ?_ GE157.out | refine below_set ?_ GE158.out) | exact HB.out)⟩⟩
          ·rw [if_neg c39] at H
           have c39b0 : (((rd_T40 l1 (rd l2 x11_2)).f2) == 0) = false := beq_eq_false_iff_ne.mpr c39
           have c39b1 : (((rd_T40 l1 (rd l2 x11_2)).f2) != 0) = true := bne_iff_ne.mpr c39
           simp only [Option.some.injEq, Prod.mk.injEq] at H
           obtain ⟨rfl, rfl, rfl, rfl, rfl, rfl, rfl⟩ := H
           have p163 : 0 ≤ (x11_2 : Int) := of_decide_eq_true (by first | (with_reducible assumption) | assumption)
           have q163 : x11_2 < (l2.length : Int) := of_decide_eq_true (by first | (with_reducible assumption) | assumption)
           obtain ⟨ad163, e163, hx163_0⟩ := Kd.at_int HR2.out x11_2 p163 q163
           cases e163
           replace hx163_0 := (HB.out.cell (World.block_lt_of_cell? w _ hx163_0)).trans hx163_0
           replace p163 := eq_true p163
           replace q163 := eq_true q163
           have p164 : 0 ≤ ((rd l2 x11_2) : Int) := of_decide_eq_true (by first | (with_reducible assumption) | assumption)
           have q164 : (rd l2 x11_2) < (l1.length : Int) := of_decide_eq_true (by first | (with_reducible assumption) | assumption)
           obtain ⟨ad164, e164, hx164_0, hx164_1, hx164_2, hx164_3, hx164_4, hx164_5, hx164_6, hx164_7⟩ := at_T40 (Kd.V_reads' HO_1.out).2.2 (rd l2 x11_2) p164 q164
           cases e164
           replace p164 := eq_true p164
           replace q164 := eq_true q164
           try go_wp2
           have n0_ := Aside0.mk (Kd.V_drew HO_1.out)
           have n1_ := Aside0.mk (blk_drew BK157.out)
           have n2_ := Aside0.mk (blk_drew BK158.out)
           have n3_ := Aside0.mk (below_drew1 HB.out)
           clear HO_1
           clear BK157
           clear BK158
           clear HB
           have HO_1 := n0_
           have BK157 := n1_
           have BK158 := n2_
           have HB := n3_
           clear n0_ n1_ n2_ n3_
           refine start_ (n := 6) (S := fun w' => w'.cell? ⟨gb157, 0, none⟩ = some (.int .u64 a0_0) ∧ w'.cell? ⟨gb157, 1, none⟩ = some (.int .u64 a0_1) ∧ w'.cell? ⟨gb157, 2, none⟩ = some (.int .u64 a0_2) ∧ w'.cell? ⟨gb157, 3, none⟩ = some (.int .u64 a0_3)) (ds := []) qT26 (by kernel_rfl) rfl rfl ⟨(blk_cell BK157.out 0).trans rfl, (blk_cell BK157.out 1).trans rfl, (blk_cell BK157.out 2).trans rfl, (blk_cell BK157.out 3).trans rfl⟩ (fun hHeld => ?_)
           generalize wr.drew = w40 at HO_1 BK157 BK158 HB hHeld ⊢
           refine pure_ (i := 0) (N := some 71) (v := ?_) (a' := ?_) qT27 rfl rfl (by kernel_rfl) (fun _ _ _ h => h) (Or.inl ⟨by rfl, ?_⟩) ?_ ?_
           rotate_left
           ·intro w'
            go_simp
            with_reducible rfl
           rotate_left
           ·simp only [Act.put, List.setIfInBounds_toArray, List.set_cons_zero, List.set_cons_succ, i64_w, i32_w]
            rfl
           refine pure_ (i := 2) (N := some 6) (v := ?_) (a' := ?_) qT28 rfl rfl (by kernel_rfl) (fun _ _ _ h => h) (Or.inl ⟨by rfl, ?_⟩) ?_ ?_
           rotate_left
           ·intro w'
            go_simp
            with_reducible rfl
           rotate_left
           ·simp only [Act.put, List.setIfInBounds_toArray, List.set_cons_zero, List.set_cons_succ, i64_w, i32_w]
            rfl
           refine pure_ (i := 3) (N := some 7) (v := ?_) (a' := ?_) qT29 rfl rfl (by kernel_rfl) (fun _ _ _ h => h) (Or.inl ⟨by rfl, ?_⟩) ?_ ?_
           rotate_left
           ·intro w'
            go_simp
            with_reducible rfl
           rotate_left
           ·simp only [Act.put, List.setIfInBounds_toArray, List.set_cons_zero, List.set_cons_succ, i64_w, i32_w]
            rfl
           refine take_ (i := 1) (N := some 72) (v := ?_) (a' := ?_) qT30 rfl rfl (by kernel_rfl) (fun _ _ _ h => h) (Or.inl ⟨by rfl, ?_⟩) hHeld ?_ ?_
           rotate_left
           ·rintro w' ⟨s0, s1, s2, s3⟩
            go_simp
            with_reducible rfl
           rotate_left
           ·simp only [Act.put, List.setIfInBounds_toArray, List.set_cons_zero, List.set_cons_succ, i64_w, i32_w]
            rfl
           refine one_ (i := 4) (N := none) qT31 rfl rfl (by kernel_rfl) (by decide) (fun K hK => ?_)
           have hs41 : w40.cell? ⟨gb158, 0, none⟩ = some (.int .u64 y5) := (blk_cell BK158.out 0).trans rfl
           have hfs41 := blk_frozen BK158.out 0
           have hns41_0 := NB157_158.out
           have hms41_0 := NB158_157.out
           have hs42 : w40.cell? ⟨gb158, 1, none⟩ = some (.int .u64 y7) := (blk_cell BK158.out 1).trans rfl
           have hfs42 := blk_frozen BK158.out 1
           have hns42_0 := NB157_158.out
           have hms42_0 := NB158_157.out
           have hs43 : w40.cell? ⟨gb158, 2, none⟩ = some (.int .u64 y9) := (blk_cell BK158.out 2).trans rfl
           have hfs43 := blk_frozen BK158.out 2
           have hns43_0 := NB157_158.out
           have hms43_0 := NB158_157.out
           have hs44 : w40.cell? ⟨gb158, 3, none⟩ = some (.int .u64 yb) := (blk_cell BK158.out 3).trans rfl
           have hfs44 := blk_frozen BK158.out 3
           have hns44_0 := NB157_158.out
           have hms44_0 := NB158_157.out
           refine skip_ (w1 := ?_) (by rfl) rfl ?_ ?_
           rotate_left
           ·go_simp
            rfl
           refine hK.out _ _ ⟨((cell_far (p := ⟨gb158, _, none⟩) NB157_158.out _).trans (((cell_far (p := ⟨gb158, _, none⟩) NB157_158.out _).trans (((cell_far (p := ⟨gb158, _, none⟩) NB157_158.out _).trans (((cell_far (p := ⟨gb158, _, none⟩) NB157_158.out _).trans (hHeld.1)))))))), ((cell_far (p := ⟨gb158, _, none⟩) NB157_158.out _).trans (((cell_far (p := ⟨gb158, _, none⟩) NB157_158.out _).trans (((cell_far (p := ⟨gb158, _, none⟩) NB157_158.out _).trans (((cell_far (p := ⟨gb158, _, none⟩) NB157_158.out _).trans (hHeld.2.1)))))))), ((cell_far (p := ⟨gb158, _, none⟩) NB157_158.out _).trans (((cell_far (p := ⟨gb158, _, none⟩) NB157_158.out _).trans (((cell_far (p := ⟨gb158, _, none⟩) NB157_158.out _).trans (((cell_far (p := ⟨gb158, _, none⟩) NB157_158.out _).trans (hHeld.2.2.1)))))))), ((cell_far (p := ⟨gb158, _, none⟩) NB157_158.out _).trans (((cell_far (p := ⟨gb158, _, none⟩) NB157_158.out _).trans (((cell_far (p := ⟨gb158, _, none⟩) NB157_158.out _).trans (((cell_far (p := ⟨gb158, _, none⟩) NB157_158.out _).trans (hHeld.2.2.2))))))))⟩ (fun hHeld => ?_)
           clear hK K
           refine pure_ (i := 5) (N := some 9) (v := ?_) (a' := ?_) qT32 rfl rfl (by kernel_rfl) (fun _ _ _ h => h) (Or.inl ⟨by rfl, ?_⟩) ?_ ?_
           rotate_left
           ·intro w'
            go_simp
            with_reducible rfl
           rotate_left
           ·simp only [Act.put, List.setIfInBounds_toArray, List.set_cons_zero, List.set_cons_succ, i64_w, i32_w]
            rfl
           refine done_ (by kernel_rfl) ?_
           try go_wp2
           refine bodyPost_ret (results_list (rs := [.tmp 6, .tmp 7, .cell 8 24, .tmp 9]) rfl (by simp) (.tmp (.tmp (.cell gb158 24 #[.int .u64 a0_0, .int .u64 a0_1, .int .u64 a0_2, .int .u64 a0_3] (0, 0) _ rfl (by (with_reducible repeat (first | apply blN | apply blD | apply blA)); refine blk_put (cs := #[.int .u64 a0_0, .int .u64 a0_1, .int .u64 a0_2, .int .u64 yb]) ?_ 3 _ rfl; (with_reducible repeat (first | apply blN | apply blD | apply blA)); refine blk_put (cs := #[.int .u64 a0_0, .int .u64 a0_1, .int .u64 y9, .int .u64 yb]) ?_ 2 _ rfl; (with_reducible repeat (first | apply blN | apply blD | apply blA)); refine blk_put (cs := #[.int .u64 a0_0, .int .u64 y7, .int .u64 y9, .int .u64 yb]) ?_ 1 _ rfl; (with_reducible repeat (first | apply blN | apply blD | apply blA)); refine blk_put (cs := #[.int .u64 y5, .int .u64 y7, .int .u64 y9, .int .u64 yb]) ?_ 0 _ rfl; (with_reducible repeat (first | apply blN | apply blD | apply blA)); exact BK158.out) Try.underlying24 rfl (by kernel_rfl) (.tmp .nil))))) rfl ?_
           exact ⟨_, _, by first | rfl | (simp [errW_none, errW_some] <;> rfl) | (simp [*, errW_none, errW_some] <;> rfl), by (with_reducible repeat (first | apply Kd.V_alloc | apply Kd.V_drewN | apply Kd.V_drew)); exact Kd.V_mono (Kd.V_far (p := ⟨gb158, 3, none⟩) (Kd.V_far (p := ⟨gb158, 2, none⟩) (Kd.V_far (p := ⟨gb158, 1, none⟩) (Kd.V_far (p := ⟨gb158, 0, none⟩) (Kd.V_mono HO_1.out (fun k_ hk => (⟨hk, hk.2.2⟩ : _ ∧ k_ ≠ gb158))) (fun _ hk => hk.2) (.int .u64 a0_0)) (fun _ hk => hk.2) (.int .u64 a0_1)) (fun _ hk => hk.2) (.int .u64 a0_2)) (fun _ hk => hk.2) (.int .u64 a0_3)) (fun _ hk => ⟨hk.1.1, (by simp [Value.ownBlock])⟩), by first | exact Kd.R_nil _ _ _ _ _ | exact Kd.N_nil _ _ _ _ _ | exact Kd.V_nil _ _ _ _ _ | exact Kd.Q_nil _ _ _ _ _ | exact Kd.S_nil _ _ _ _ _, by repeat (first | (with_reducible first | exact HB.out | apply below_alloc | apply pw_below_drewN | apply below_drew1 | refine below_set ?_ GE157.out | refine below_set ?_ GE158.out) | exact HB.out)⟩
         ·rw [if_neg c38] at H
          exact absurd H (by simp)
        ·rw [if_neg c37] at H
         exact absurd H (by simp)
       ·rw [if_neg c36] at H
        exact absurd H (by simp)
      ·rw [if_neg c35] at H
       have c35b0 : decide (x11_2 < (l2.length : Int)) = false := decide_eq_false c35
       clear c35
       replace H := Option.bind_eq_some_iff.mp H
       obtain ⟨t165, A450, H⟩ := H
       replace H : (truceref17_Transfer.l2 k2 l1 l2 t165 ([] : List (S40)) ([] : List (S24)) 0 a0_0 a0_1 a0_2 a0_3) = some (r1, r2, r3, r4, r5, r6, r7) := H
       have A45 := Aside0.mk A450
       clear A450
       have H' := Aside0.mk H
       clear H
       have hnb46 := NB157_158.out
       have hnc46 := NB158_157.out
       have hcz47_0 : wr.cell? ⟨gb157, 0, none⟩ = some (.int .u64 a0_0) := (blk_cell BK157.out 0).trans rfl
       have hcz47_1 : wr.cell? ⟨gb157, 1, none⟩ = some (.int .u64 a0_1) := (blk_cell BK157.out 1).trans rfl
       have hcz47_2 : wr.cell? ⟨gb157, 2, none⟩ = some (.int .u64 a0_2) := (blk_cell BK157.out 2).trans rfl
       have hcz47_3 : wr.cell? ⟨gb157, 3, none⟩ = some (.int .u64 a0_3) := (blk_cell BK157.out 3).trans rfl
       have hfz47_0 := blk_frozen BK157.out 0
       have hfz47_1 := blk_frozen BK157.out 1
       have hfz47_2 := blk_frozen BK157.out 2
       have hfz47_3 := blk_frozen BK157.out 3
       go_wp2_with (first | ((with_reducible refine gate_callee (f := 13) rfl ?_); refine goesL_ (some 75) rfl rfl Try.func13 (by kernel_rfl) rfl #[.agg #[.int .u64 a0_0, .int .u64 a0_1, .int .u64 a0_2, .int .u64 a0_3], .slice A1 l1.length c1] rfl (by (try simp only [List.map_toArray, List.map_cons, List.map_nil]); first | done | rfl | (simp only [List.length_drop, List.length_take]; rfl)) ?_; (with_reducible refine (truceref17_Afford.calls k2 a0_0 a0_1 a0_2 a0_3 _ _ l1 t165 _ ?side1 ?side2 A45.out).mono ?_); (case side1 => repeat (first | exact (Kd.V_reads' HO_1.out).2.2 | (with_reducible refine Kd.C_alloc ?_ _) | (with_reducible refine Kd.C_drewN ?_ _) | (with_reducible refine Kd.C_drew ?_))); (case side2 => exact (Kd.V_reads' HO_1.out).2.1); rintro e w48 ⟨v166, rfl, ho0, hb⟩; refine ⟨_, rfl, ?_⟩; have n0_ := Aside0.mk (Kd.V_elder' (by (with_reducible repeat (first | apply Kd.V_alloc | apply Kd.V_drewN | apply Kd.V_drew)); exact HO_1.out) (Kd.R_base ho0) hb); have n1_ := Aside0.mk (Kd.R_lower (Kd.R_newB (Kd.R_newB (Kd.R_newM (M := fun k_ => (w.heap.size ≤ k_)) ho0 (below_size (by repeat (first | (with_reducible first | exact HB.out | apply below_alloc | apply pw_below_drewN | apply below_drew1 | refine below_set ?_ GE157.out | refine below_set ?_ GE158.out) | exact HB.out))) (fun k_ h_ => h_)) (g := gb157) (o := .cells #[.int .u64 a0_0, .int .u64 a0_1, .int .u64 a0_2, .int .u64 a0_3] 24 (0, 0)) (by (with_reducible repeat (first | apply blN | apply blD | apply blA)); exact BK157.out)) (g := gb158) (o := .cells #[.int .u64 y5, .int .u64 y7, .int .u64 y9, .int .u64 yb] 24 (0, 0)) (by (with_reducible repeat (first | apply blN | apply blD | apply blA)); exact BK158.out)) (below_size (by repeat (first | (with_reducible first | exact HB.out | apply below_alloc | apply pw_below_drewN | apply below_drew1 | refine below_set ?_ GE157.out | refine below_set ?_ GE158.out) | exact HB.out)))); have n2_ := Aside0.mk (blk_below (g := gb157) (o := .cells #[.int .u64 a0_0, .int .u64 a0_1, .int .u64 a0_2, .int .u64 a0_3] 24 (0, 0)) (by (with_reducible repeat (first | apply blN | apply blD | apply blA)); exact BK157.out) hb); have n3_ := Aside0.mk (blk_below (g := gb158) (o := .cells #[.int .u64 y5, .int .u64 y7, .int .u64 y9, .int .u64 yb] 24 (0, 0)) (by (with_reducible repeat (first | apply blN | apply blD | apply blA)); exact BK158.out) hb); have n4_ := Aside0.mk (below_step (by repeat (first | (with_reducible first | exact HB.out | apply below_alloc | apply pw_below_drewN | apply below_drew1 | refine below_set ?_ GE157.out | refine below_set ?_ GE158.out) | exact HB.out)) hb); clear HO_1; clear BK157; clear BK158; clear HB; have HO_1 := n0_; have HO167 := n1_; have BK157 := n2_; have BK158 := n3_; have HB := n4_; clear n0_ n1_ n2_ n3_ n4_; (try clear hb); (try clear hb2); (try clear hk); (try clear hi); (try clear ho0)))
       go_loopg [13, 14, 15] k2 (fun kq v13 v14 v15 w' => ∃ (x13_3 : List (S40)) (x14_3 : List (S24)) (x15_3 : Int) (y0 : Int) (y1 : Int) (y2 : Int) (y3 : Int), v15 = .int .i64 x15_3 ∧ Aside0 (truceref17_Transfer.l2 kq l1 l2 t165 x13_3 x14_3 x15_3 y0 y1 y2 y3 = some (r1, r2, r3, r4, r5, r6, r7)) ∧ Aside0 (kq ≤ k2) ∧ Aside0 (Kd.V k40 40 w' w.heap.size (fun k_ => (P1_ k_ ∨ w.heap.size ≤ k_) ∧ some k_ ≠ (v166 : Value).ownBlock ∧ some k_ ≠ (v13 : Value).ownBlock ∧ some k_ ≠ (v14 : Value).ownBlock ∧ k_ ≠ gb157 ∧ k_ ≠ gb158) (.slice A1 l1.length c1) l1) ∧ Aside0 (Kd.R k24 24 w' w.heap.size (fun k_ => (w.heap.size ≤ k_) ∧ some k_ ≠ (v14 : Value).ownBlock ∧ k_ ≠ gb157 ∧ k_ ≠ gb158) v166 t165) ∧ Aside0 (Kd.R k40 40 w' w.heap.size (fun k_ => (w.heap.size ≤ k_)) v13 x13_3) ∧ Aside0 (Kd.R k24 24 w' w.heap.size (fun k_ => (w.heap.size ≤ k_) ∧ some k_ ≠ (v166 : Value).ownBlock ∧ k_ ≠ gb157 ∧ k_ ≠ gb158) v14 x14_3) ∧ Aside0 (w'.heap[gb157]? = some (.cells #[.int .u64 y0, .int .u64 y1, .int .u64 y2, .int .u64 y3] 24 (0, 0))) ∧ Aside0 (w'.heap[gb158]? = some (.cells #[.int .u64 y5, .int .u64 y7, .int .u64 y9, .int .u64 yb] 24 (0, 0))) ∧ Aside0 (Below w.heap.size w w'))
       case atStart => exact ⟨(([] : List (S40))), (([] : List (S24))), (0), (a0_0), (a0_1), (a0_2), (a0_3), (by first | rfl | (simp; done) | (simp [*]; done)), H', ⟨Nat.le_refl _⟩, ⟨by (with_reducible repeat (first | apply Kd.V_alloc | apply Kd.V_drewN | apply Kd.V_drew)); exact Kd.V_mono HO_1.out (fun _ hk => ⟨hk.1.1, ⟨hk.2, ⟨(by simp [Value.ownBlock]), ⟨(by simp [Value.ownBlock]), ⟨hk.1.2.1, hk.1.2.2⟩⟩⟩⟩⟩)⟩, ⟨by (with_reducible repeat (first | apply Kd.R_alloc | apply Kd.R_drewN | apply Kd.R_drew)); exact Kd.R_mono HO167.out (fun _ hk => ⟨hk.1.1.1, ⟨(by simp [Value.ownBlock]), ⟨hk.1.2, hk.2⟩⟩⟩)⟩, ⟨by first | exact Kd.R_nil _ _ _ _ _ | exact Kd.N_nil _ _ _ _ _ | exact Kd.V_nil _ _ _ _ _ | exact Kd.Q_nil _ _ _ _ _ | exact Kd.S_nil _ _ _ _ _⟩, ⟨by first | exact Kd.R_nil _ _ _ _ _ | exact Kd.N_nil _ _ _ _ _ | exact Kd.V_nil _ _ _ _ _ | exact Kd.Q_nil _ _ _ _ _ | exact Kd.S_nil _ _ _ _ _⟩, ⟨by (with_reducible repeat (first | apply blN | apply blD | apply blA)); exact BK157.out⟩, ⟨by (with_reducible repeat (first | apply blN | apply blD | apply blA)); exact BK158.out⟩, ⟨by repeat (first | (with_reducible first | exact HB.out | apply below_alloc | apply pw_below_drewN | apply below_drew1 | refine below_set ?_ GE157.out | refine below_set ?_ GE158.out) | exact HB.out)⟩⟩
       case round =>
        clear H'
        try clear c1
        try clear p1
        try clear q1
        try clear hx1
        try clear c2
        try clear p2
        try clear c3
        try clear c4
        try clear c6
        try clear c6b0
        try clear p6
        try clear c7
        try clear c13
        try clear p15
        try clear q15
        try clear hx15
        try clear p16
        try clear q16
        try clear hx16
        try clear c22
        try clear c22b0
        try clear c24
        try clear c25
        try clear c26
        try clear c26b0
        try clear c35
        try clear c35b0
        try clear c36
        try clear c36b0
        try clear c37
        try clear c37b0
        try clear c38
        try clear c38b0
        try clear c39
        try clear c39b0
        try clear c39b1
        try clear c46
        try clear hcz47_0
        try clear hcz47_1
        try clear hcz47_2
        try clear hcz47_3
        try clear hfz47_0
        try clear hfz47_1
        try clear hfz47_2
        try clear hfz47_3
        try clear hx159_0
        try clear hx160_0
        try clear hx161_0
        try clear hx162_0
        try clear hx163_0
        try clear hx164_0
        try clear hx164_1
        try clear hx164_2
        try clear hx164_3
        try clear hx164_4
        try clear hx164_5
        try clear hx164_6
        try clear hx164_7
        try clear p1
        try clear p15
        try clear p159
        try clear p16
        try clear p160
        try clear p161
        try clear p162
        try clear p163
        try clear p164
        try clear p2
        try clear p6
        try clear q1
        try clear q15
        try clear q159
        try clear q16
        try clear q160
        try clear q161
        try clear q162
        try clear q163
        try clear q164
        obtain ⟨x13_3, x14_3, x15_3, y0, y1, y2, y3, rfl, HA, HK3, HO_1, HO_12, HO_13, HO_14, BK157, BK158, HB⟩ := hrel
        cases gk with
        | zero => exact absurd HA.out (by simp [truceref17_Transfer.l2])
        | succ k3 =>
         have H := HA.out
         clear HA
         simp only [truceref17_Transfer.l2] at H
         by_cases c49 : x15_3 < (l1.length : Int)
         ·rw [if_pos c49] at H
          have c49b0 : decide (x15_3 < (l1.length : Int)) = true := decide_eq_true c49
          clear c49
          by_cases c50 : 0 ≤ x15_3
          ·rw [if_pos c50] at H
           have c50b0 : decide (0 ≤ x15_3) = true := decide_eq_true c50
           clear c50
           have HC51 := Aside0.mk H
           clear H
           have p168 : 0 ≤ (x15_3 : Int) := of_decide_eq_true (by first | (with_reducible assumption) | assumption)
           have q168 : x15_3 < (l1.length : Int) := of_decide_eq_true (by first | (with_reducible assumption) | assumption)
           obtain ⟨ad168, e168, hx168_0, hx168_1, hx168_2, hx168_3, hx168_4, hx168_5, hx168_6, hx168_7⟩ := at_T40 (Kd.V_reads' HO_1.out).2.2 x15_3 p168 q168
           cases e168
           replace p168 := eq_true p168
           replace q168 := eq_true q168
           go_upto_region 19 with (first | ((with_reducible refine gate_dst (N := 16) rfl ?_); (try (refine gate_guard (by rfl) ?_; dsimp only)); refine box_event ?hg (N := 16) ?hd (cs := #[.string (⟨#[]⟩ : ByteArray), .int .u64 0, .int .u64 0, .int .u64 0, .int .u64 0, .int .i64 0, .string (⟨#[]⟩ : ByteArray), .string (⟨#[]⟩ : ByteArray)]) (t := 40) ?hr ?_; (case hd => rfl); (case hg => rfl); (case hr => first | (go_simp; done) | (go_simp; rfl)); intro gb169 hg w52 hbox hb; have n0_ := Aside0.mk (Kd.V_below (Kd.V_elderB (by (with_reducible repeat (first | apply Kd.V_alloc | apply Kd.V_drewN | apply Kd.V_drew)); exact HO_1.out) gb169 (Nat.le_of_eq hg.symm)) hb); have n1_ := Aside0.mk (Kd.R_below (by (with_reducible repeat (first | apply Kd.R_alloc | apply Kd.R_drewN | apply Kd.R_drew)); exact HO_12.out) hb); have n2_ := Aside0.mk (Kd.R_below (Kd.R_elderB (by (with_reducible repeat (first | apply Kd.R_alloc | apply Kd.R_drewN | apply Kd.R_drew)); exact HO_13.out) gb169 (Nat.le_of_eq hg.symm)) hb); have n3_ := Aside0.mk (Kd.R_below (by (with_reducible repeat (first | apply Kd.R_alloc | apply Kd.R_drewN | apply Kd.R_drew)); exact HO_14.out) hb); have n4_ := Aside0.mk (blk_below (g := gb157) (o := .cells #[.int .u64 y0, .int .u64 y1, .int .u64 y2, .int .u64 y3] 24 (0, 0)) (by (with_reducible repeat (first | apply blN | apply blD | apply blA)); exact BK157.out) hb); have n5_ := Aside0.mk (blk_below (g := gb158) (o := .cells #[.int .u64 y5, .int .u64 y7, .int .u64 y9, .int .u64 yb] 24 (0, 0)) (by (with_reducible repeat (first | apply blN | apply blD | apply blA)); exact BK158.out) hb); have n6_ := Aside0.mk (below_step (by repeat (first | (with_reducible first | exact HB.out | apply below_alloc | apply pw_below_drewN | apply below_drew1 | refine below_set ?_ GE157.out | refine below_set ?_ GE158.out) | exact HB.out)) hb); have n7_ := Aside0.mk (hbox); have n8_ := Aside0.mk ((by rw [hg]; exact (below_size (by repeat (first | (with_reducible first | exact HB.out | apply below_alloc | apply pw_below_drewN | apply below_drew1 | refine below_set ?_ GE157.out | refine below_set ?_ GE158.out) | exact HB.out))) : w.heap.size ≤ gb169)); have n9_ := Aside0.mk ((by rw [hg]; exact (below_size (by repeat (first | (with_reducible first | exact HB.out | apply below_alloc | apply pw_below_drewN | apply below_drew1 | refine below_set ?_ GE157.out | refine below_set ?_ GE158.out) | exact HB.out))) : w.heap.size ≤ gb169)); have n10_ := Aside0.mk ((by rw [hg]; exact Nat.ne_of_lt (blk_lt (g := gb157) (o := .cells #[.int .u64 y0, .int .u64 y1, .int .u64 y2, .int .u64 y3] 24 (0, 0)) (by (with_reducible repeat (first | apply blN | apply blD | apply blA)); exact BK157.out)) : gb157 ≠ gb169)); have n11_ := Aside0.mk ((by rw [hg]; exact Nat.ne_of_gt (blk_lt (g := gb157) (o := .cells #[.int .u64 y0, .int .u64 y1, .int .u64 y2, .int .u64 y3] 24 (0, 0)) (by (with_reducible repeat (first | apply blN | apply blD | apply blA)); exact BK157.out)) : gb169 ≠ gb157)); have n12_ := Aside0.mk ((by rw [hg]; exact Nat.ne_of_lt (blk_lt (g := gb158) (o := .cells #[.int .u64 y5, .int .u64 y7, .int .u64 y9, .int .u64 yb] 24 (0, 0)) (by (with_reducible repeat (first | apply blN | apply blD | apply blA)); exact BK158.out)) : gb158 ≠ gb169)); have n13_ := Aside0.mk ((by rw [hg]; exact Nat.ne_of_gt (blk_lt (g := gb158) (o := .cells #[.int .u64 y5, .int .u64 y7, .int .u64 y9, .int .u64 yb] 24 (0, 0)) (by (with_reducible repeat (first | apply blN | apply blD | apply blA)); exact BK158.out)) : gb169 ≠ gb158)); clear HO_1; clear HO_12; clear HO_13; clear HO_14; clear BK157; clear BK158; clear HB; have HO_1 := n0_; have HO_12 := n1_; have HO_13 := n2_; have HO_14 := n3_; have BK157 := n4_; have BK158 := n5_; have HB := n6_; have BK169 := n7_; have GW169 := n8_; have GE169 := n9_; have NB157_169 := n10_; have NB169_157 := n11_; have NB158_169 := n12_; have NB169_158 := n13_; clear n0_ n1_ n2_ n3_ n4_ n5_ n6_ n7_ n8_ n9_ n10_ n11_ n12_ n13_; clear hb hbox hg; have hnb53 := NB169_157.out; have hnc53 := NB157_169.out; have hnb54 := NB169_158.out; have hnc54 := NB158_169.out; have hcz55_0 : w52.cell? ⟨gb169, 0, none⟩ = some (.string (⟨#[]⟩ : ByteArray)) := (blk_cell BK169.out 0).trans rfl; have hcz55_1 : w52.cell? ⟨gb169, 1, none⟩ = some (.int .u64 0) := (blk_cell BK169.out 1).trans rfl; have hcz55_2 : w52.cell? ⟨gb169, 2, none⟩ = some (.int .u64 0) := (blk_cell BK169.out 2).trans rfl; have hcz55_3 : w52.cell? ⟨gb169, 3, none⟩ = some (.int .u64 0) := (blk_cell BK169.out 3).trans rfl; have hcz55_4 : w52.cell? ⟨gb169, 4, none⟩ = some (.int .u64 0) := (blk_cell BK169.out 4).trans rfl; have hcz55_5 : w52.cell? ⟨gb169, 5, none⟩ = some (.int .i64 0) := (blk_cell BK169.out 5).trans rfl; have hcz55_6 : w52.cell? ⟨gb169, 6, none⟩ = some (.string (⟨#[]⟩ : ByteArray)) := (blk_cell BK169.out 6).trans rfl; have hcz55_7 : w52.cell? ⟨gb169, 7, none⟩ = some (.string (⟨#[]⟩ : ByteArray)) := (blk_cell BK169.out 7).trans rfl; have hfz55_0 := blk_frozen BK169.out 0; have hfz55_1 := blk_frozen BK169.out 1; have hfz55_2 := blk_frozen BK169.out 2; have hfz55_3 := blk_frozen BK169.out 3; have hfz55_4 := blk_frozen BK169.out 4; have hfz55_5 := blk_frozen BK169.out 5; have hfz55_6 := blk_frozen BK169.out 6; have hfz55_7 := blk_frozen BK169.out 7) | ((with_reducible refine gate_dst (N := 17) rfl ?_); (try (refine gate_guard (by rfl) ?_; dsimp only)); refine box_event ?hg (N := 17) ?hd (cs := #[.int .u64 0, .int .u64 0, .int .u64 0, .int .u64 0]) (t := 24) ?hr ?_; (case hd => rfl); (case hg => rfl); (case hr => first | (go_simp; done) | (go_simp; rfl)); intro gb170 hg w56 hbox hb; have n0_ := Aside0.mk (Kd.V_below (Kd.V_elderB (by (with_reducible repeat (first | apply Kd.V_alloc | apply Kd.V_drewN | apply Kd.V_drew)); exact (Kd.V_mono (Kd.V_far (p := ⟨gb169, 7, none⟩) (Kd.V_far (p := ⟨gb169, 6, none⟩) (Kd.V_far (p := ⟨gb169, 5, none⟩) (Kd.V_far (p := ⟨gb169, 4, none⟩) (Kd.V_far (p := ⟨gb169, 3, none⟩) (Kd.V_far (p := ⟨gb169, 2, none⟩) (Kd.V_far (p := ⟨gb169, 1, none⟩) (Kd.V_far (p := ⟨gb169, 0, none⟩) (Kd.V_mono HO_1.out (fun k_ hk => (⟨hk, hk.2⟩ : _ ∧ k_ ≠ gb169))) (fun _ hk => hk.2) (.string ((rd_T40 l1 x15_3).f0))) (fun _ hk => hk.2) (.int .u64 ((rd_T40 l1 x15_3).f1.f0))) (fun _ hk => hk.2) (.int .u64 ((rd_T40 l1 x15_3).f1.f1))) (fun _ hk => hk.2) (.int .u64 ((rd_T40 l1 x15_3).f1.f2))) (fun _ hk => hk.2) (.int .u64 ((rd_T40 l1 x15_3).f1.f3))) (fun _ hk => hk.2) (.int .i64 ((rd_T40 l1 x15_3).f2))) (fun _ hk => hk.2) (.string ((rd_T40 l1 x15_3).f3))) (fun _ hk => hk.2) (.string ((rd_T40 l1 x15_3).f4))) (fun _ h_ => h_.1))) gb170 (Nat.le_of_eq hg.symm)) hb); have n1_ := Aside0.mk (Kd.R_below (Kd.R_elderB (by (with_reducible repeat (first | apply Kd.R_alloc | apply Kd.R_drewN | apply Kd.R_drew)); exact (Kd.R_mono (Kd.R_far (p := ⟨gb169, 7, none⟩) (Kd.R_far (p := ⟨gb169, 6, none⟩) (Kd.R_far (p := ⟨gb169, 5, none⟩) (Kd.R_far (p := ⟨gb169, 4, none⟩) (Kd.R_far (p := ⟨gb169, 3, none⟩) (Kd.R_far (p := ⟨gb169, 2, none⟩) (Kd.R_far (p := ⟨gb169, 1, none⟩) (Kd.R_far (p := ⟨gb169, 0, none⟩) (Kd.R_types HO_12.out BK169.out (by decide)) (fun _ hk => hk.2) (.string ((rd_T40 l1 x15_3).f0))) (fun _ hk => hk.2) (.int .u64 ((rd_T40 l1 x15_3).f1.f0))) (fun _ hk => hk.2) (.int .u64 ((rd_T40 l1 x15_3).f1.f1))) (fun _ hk => hk.2) (.int .u64 ((rd_T40 l1 x15_3).f1.f2))) (fun _ hk => hk.2) (.int .u64 ((rd_T40 l1 x15_3).f1.f3))) (fun _ hk => hk.2) (.int .i64 ((rd_T40 l1 x15_3).f2))) (fun _ hk => hk.2) (.string ((rd_T40 l1 x15_3).f3))) (fun _ hk => hk.2) (.string ((rd_T40 l1 x15_3).f4))) (fun _ h_ => h_.1))) gb170 (Nat.le_of_eq hg.symm)) hb); have n2_ := Aside0.mk (Kd.R_below (by (with_reducible repeat (first | apply Kd.R_alloc | apply Kd.R_drewN | apply Kd.R_drew)); exact (Kd.R_mono (Kd.R_far (p := ⟨gb169, 7, none⟩) (Kd.R_far (p := ⟨gb169, 6, none⟩) (Kd.R_far (p := ⟨gb169, 5, none⟩) (Kd.R_far (p := ⟨gb169, 4, none⟩) (Kd.R_far (p := ⟨gb169, 3, none⟩) (Kd.R_far (p := ⟨gb169, 2, none⟩) (Kd.R_far (p := ⟨gb169, 1, none⟩) (Kd.R_far (p := ⟨gb169, 0, none⟩) (Kd.R_mono HO_13.out (fun k_ hk => (⟨hk, hk.2⟩ : _ ∧ k_ ≠ gb169))) (fun _ hk => hk.2) (.string ((rd_T40 l1 x15_3).f0))) (fun _ hk => hk.2) (.int .u64 ((rd_T40 l1 x15_3).f1.f0))) (fun _ hk => hk.2) (.int .u64 ((rd_T40 l1 x15_3).f1.f1))) (fun _ hk => hk.2) (.int .u64 ((rd_T40 l1 x15_3).f1.f2))) (fun _ hk => hk.2) (.int .u64 ((rd_T40 l1 x15_3).f1.f3))) (fun _ hk => hk.2) (.int .i64 ((rd_T40 l1 x15_3).f2))) (fun _ hk => hk.2) (.string ((rd_T40 l1 x15_3).f3))) (fun _ hk => hk.2) (.string ((rd_T40 l1 x15_3).f4))) (fun _ h_ => h_.1))) hb); have n3_ := Aside0.mk (Kd.R_below (Kd.R_elderB (by (with_reducible repeat (first | apply Kd.R_alloc | apply Kd.R_drewN | apply Kd.R_drew)); exact (Kd.R_mono (Kd.R_far (p := ⟨gb169, 7, none⟩) (Kd.R_far (p := ⟨gb169, 6, none⟩) (Kd.R_far (p := ⟨gb169, 5, none⟩) (Kd.R_far (p := ⟨gb169, 4, none⟩) (Kd.R_far (p := ⟨gb169, 3, none⟩) (Kd.R_far (p := ⟨gb169, 2, none⟩) (Kd.R_far (p := ⟨gb169, 1, none⟩) (Kd.R_far (p := ⟨gb169, 0, none⟩) (Kd.R_types HO_14.out BK169.out (by decide)) (fun _ hk => hk.2) (.string ((rd_T40 l1 x15_3).f0))) (fun _ hk => hk.2) (.int .u64 ((rd_T40 l1 x15_3).f1.f0))) (fun _ hk => hk.2) (.int .u64 ((rd_T40 l1 x15_3).f1.f1))) (fun _ hk => hk.2) (.int .u64 ((rd_T40 l1 x15_3).f1.f2))) (fun _ hk => hk.2) (.int .u64 ((rd_T40 l1 x15_3).f1.f3))) (fun _ hk => hk.2) (.int .i64 ((rd_T40 l1 x15_3).f2))) (fun _ hk => hk.2) (.string ((rd_T40 l1 x15_3).f3))) (fun _ hk => hk.2) (.string ((rd_T40 l1 x15_3).f4))) (fun _ h_ => h_.1))) gb170 (Nat.le_of_eq hg.symm)) hb); have n4_ := Aside0.mk (blk_below (g := gb157) (o := .cells #[.int .u64 y0, .int .u64 y1, .int .u64 y2, .int .u64 y3] 24 (0, 0)) (by (with_reducible repeat (first | apply blN | apply blD | apply blA)); refine blk_far ?_ NB157_169.out _; (with_reducible repeat (first | apply blN | apply blD | apply blA)); refine blk_far ?_ NB157_169.out _; (with_reducible repeat (first | apply blN | apply blD | apply blA)); refine blk_far ?_ NB157_169.out _; (with_reducible repeat (first | apply blN | apply blD | apply blA)); refine blk_far ?_ NB157_169.out _; (with_reducible repeat (first | apply blN | apply blD | apply blA)); refine blk_far ?_ NB157_169.out _; (with_reducible repeat (first | apply blN | apply blD | apply blA)); refine blk_far ?_ NB157_169.out _; (with_reducible repeat (first | apply blN | apply blD | apply blA)); refine blk_far ?_ NB157_169.out _; (with_reducible repeat (first | apply blN | apply blD | apply blA)); refine blk_far ?_ NB157_169.out _; (with_reducible repeat (first | apply blN | apply blD | apply blA)); exact BK157.out) hb); have n5_ := Aside0.mk (blk_below (g := gb158) (o := .cells #[.int .u64 y5, .int .u64 y7, .int .u64 y9, .int .u64 yb] 24 (0, 0)) (by (with_reducible repeat (first | apply blN | apply blD | apply blA)); refine blk_far ?_ NB158_169.out _; (with_reducible repeat (first | apply blN | apply blD | apply blA)); refine blk_far ?_ NB158_169.out _; (with_reducible repeat (first | apply blN | apply blD | apply blA)); refine blk_far ?_ NB158_169.out _; (with_reducible repeat (first | apply blN | apply blD | apply blA)); refine blk_far ?_ NB158_169.out _; (with_reducible repeat (first | apply blN | apply blD | apply blA)); refine blk_far ?_ NB158_169.out _; (with_reducible repeat (first | apply blN | apply blD | apply blA)); refine blk_far ?_ NB158_169.out _; (with_reducible repeat (first | apply blN | apply blD | apply blA)); refine blk_far ?_ NB158_169.out _; (with_reducible repeat (first | apply blN | apply blD | apply blA)); refine blk_far ?_ NB158_169.out _; (with_reducible repeat (first | apply blN | apply blD | apply blA)); exact BK158.out) hb); have n6_ := Aside0.mk (blk_below (g := gb169) (o := .cells #[.string ((rd_T40 l1 x15_3).f0), .int .u64 ((rd_T40 l1 x15_3).f1.f0), .int .u64 ((rd_T40 l1 x15_3).f1.f1), .int .u64 ((rd_T40 l1 x15_3).f1.f2), .int .u64 ((rd_T40 l1 x15_3).f1.f3), .int .i64 ((rd_T40 l1 x15_3).f2), .string ((rd_T40 l1 x15_3).f3), .string ((rd_T40 l1 x15_3).f4)] 40 (0, 0)) (by (with_reducible repeat (first | apply blN | apply blD | apply blA)); refine blk_put (cs := #[.string ((rd_T40 l1 x15_3).f0), .int .u64 ((rd_T40 l1 x15_3).f1.f0), .int .u64 ((rd_T40 l1 x15_3).f1.f1), .int .u64 ((rd_T40 l1 x15_3).f1.f2), .int .u64 ((rd_T40 l1 x15_3).f1.f3), .int .i64 ((rd_T40 l1 x15_3).f2), .string ((rd_T40 l1 x15_3).f3), .string (⟨#[]⟩ : ByteArray)]) ?_ 7 _ rfl; (with_reducible repeat (first | apply blN | apply blD | apply blA)); refine blk_put (cs := #[.string ((rd_T40 l1 x15_3).f0), .int .u64 ((rd_T40 l1 x15_3).f1.f0), .int .u64 ((rd_T40 l1 x15_3).f1.f1), .int .u64 ((rd_T40 l1 x15_3).f1.f2), .int .u64 ((rd_T40 l1 x15_3).f1.f3), .int .i64 ((rd_T40 l1 x15_3).f2), .string (⟨#[]⟩ : ByteArray), .string (⟨#[]⟩ : ByteArray)]) ?_ 6 _ rfl; (with_reducible repeat (first | apply blN | apply blD | apply blA)); refine blk_put (cs := #[.string ((rd_T40 l1 x15_3).f0), .int .u64 ((rd_T40 l1 x15_3).f1.f0), .int .u64 ((rd_T40 l1 x15_3).f1.f1), .int .u64 ((rd_T40 l1 x15_3).f1.f2), .int .u64 ((rd_T40 l1 x15_3).f1.f3), .int .i64 0, .string (⟨#[]⟩ : ByteArray), .string (⟨#[]⟩ : ByteArray)]) ?_ 5 _ rfl; (with_reducible repeat (first | apply blN | apply blD | apply blA)); refine blk_put (cs := #[.string ((rd_T40 l1 x15_3).f0), .int .u64 ((rd_T40 l1 x15_3).f1.f0), .int .u64 ((rd_T40 l1 x15_3).f1.f1), .int .u64 ((rd_T40 l1 x15_3).f1.f2), .int .u64 0, .int .i64 0, .string (⟨#[]⟩ : ByteArray), .string (⟨#[]⟩ : ByteArray)]) ?_ 4 _ rfl; (with_reducible repeat (first | apply blN | apply blD | apply blA)); refine blk_put (cs := #[.string ((rd_T40 l1 x15_3).f0), .int .u64 ((rd_T40 l1 x15_3).f1.f0), .int .u64 ((rd_T40 l1 x15_3).f1.f1), .int .u64 0, .int .u64 0, .int .i64 0, .string (⟨#[]⟩ : ByteArray), .string (⟨#[]⟩ : ByteArray)]) ?_ 3 _ rfl; (with_reducible repeat (first | apply blN | apply blD | apply blA)); refine blk_put (cs := #[.string ((rd_T40 l1 x15_3).f0), .int .u64 ((rd_T40 l1 x15_3).f1.f0), .int .u64 0, .int .u64 0, .int .u64 0, .int .i64 0, .string (⟨#[]⟩ : ByteArray), .string (⟨#[]⟩ : ByteArray)]) ?_ 2 _ rfl; (with_reducible repeat (first | apply blN | apply blD | apply blA)); refine blk_put (cs := #[.string ((rd_T40 l1 x15_3).f0), .int .u64 0, .int .u64 0, .int .u64 0, .int .u64 0, .int .i64 0, .string (⟨#[]⟩ : ByteArray), .string (⟨#[]⟩ : ByteArray)]) ?_ 1 _ rfl; (with_reducible repeat (first | apply blN | apply blD | apply blA)); refine blk_put (cs := #[.string (⟨#[]⟩ : ByteArray), .int .u64 0, .int .u64 0, .int .u64 0, .int .u64 0, .int .i64 0, .string (⟨#[]⟩ : ByteArray), .string (⟨#[]⟩ : ByteArray)]) ?_ 0 _ rfl; (with_reducible repeat (first | apply blN | apply blD | apply blA)); exact BK169.out) hb); have n7_ := Aside0.mk (below_step (by repeat (first | (with_reducible first | exact HB.out | apply below_alloc | apply pw_below_drewN | apply below_drew1 | refine below_set ?_ GE157.out | refine below_set ?_ GE158.out | refine below_set ?_ GE169.out) | exact HB.out)) hb); have n8_ := Aside0.mk (hbox); have n9_ := Aside0.mk ((by rw [hg]; exact (below_size (by repeat (first | (with_reducible first | exact HB.out | apply below_alloc | apply pw_below_drewN | apply below_drew1 | refine below_set ?_ GE157.out | refine below_set ?_ GE158.out | refine below_set ?_ GE169.out) | exact HB.out))) : w.heap.size ≤ gb170)); have n10_ := Aside0.mk ((by rw [hg]; exact (below_size (by repeat (first | (with_reducible first | exact HB.out | apply below_alloc | apply pw_below_drewN | apply below_drew1 | refine below_set ?_ GE157.out | refine below_set ?_ GE158.out | refine below_set ?_ GE169.out) | exact HB.out))) : w.heap.size ≤ gb170)); have n11_ := Aside0.mk ((by rw [hg]; exact Nat.ne_of_lt (blk_lt (g := gb157) (o := .cells #[.int .u64 y0, .int .u64 y1, .int .u64 y2, .int .u64 y3] 24 (0, 0)) (by (with_reducible repeat (first | apply blN | apply blD | apply blA)); refine blk_far ?_ NB157_169.out _; (with_reducible repeat (first | apply blN | apply blD | apply blA)); refine blk_far ?_ NB157_169.out _; (with_reducible repeat (first | apply blN | apply blD | apply blA)); refine blk_far ?_ NB157_169.out _; (with_reducible repeat (first | apply blN | apply blD | apply blA)); refine blk_far ?_ NB157_169.out _; (with_reducible repeat (first | apply blN | apply blD | apply blA)); refine blk_far ?_ NB157_169.out _; (with_reducible repeat (first | apply blN | apply blD | apply blA)); refine blk_far ?_ NB157_169.out _; (with_reducible repeat (first | apply blN | apply blD | apply blA)); refine blk_far ?_ NB157_169.out _; (with_reducible repeat (first | apply blN | apply blD | apply blA)); refine blk_far ?_ NB157_169.out _; (with_reducible repeat (first | apply blN | apply blD | apply blA)); exact BK157.out)) : gb157 ≠ gb170)); have n12_ := Aside0.mk ((by rw [hg]; exact Nat.ne_of_gt (blk_lt (g := gb157) (o := .cells #[.int .u64 y0, .int .u64 y1, .int .u64 y2, .int .u64 y3] 24 (0, 0)) (by (with_reducible repeat (first | apply blN | apply blD | apply blA)); refine blk_far ?_ NB157_169.out _; (with_reducible repeat (first | apply blN | apply blD | apply blA)); refine blk_far ?_ NB157_169.out _; (with_reducible repeat (first | apply blN | apply blD | apply blA)); refine blk_far ?_ NB157_169.out _; (with_reducible repeat (first | apply blN | apply blD | apply blA)); refine blk_far ?_ NB157_169.out _; (with_reducible repeat (first | apply blN | apply blD | apply blA)); refine blk_far ?_ NB157_169.out _; (with_reducible repeat (first | apply blN | apply blD | apply blA)); refine blk_far ?_ NB157_169.out _; (with_reducible repeat (first | apply blN | apply blD | apply blA)); refine blk_far ?_ NB157_169.out _; (with_reducible repeat (first | apply blN | apply blD | apply blA)); refine blk_far ?_ NB157_169.out _; (with_reducible repeat (first | apply blN | apply blD | apply blA)); exact BK157.out)) : gb170 ≠ gb157)); have n13_ := Aside0.mk ((by rw [hg]; exact Nat.ne_of_lt (blk_lt (g := gb158) (o := .cells #[.int .u64 y5, .int .u64 y7, .int .u64 y9, .int .u64 yb] 24 (0, 0)) (by (with_reducible repeat (first | apply blN | apply blD | apply blA)); refine blk_far ?_ NB158_169.out _; (with_reducible repeat (first | apply blN | apply blD | apply blA)); refine blk_far ?_ NB158_169.out _; (with_reducible repeat (first | apply blN | apply blD | apply blA)); refine blk_far ?_ NB158_169.out _; (with_reducible repeat (first | apply blN | apply blD | apply blA)); refine blk_far ?_ NB158_169.out _; (with_reducible repeat (first | apply blN | apply blD | apply blA)); refine blk_far ?_ NB158_169.out _; (with_reducible repeat (first | apply blN | apply blD | apply blA)); refine blk_far ?_ NB158_169.out _; (with_reducible repeat (first | apply blN | apply blD | apply blA)); refine blk_far ?_ NB158_169.out _; (with_reducible repeat (first | apply blN | apply blD | apply blA)); refine blk_far ?_ NB158_169.out _; (with_reducible repeat (first | apply blN | apply blD | apply blA)); exact BK158.out)) : gb158 ≠ gb170)); have n14_ := Aside0.mk ((by rw [hg]; exact Nat.ne_of_gt (blk_lt (g := gb158) (o := .cells #[.int .u64 y5, .int .u64 y7, .int .u64 y9, .int .u64 yb] 24 (0, 0)) (by (with_reducible repeat (first | apply blN | apply blD | apply blA)); refine blk_far ?_ NB158_169.out _; (with_reducible repeat (first | apply blN | apply blD | apply blA)); refine blk_far ?_ NB158_169.out _; (with_reducible repeat (first | apply blN | apply blD | apply blA)); refine blk_far ?_ NB158_169.out _; (with_reducible repeat (first | apply blN | apply blD | apply blA)); refine blk_far ?_ NB158_169.out _; (with_reducible repeat (first | apply blN | apply blD | apply blA)); refine blk_far ?_ NB158_169.out _; (with_reducible repeat (first | apply blN | apply blD | apply blA)); refine blk_far ?_ NB158_169.out _; (with_reducible repeat (first | apply blN | apply blD | apply blA)); refine blk_far ?_ NB158_169.out _; (with_reducible repeat (first | apply blN | apply blD | apply blA)); refine blk_far ?_ NB158_169.out _; (with_reducible repeat (first | apply blN | apply blD | apply blA)); exact BK158.out)) : gb170 ≠ gb158)); have n15_ := Aside0.mk ((by rw [hg]; exact Nat.ne_of_lt (blk_lt (g := gb169) (o := .cells #[.string ((rd_T40 l1 x15_3).f0), .int .u64 ((rd_T40 l1 x15_3).f1.f0), .int .u64 ((rd_T40 l1 x15_3).f1.f1), .int .u64 ((rd_T40 l1 x15_3).f1.f2), .int .u64 ((rd_T40 l1 x15_3).f1.f3), .int .i64 ((rd_T40 l1 x15_3).f2), .string ((rd_T40 l1 x15_3).f3), .string ((rd_T40 l1 x15_3).f4)] 40 (0, 0)) (by (with_reducible repeat (first | apply blN | apply blD | apply blA)); refine blk_put (cs := #[.string ((rd_T40 l1 x15_3).f0), .int .u64 ((rd_T40 l1 x15_3).f1.f0), .int .u64 ((rd_T40 l1 x15_3).f1.f1), .int .u64 ((rd_T40 l1 x15_3).f1.f2), .int .u64 ((rd_T40 l1 x15_3).f1.f3), .int .i64 ((rd_T40 l1 x15_3).f2), .string ((rd_T40 l1 x15_3).f3), .string (⟨#[]⟩ : ByteArray)]) ?_ 7 _ rfl; (with_reducible repeat (first | apply blN | apply blD | apply blA)); refine blk_put (cs := #[.string ((rd_T40 l1 x15_3).f0), .int .u64 ((rd_T40 l1 x15_3).f1.f0), .int .u64 ((rd_T40 l1 x15_3).f1.f1), .int .u64 ((rd_T40 l1 x15_3).f1.f2), .int .u64 ((rd_T40 l1 x15_3).f1.f3), .int .i64 ((rd_T40 l1 x15_3).f2), .string (⟨#[]⟩ : ByteArray), .string (⟨#[]⟩ : ByteArray)]) ?_ 6 _ rfl; (with_reducible repeat (first | apply blN | apply blD | apply blA)); refine blk_put (cs := #[.string ((rd_T40 l1 x15_3).f0), .int .u64 ((rd_T40 l1 x15_3).f1.f0), .int .u64 ((rd_T40 l1 x15_3).f1.f1), .int .u64 ((rd_T40 l1 x15_3).f1.f2), .int .u64 ((rd_T40 l1 x15_3).f1.f3), .int .i64 0, .string (⟨#[]⟩ : ByteArray), .string (⟨#[]⟩ : ByteArray)]) ?_ 5 _ rfl; (with_reducible repeat (first | apply blN | apply blD | apply blA)); refine blk_put (cs := #[.string ((rd_T40 l1 x15_3).f0), .int .u64 ((rd_T40 l1 x15_3).f1.f0), .int .u64 ((rd_T40 l1 x15_3).f1.f1), .int .u64 ((rd_T40 l1 x15_3).f1.f2), .int .u64 0, .int .i64 0, .string (⟨#[]⟩ : ByteArray), .string (⟨#[]⟩ : ByteArray)]) ?_ 4 _ rfl; (with_reducible repeat (first | apply blN | apply blD | apply blA)); refine blk_put (cs := #[.string ((rd_T40 l1 x15_3).f0), .int .u64 ((rd_T40 l1 x15_3).f1.f0), .int .u64 ((rd_T40 l1 x15_3).f1.f1), .int .u64 0, .int .u64 0, .int .i64 0, .string (⟨#[]⟩ : ByteArray), .string (⟨#[]⟩ : ByteArray)]) ?_ 3 _ rfl; (with_reducible repeat (first | apply blN | apply blD | apply blA)); refine blk_put (cs := #[.string ((rd_T40 l1 x15_3).f0), .int .u64 ((rd_T40 l1 x15_3).f1.f0), .int .u64 0, .int .u64 0, .int .u64 0, .int .i64 0, .string (⟨#[]⟩ : ByteArray), .string (⟨#[]⟩ : ByteArray)]) ?_ 2 _ rfl; (with_reducible repeat (first | apply blN | apply blD | apply blA)); refine blk_put (cs := #[.string ((rd_T40 l1 x15_3).f0), .int .u64 0, .int .u64 0, .int .u64 0, .int .u64 0, .int .i64 0, .string (⟨#[]⟩ : ByteArray), .string (⟨#[]⟩ : ByteArray)]) ?_ 1 _ rfl; (with_reducible repeat (first | apply blN | apply blD | apply blA)); refine blk_put (cs := #[.string (⟨#[]⟩ : ByteArray), .int .u64 0, .int .u64 0, .int .u64 0, .int .u64 0, .int .i64 0, .string (⟨#[]⟩ : ByteArray), .string (⟨#[]⟩ : ByteArray)]) ?_ 0 _ rfl; (with_reducible repeat (first | apply blN | apply blD | apply blA)); exact BK169.out)) : gb169 ≠ gb170)); have n16_ := Aside0.mk ((by rw [hg]; exact Nat.ne_of_gt (blk_lt (g := gb169) (o := .cells #[.string ((rd_T40 l1 x15_3).f0), .int .u64 ((rd_T40 l1 x15_3).f1.f0), .int .u64 ((rd_T40 l1 x15_3).f1.f1), .int .u64 ((rd_T40 l1 x15_3).f1.f2), .int .u64 ((rd_T40 l1 x15_3).f1.f3), .int .i64 ((rd_T40 l1 x15_3).f2), .string ((rd_T40 l1 x15_3).f3), .string ((rd_T40 l1 x15_3).f4)] 40 (0, 0)) (by (with_reducible repeat (first | apply blN | apply blD | apply blA)); refine blk_put (cs := #[.string ((rd_T40 l1 x15_3).f0), .int .u64 ((rd_T40 l1 x15_3).f1.f0), .int .u64 ((rd_T40 l1 x15_3).f1.f1), .int .u64 ((rd_T40 l1 x15_3).f1.f2), .int .u64 ((rd_T40 l1 x15_3).f1.f3), .int .i64 ((rd_T40 l1 x15_3).f2), .string ((rd_T40 l1 x15_3).f3), .string (⟨#[]⟩ : ByteArray)]) ?_ 7 _ rfl; (with_reducible repeat (first | apply blN | apply blD | apply blA)); refine blk_put (cs := #[.string ((rd_T40 l1 x15_3).f0), .int .u64 ((rd_T40 l1 x15_3).f1.f0), .int .u64 ((rd_T40 l1 x15_3).f1.f1), .int .u64 ((rd_T40 l1 x15_3).f1.f2), .int .u64 ((rd_T40 l1 x15_3).f1.f3), .int .i64 ((rd_T40 l1 x15_3).f2), .string (⟨#[]⟩ : ByteArray), .string (⟨#[]⟩ : ByteArray)]) ?_ 6 _ rfl; (with_reducible repeat (first | apply blN | apply blD | apply blA)); refine blk_put (cs := #[.string ((rd_T40 l1 x15_3).f0), .int .u64 ((rd_T40 l1 x15_3).f1.f0), .int .u64 ((rd_T40 l1 x15_3).f1.f1), .int .u64 ((rd_T40 l1 x15_3).f1.f2), .int .u64 ((rd_T40 l1 x15_3).f1.f3), .int .i64 0, .string (⟨#[]⟩ : ByteArray), .string (⟨#[]⟩ : ByteArray)]) ?_ 5 _ rfl; (with_reducible repeat (first | apply blN | apply blD | apply blA)); refine blk_put (cs := #[.string ((rd_T40 l1 x15_3).f0), .int .u64 ((rd_T40 l1 x15_3).f1.f0), .int .u64 ((rd_T40 l1 x15_3).f1.f1), .int .u64 ((rd_T40 l1 x15_3).f1.f2), .int .u64 0, .int .i64 0, .string (⟨#[]⟩ : ByteArray), .string (⟨#[]⟩ : ByteArray)]) ?_ 4 _ rfl; (with_reducible repeat (first | apply blN | apply blD | apply blA)); refine blk_put (cs := #[.string ((rd_T40 l1 x15_3).f0), .int .u64 ((rd_T40 l1 x15_3).f1.f0), .int .u64 ((rd_T40 l1 x15_3).f1.f1), .int .u64 0, .int .u64 0, .int .i64 0, .string (⟨#[]⟩ : ByteArray), .string (⟨#[]⟩ : ByteArray)]) ?_ 3 _ rfl; (with_reducible repeat (first | apply blN | apply blD | apply blA)); refine blk_put (cs := #[.string ((rd_T40 l1 x15_3).f0), .int .u64 ((rd_T40 l1 x15_3).f1.f0), .int .u64 0, .int .u64 0, .int .u64 0, .int .i64 0, .string (⟨#[]⟩ : ByteArray), .string (⟨#[]⟩ : ByteArray)]) ?_ 2 _ rfl; (with_reducible repeat (first | apply blN | apply blD | apply blA)); refine blk_put (cs := #[.string ((rd_T40 l1 x15_3).f0), .int .u64 0, .int .u64 0, .int .u64 0, .int .u64 0, .int .i64 0, .string (⟨#[]⟩ : ByteArray), .string (⟨#[]⟩ : ByteArray)]) ?_ 1 _ rfl; (with_reducible repeat (first | apply blN | apply blD | apply blA)); refine blk_put (cs := #[.string (⟨#[]⟩ : ByteArray), .int .u64 0, .int .u64 0, .int .u64 0, .int .u64 0, .int .i64 0, .string (⟨#[]⟩ : ByteArray), .string (⟨#[]⟩ : ByteArray)]) ?_ 0 _ rfl; (with_reducible repeat (first | apply blN | apply blD | apply blA)); exact BK169.out)) : gb170 ≠ gb169)); clear HO_1; clear HO_12; clear HO_13; clear HO_14; clear BK157; clear BK158; clear BK169; clear HB; have HO_1 := n0_; have HO_12 := n1_; have HO_13 := n2_; have HO_14 := n3_; have BK157 := n4_; have BK158 := n5_; have BK169 := n6_; have HB := n7_; have BK170 := n8_; have GW170 := n9_; have GE170 := n10_; have NB157_170 := n11_; have NB170_157 := n12_; have NB158_170 := n13_; have NB170_158 := n14_; have NB169_170 := n15_; have NB170_169 := n16_; clear n0_ n1_ n2_ n3_ n4_ n5_ n6_ n7_ n8_ n9_ n10_ n11_ n12_ n13_ n14_ n15_ n16_; clear hb hbox hg; have hnb57 := NB170_157.out; have hnc57 := NB157_170.out; have hnb58 := NB170_158.out; have hnc58 := NB158_170.out; have hnb59 := NB170_169.out; have hnc59 := NB169_170.out; have hcz60_0 : w56.cell? ⟨gb170, 0, none⟩ = some (.int .u64 0) := (blk_cell BK170.out 0).trans rfl; have hcz60_1 : w56.cell? ⟨gb170, 1, none⟩ = some (.int .u64 0) := (blk_cell BK170.out 1).trans rfl; have hcz60_2 : w56.cell? ⟨gb170, 2, none⟩ = some (.int .u64 0) := (blk_cell BK170.out 2).trans rfl; have hcz60_3 : w56.cell? ⟨gb170, 3, none⟩ = some (.int .u64 0) := (blk_cell BK170.out 3).trans rfl; have hfz60_0 := blk_frozen BK170.out 0; have hfz60_1 := blk_frozen BK170.out 1; have hfz60_2 := blk_frozen BK170.out 2; have hfz60_3 := blk_frozen BK170.out 3))
           (try simp only [Act.put, List.setIfInBounds_toArray, List.set_cons_zero, List.set_cons_succ])
           go_cut [94] (fun v94 wc => ∃ (kq : Nat) (x94_50 : Bool), v94 = .bool x94_50 ∧ Aside0 (truceref17_Transfer.j3 kq l1 l2 t165 x13_3 x14_3 x15_3 x94_50 y0 y1 y2 y3 ((rd_T40 l1 x15_3).f0) ((rd_T40 l1 x15_3).f1.f0) ((rd_T40 l1 x15_3).f1.f1) ((rd_T40 l1 x15_3).f1.f2) ((rd_T40 l1 x15_3).f1.f3) ((rd_T40 l1 x15_3).f2) ((rd_T40 l1 x15_3).f3) ((rd_T40 l1 x15_3).f4) 0 0 0 0 = some (r1, r2, r3, r4, r5, r6, r7)) ∧ Aside0 (kq ≤ k3) ∧ Aside0 (Kd.V k40 40 wc w.heap.size (fun k_ => (P1_ k_ ∨ w.heap.size ≤ k_) ∧ some k_ ≠ (v166 : Value).ownBlock ∧ some k_ ≠ (u13 : Value).ownBlock ∧ some k_ ≠ (u14 : Value).ownBlock ∧ k_ ≠ gb157 ∧ k_ ≠ gb158 ∧ k_ ≠ gb169 ∧ k_ ≠ gb170) (.slice (some ad168) l1.length c1) l1) ∧ Aside0 (Kd.R k24 24 wc w.heap.size (fun k_ => (w.heap.size ≤ k_) ∧ some k_ ≠ (u14 : Value).ownBlock ∧ k_ ≠ gb157 ∧ k_ ≠ gb158 ∧ k_ ≠ gb170) v166 t165) ∧ Aside0 (Kd.R k40 40 wc w.heap.size (fun k_ => (w.heap.size ≤ k_) ∧ k_ ≠ gb169) u13 x13_3) ∧ Aside0 (Kd.R k24 24 wc w.heap.size (fun k_ => (w.heap.size ≤ k_) ∧ some k_ ≠ (v166 : Value).ownBlock ∧ k_ ≠ gb157 ∧ k_ ≠ gb158 ∧ k_ ≠ gb170) u14 x14_3) ∧ Aside0 (wc.heap[gb157]? = some (.cells #[.int .u64 y0, .int .u64 y1, .int .u64 y2, .int .u64 y3] 24 (0, 0))) ∧ Aside0 (wc.heap[gb158]? = some (.cells #[.int .u64 y5, .int .u64 y7, .int .u64 y9, .int .u64 yb] 24 (0, 0))) ∧ Aside0 (wc.heap[gb169]? = some (.cells #[.string ((rd_T40 l1 x15_3).f0), .int .u64 ((rd_T40 l1 x15_3).f1.f0), .int .u64 ((rd_T40 l1 x15_3).f1.f1), .int .u64 ((rd_T40 l1 x15_3).f1.f2), .int .u64 ((rd_T40 l1 x15_3).f1.f3), .int .i64 ((rd_T40 l1 x15_3).f2), .string ((rd_T40 l1 x15_3).f3), .string ((rd_T40 l1 x15_3).f4)] 40 (0, 0))) ∧ Aside0 (wc.heap[gb170]? = some (.cells #[.int .u64 0, .int .u64 0, .int .u64 0, .int .u64 0] 24 (0, 0))) ∧ Aside0 (Below w.heap.size w wc))
           case first =>
            have H := HC51.out
            clear HC51
            replace H := Option.bind_eq_some_iff.mp H
            obtain ⟨t171, A610, H⟩ := H
            replace H : (if t171 = true then (truceref17_Transfer.j3 k3 l1 l2 t165 x13_3 x14_3 x15_3 (((rd_T40 l1 x15_3).f2) == 0) y0 y1 y2 y3 ((rd_T40 l1 x15_3).f0) ((rd_T40 l1 x15_3).f1.f0) ((rd_T40 l1 x15_3).f1.f1) ((rd_T40 l1 x15_3).f1.f2) ((rd_T40 l1 x15_3).f1.f3) ((rd_T40 l1 x15_3).f2) ((rd_T40 l1 x15_3).f3) ((rd_T40 l1 x15_3).f4) 0 0 0 0) else (truceref17_Transfer.j3 k3 l1 l2 t165 x13_3 x14_3 x15_3 false y0 y1 y2 y3 ((rd_T40 l1 x15_3).f0) ((rd_T40 l1 x15_3).f1.f0) ((rd_T40 l1 x15_3).f1.f1) ((rd_T40 l1 x15_3).f1.f2) ((rd_T40 l1 x15_3).f1.f3) ((rd_T40 l1 x15_3).f2) ((rd_T40 l1 x15_3).f3) ((rd_T40 l1 x15_3).f4) 0 0 0 0)) = some (r1, r2, r3, r4, r5, r6, r7) := H
            have A61 := Aside0.mk A610
            clear A610
            by_cases c62 : t171 = true
            ·subst c62
             have H1 : (truceref17_Transfer.j3 k3 l1 l2 t165 x13_3 x14_3 x15_3 (((rd_T40 l1 x15_3).f2) == 0) y0 y1 y2 y3 ((rd_T40 l1 x15_3).f0) ((rd_T40 l1 x15_3).f1.f0) ((rd_T40 l1 x15_3).f1.f1) ((rd_T40 l1 x15_3).f1.f2) ((rd_T40 l1 x15_3).f1.f3) ((rd_T40 l1 x15_3).f2) ((rd_T40 l1 x15_3).f3) ((rd_T40 l1 x15_3).f4) 0 0 0 0) = some (r1, r2, r3, r4, r5, r6, r7) := by rw [if_pos rfl] at H; exact H
             clear H
             have H := H1
             clear H1
             have H' := Aside0.mk H
             clear H
             go_wp2_with (first | ((with_reducible refine gate_callee (f := 22) rfl ?_); refine goesL_ (some 89) rfl rfl Try.func22 (by kernel_rfl) rfl #[.slice A2 l2.length c2, .int .i64 x15_3] rfl (by (try simp only [List.map_toArray, List.map_cons, List.map_nil]); first | done | rfl | (simp only [List.length_drop, List.length_take]; rfl)) ?_; (with_reducible refine (truceref17_named.calls k3 _ _ l2 x15_3 true _ ?side1 ?side2 A61.out).mono ?_); (case side1 => exact Kd.C_below HR2.out (by repeat (first | (with_reducible first | exact HB.out | apply below_alloc | apply pw_below_drewN | apply below_drew1 | refine below_set ?_ GE157.out | refine below_set ?_ GE158.out | refine below_set ?_ GE169.out | refine below_set ?_ GE170.out) | exact HB.out))); (case side2 => exact HC2.out); rintro e w' ⟨rfl, ⟨nd, rfl⟩⟩; refine ⟨_, rfl, ?_⟩; have hnb63 := NB169_157.out; have hnc63 := NB157_169.out; have hnb64 := NB169_158.out; have hnc64 := NB158_169.out; have hnb65 := NB169_170.out; have hnc65 := NB170_169.out; have hcz66_0 : w56.cell? ⟨gb169, 0, none⟩ = some (.string ((rd_T40 l1 x15_3).f0)) := (blk_cell BK169.out 0).trans rfl; have hcz66_1 : w56.cell? ⟨gb169, 1, none⟩ = some (.int .u64 ((rd_T40 l1 x15_3).f1.f0)) := (blk_cell BK169.out 1).trans rfl; have hcz66_2 : w56.cell? ⟨gb169, 2, none⟩ = some (.int .u64 ((rd_T40 l1 x15_3).f1.f1)) := (blk_cell BK169.out 2).trans rfl; have hcz66_3 : w56.cell? ⟨gb169, 3, none⟩ = some (.int .u64 ((rd_T40 l1 x15_3).f1.f2)) := (blk_cell BK169.out 3).trans rfl; have hcz66_4 : w56.cell? ⟨gb169, 4, none⟩ = some (.int .u64 ((rd_T40 l1 x15_3).f1.f3)) := (blk_cell BK169.out 4).trans rfl; have hcz66_5 : w56.cell? ⟨gb169, 5, none⟩ = some (.int .i64 ((rd_T40 l1 x15_3).f2)) := (blk_cell BK169.out 5).trans rfl; have hcz66_6 : w56.cell? ⟨gb169, 6, none⟩ = some (.string ((rd_T40 l1 x15_3).f3)) := (blk_cell BK169.out 6).trans rfl; have hcz66_7 : w56.cell? ⟨gb169, 7, none⟩ = some (.string ((rd_T40 l1 x15_3).f4)) := (blk_cell BK169.out 7).trans rfl; have hfz66_0 := blk_frozen BK169.out 0; have hfz66_1 := blk_frozen BK169.out 1; have hfz66_2 := blk_frozen BK169.out 2; have hfz66_3 := blk_frozen BK169.out 3; have hfz66_4 := blk_frozen BK169.out 4; have hfz66_5 := blk_frozen BK169.out 5; have hfz66_6 := blk_frozen BK169.out 6; have hfz66_7 := blk_frozen BK169.out 7))
             go_meet
             case rel => exact ⟨_, ((((rd_T40 l1 x15_3).f2) == 0)), (by first | rfl | (simp; done) | (simp [*]; done)), H', ⟨by have := HK1.out; have := HK2.out; have := HK3.out; first | omega | exact Nat.le_refl _⟩, ⟨by (with_reducible repeat (first | apply Kd.V_alloc | apply Kd.V_drewN | apply Kd.V_drew)); exact Kd.V_mono (Kd.V_far (p := ⟨gb170, 3, none⟩) (Kd.V_far (p := ⟨gb170, 2, none⟩) (Kd.V_far (p := ⟨gb170, 1, none⟩) (Kd.V_far (p := ⟨gb170, 0, none⟩) (Kd.V_mono HO_1.out (fun k_ hk => (⟨hk, hk.2⟩ : _ ∧ k_ ≠ gb170))) (fun _ hk => hk.2) (.int .u64 0)) (fun _ hk => hk.2) (.int .u64 0)) (fun _ hk => hk.2) (.int .u64 0)) (fun _ hk => hk.2) (.int .u64 0)) (fun _ hk => ⟨hk.1.1.1.1, ⟨hk.1.1.1.2.1, ⟨hk.1.1.1.2.2.1, ⟨hk.1.1.1.2.2.2.1, ⟨hk.1.1.1.2.2.2.2.1, ⟨hk.1.1.1.2.2.2.2.2, ⟨hk.1.1.2, hk.1.2⟩⟩⟩⟩⟩⟩⟩)⟩, ⟨by (with_reducible repeat (first | apply Kd.R_alloc | apply Kd.R_drewN | apply Kd.R_drew)); exact Kd.R_mono (Kd.R_far (p := ⟨gb170, 3, none⟩) (Kd.R_far (p := ⟨gb170, 2, none⟩) (Kd.R_far (p := ⟨gb170, 1, none⟩) (Kd.R_far (p := ⟨gb170, 0, none⟩) (Kd.R_mono HO_12.out (fun k_ hk => (⟨hk, hk.2⟩ : _ ∧ k_ ≠ gb170))) (fun _ hk => hk.2) (.int .u64 0)) (fun _ hk => hk.2) (.int .u64 0)) (fun _ hk => hk.2) (.int .u64 0)) (fun _ hk => hk.2) (.int .u64 0)) (fun _ hk => ⟨hk.1.1.1, ⟨hk.1.1.2.1, ⟨hk.1.1.2.2.1, ⟨hk.1.1.2.2.2, hk.1.2⟩⟩⟩⟩)⟩, ⟨by (with_reducible repeat (first | apply Kd.R_alloc | apply Kd.R_drewN | apply Kd.R_drew)); exact Kd.R_mono (Kd.R_far (p := ⟨gb170, 3, none⟩) (Kd.R_far (p := ⟨gb170, 2, none⟩) (Kd.R_far (p := ⟨gb170, 1, none⟩) (Kd.R_far (p := ⟨gb170, 0, none⟩) (Kd.R_types HO_13.out BK170.out (by decide)) (fun _ hk => hk.2) (.int .u64 0)) (fun _ hk => hk.2) (.int .u64 0)) (fun _ hk => hk.2) (.int .u64 0)) (fun _ hk => hk.2) (.int .u64 0)) (fun _ hk => ⟨hk.1.1, hk.1.2⟩)⟩, ⟨by (with_reducible repeat (first | apply Kd.R_alloc | apply Kd.R_drewN | apply Kd.R_drew)); exact Kd.R_mono (Kd.R_far (p := ⟨gb170, 3, none⟩) (Kd.R_far (p := ⟨gb170, 2, none⟩) (Kd.R_far (p := ⟨gb170, 1, none⟩) (Kd.R_far (p := ⟨gb170, 0, none⟩) (Kd.R_mono HO_14.out (fun k_ hk => (⟨hk, hk.2⟩ : _ ∧ k_ ≠ gb170))) (fun _ hk => hk.2) (.int .u64 0)) (fun _ hk => hk.2) (.int .u64 0)) (fun _ hk => hk.2) (.int .u64 0)) (fun _ hk => hk.2) (.int .u64 0)) (fun _ hk => ⟨hk.1.1.1, ⟨hk.1.1.2.1, ⟨hk.1.1.2.2.1, ⟨hk.1.1.2.2.2, hk.1.2⟩⟩⟩⟩)⟩, ⟨by (with_reducible repeat (first | apply blN | apply blD | apply blA)); refine blk_far ?_ NB157_170.out _; (with_reducible repeat (first | apply blN | apply blD | apply blA)); refine blk_far ?_ NB157_170.out _; (with_reducible repeat (first | apply blN | apply blD | apply blA)); refine blk_far ?_ NB157_170.out _; (with_reducible repeat (first | apply blN | apply blD | apply blA)); refine blk_far ?_ NB157_170.out _; (with_reducible repeat (first | apply blN | apply blD | apply blA)); exact BK157.out⟩, ⟨by (with_reducible repeat (first | apply blN | apply blD | apply blA)); refine blk_far ?_ NB158_170.out _; (with_reducible repeat (first | apply blN | apply blD | apply blA)); refine blk_far ?_ NB158_170.out _; (with_reducible repeat (first | apply blN | apply blD | apply blA)); refine blk_far ?_ NB158_170.out _; (with_reducible repeat (first | apply blN | apply blD | apply blA)); refine blk_far ?_ NB158_170.out _; (with_reducible repeat (first | apply blN | apply blD | apply blA)); exact BK158.out⟩, ⟨by (with_reducible repeat (first | apply blN | apply blD | apply blA)); refine blk_far ?_ NB169_170.out _; (with_reducible repeat (first | apply blN | apply blD | apply blA)); refine blk_far ?_ NB169_170.out _; (with_reducible repeat (first | apply blN | apply blD | apply blA)); refine blk_far ?_ NB169_170.out _; (with_reducible repeat (first | apply blN | apply blD | apply blA)); refine blk_far ?_ NB169_170.out _; (with_reducible repeat (first | apply blN | apply blD | apply blA)); exact BK169.out⟩, ⟨by (with_reducible repeat (first | apply blN | apply blD | apply blA)); refine blk_put (cs := #[.int .u64 0, .int .u64 0, .int .u64 0, .int .u64 0]) ?_ 3 _ rfl; (with_reducible repeat (first | apply blN | apply blD | apply blA)); refine blk_put (cs := #[.int .u64 0, .int .u64 0, .int .u64 0, .int .u64 0]) ?_ 2 _ rfl; (with_reducible repeat (first | apply blN | apply blD | apply blA)); refine blk_put (cs := #[.int .u64 0, .int .u64 0, .int .u64 0, .int .u64 0]) ?_ 1 _ rfl; (with_reducible repeat (first | apply blN | apply blD | apply blA)); refine blk_put (cs := #[.int .u64 0, .int .u64 0, .int .u64 0, .int .u64 0]) ?_ 0 _ rfl; (with_reducible repeat (first | apply blN | apply blD | apply blA)); exact BK170.out⟩, ⟨by repeat (first | (with_reducible first | exact HB.out | apply below_alloc | apply pw_below_drewN | apply below_drew1 | refine below_set ?_ GE157.out | refine below_set ?_ GE158.out | refine below_set ?_ GE169.out | refine below_set ?_ GE170.out) | exact HB.out)⟩⟩
            ·replace c62 := Bool.eq_false_iff.mpr c62
             subst c62
             have H1 : (truceref17_Transfer.j3 k3 l1 l2 t165 x13_3 x14_3 x15_3 false y0 y1 y2 y3 ((rd_T40 l1 x15_3).f0) ((rd_T40 l1 x15_3).f1.f0) ((rd_T40 l1 x15_3).f1.f1) ((rd_T40 l1 x15_3).f1.f2) ((rd_T40 l1 x15_3).f1.f3) ((rd_T40 l1 x15_3).f2) ((rd_T40 l1 x15_3).f3) ((rd_T40 l1 x15_3).f4) 0 0 0 0) = some (r1, r2, r3, r4, r5, r6, r7) := by rw [if_neg (show ¬ (false = true) by decide)] at H; exact H
             clear H
             have H := H1
             clear H1
             have H' := Aside0.mk H
             clear H
             go_wp2_with (first | ((with_reducible refine gate_callee (f := 22) rfl ?_); refine goesL_ (some 89) rfl rfl Try.func22 (by kernel_rfl) rfl #[.slice A2 l2.length c2, .int .i64 x15_3] rfl (by (try simp only [List.map_toArray, List.map_cons, List.map_nil]); first | done | rfl | (simp only [List.length_drop, List.length_take]; rfl)) ?_; (with_reducible refine (truceref17_named.calls k3 _ _ l2 x15_3 false _ ?side1 ?side2 A61.out).mono ?_); (case side1 => exact Kd.C_below HR2.out (by repeat (first | (with_reducible first | exact HB.out | apply below_alloc | apply pw_below_drewN | apply below_drew1 | refine below_set ?_ GE157.out | refine below_set ?_ GE158.out | refine below_set ?_ GE169.out | refine below_set ?_ GE170.out) | exact HB.out))); (case side2 => exact HC2.out); rintro e w' ⟨rfl, ⟨nd, rfl⟩⟩; refine ⟨_, rfl, ?_⟩))
             go_meet
             case rel => exact ⟨_, (false), (by first | rfl | (simp; done) | (simp [*]; done)), H', ⟨by have := HK1.out; have := HK2.out; have := HK3.out; first | omega | exact Nat.le_refl _⟩, ⟨by (with_reducible repeat (first | apply Kd.V_alloc | apply Kd.V_drewN | apply Kd.V_drew)); exact Kd.V_mono (Kd.V_far (p := ⟨gb170, 3, none⟩) (Kd.V_far (p := ⟨gb170, 2, none⟩) (Kd.V_far (p := ⟨gb170, 1, none⟩) (Kd.V_far (p := ⟨gb170, 0, none⟩) (Kd.V_mono HO_1.out (fun k_ hk => (⟨hk, hk.2⟩ : _ ∧ k_ ≠ gb170))) (fun _ hk => hk.2) (.int .u64 0)) (fun _ hk => hk.2) (.int .u64 0)) (fun _ hk => hk.2) (.int .u64 0)) (fun _ hk => hk.2) (.int .u64 0)) (fun _ hk => ⟨hk.1.1.1.1, ⟨hk.1.1.1.2.1, ⟨hk.1.1.1.2.2.1, ⟨hk.1.1.1.2.2.2.1, ⟨hk.1.1.1.2.2.2.2.1, ⟨hk.1.1.1.2.2.2.2.2, ⟨hk.1.1.2, hk.1.2⟩⟩⟩⟩⟩⟩⟩)⟩, ⟨by (with_reducible repeat (first | apply Kd.R_alloc | apply Kd.R_drewN | apply Kd.R_drew)); exact Kd.R_mono (Kd.R_far (p := ⟨gb170, 3, none⟩) (Kd.R_far (p := ⟨gb170, 2, none⟩) (Kd.R_far (p := ⟨gb170, 1, none⟩) (Kd.R_far (p := ⟨gb170, 0, none⟩) (Kd.R_mono HO_12.out (fun k_ hk => (⟨hk, hk.2⟩ : _ ∧ k_ ≠ gb170))) (fun _ hk => hk.2) (.int .u64 0)) (fun _ hk => hk.2) (.int .u64 0)) (fun _ hk => hk.2) (.int .u64 0)) (fun _ hk => hk.2) (.int .u64 0)) (fun _ hk => ⟨hk.1.1.1, ⟨hk.1.1.2.1, ⟨hk.1.1.2.2.1, ⟨hk.1.1.2.2.2, hk.1.2⟩⟩⟩⟩)⟩, ⟨by (with_reducible repeat (first | apply Kd.R_alloc | apply Kd.R_drewN | apply Kd.R_drew)); exact Kd.R_mono (Kd.R_far (p := ⟨gb170, 3, none⟩) (Kd.R_far (p := ⟨gb170, 2, none⟩) (Kd.R_far (p := ⟨gb170, 1, none⟩) (Kd.R_far (p := ⟨gb170, 0, none⟩) (Kd.R_types HO_13.out BK170.out (by decide)) (fun _ hk => hk.2) (.int .u64 0)) (fun _ hk => hk.2) (.int .u64 0)) (fun _ hk => hk.2) (.int .u64 0)) (fun _ hk => hk.2) (.int .u64 0)) (fun _ hk => ⟨hk.1.1, hk.1.2⟩)⟩, ⟨by (with_reducible repeat (first | apply Kd.R_alloc | apply Kd.R_drewN | apply Kd.R_drew)); exact Kd.R_mono (Kd.R_far (p := ⟨gb170, 3, none⟩) (Kd.R_far (p := ⟨gb170, 2, none⟩) (Kd.R_far (p := ⟨gb170, 1, none⟩) (Kd.R_far (p := ⟨gb170, 0, none⟩) (Kd.R_mono HO_14.out (fun k_ hk => (⟨hk, hk.2⟩ : _ ∧ k_ ≠ gb170))) (fun _ hk => hk.2) (.int .u64 0)) (fun _ hk => hk.2) (.int .u64 0)) (fun _ hk => hk.2) (.int .u64 0)) (fun _ hk => hk.2) (.int .u64 0)) (fun _ hk => ⟨hk.1.1.1, ⟨hk.1.1.2.1, ⟨hk.1.1.2.2.1, ⟨hk.1.1.2.2.2, hk.1.2⟩⟩⟩⟩)⟩, ⟨by (with_reducible repeat (first | apply blN | apply blD | apply blA)); refine blk_far ?_ NB157_170.out _; (with_reducible repeat (first | apply blN | apply blD | apply blA)); refine blk_far ?_ NB157_170.out _; (with_reducible repeat (first | apply blN | apply blD | apply blA)); refine blk_far ?_ NB157_170.out _; (with_reducible repeat (first | apply blN | apply blD | apply blA)); refine blk_far ?_ NB157_170.out _; (with_reducible repeat (first | apply blN | apply blD | apply blA)); exact BK157.out⟩, ⟨by (with_reducible repeat (first | apply blN | apply blD | apply blA)); refine blk_far ?_ NB158_170.out _; (with_reducible repeat (first | apply blN | apply blD | apply blA)); refine blk_far ?_ NB158_170.out _; (with_reducible repeat (first | apply blN | apply blD | apply blA)); refine blk_far ?_ NB158_170.out _; (with_reducible repeat (first | apply blN | apply blD | apply blA)); refine blk_far ?_ NB158_170.out _; (with_reducible repeat (first | apply blN | apply blD | apply blA)); exact BK158.out⟩, ⟨by (with_reducible repeat (first | apply blN | apply blD | apply blA)); refine blk_far ?_ NB169_170.out _; (with_reducible repeat (first | apply blN | apply blD | apply blA)); refine blk_far ?_ NB169_170.out _; (with_reducible repeat (first | apply blN | apply blD | apply blA)); refine blk_far ?_ NB169_170.out _; (with_reducible repeat (first | apply blN | apply blD | apply blA)); refine blk_far ?_ NB169_170.out _; (with_reducible repeat (first | apply blN | apply blD | apply blA)); exact BK169.out⟩, ⟨by (with_reducible repeat (first | apply blN | apply blD | apply blA)); refine blk_put (cs := #[.int .u64 0, .int .u64 0, .int .u64 0, .int .u64 0]) ?_ 3 _ rfl; (with_reducible repeat (first | apply blN | apply blD | apply blA)); refine blk_put (cs := #[.int .u64 0, .int .u64 0, .int .u64 0, .int .u64 0]) ?_ 2 _ rfl; (with_reducible repeat (first | apply blN | apply blD | apply blA)); refine blk_put (cs := #[.int .u64 0, .int .u64 0, .int .u64 0, .int .u64 0]) ?_ 1 _ rfl; (with_reducible repeat (first | apply blN | apply blD | apply blA)); refine blk_put (cs := #[.int .u64 0, .int .u64 0, .int .u64 0, .int .u64 0]) ?_ 0 _ rfl; (with_reducible repeat (first | apply blN | apply blD | apply blA)); exact BK170.out⟩, ⟨by repeat (first | (with_reducible first | exact HB.out | apply below_alloc | apply pw_below_drewN | apply below_drew1 | refine below_set ?_ GE157.out | refine below_set ?_ GE158.out | refine below_set ?_ GE169.out | refine below_set ?_ GE170.out) | exact HB.out)⟩⟩
           case rest =>
            clear HC51
            try clear c1
            try clear p1
            try clear q1
            try clear hx1
            try clear c2
            try clear p2
            try clear c3
            try clear c4
            try clear c5
            try clear c6
            try clear c6b0
            try clear p6
            try clear c7
            try clear c13
            try clear p15
            try clear q15
            try clear hx15
            try clear p16
            try clear q16
            try clear hx16
            try clear c22
            try clear c22b0
            try clear c24
            try clear c25
            try clear c26
            try clear c26b0
            try clear c35
            try clear c35b0
            try clear c36
            try clear c36b0
            try clear c37
            try clear c37b0
            try clear c38
            try clear c38b0
            try clear c39
            try clear c39b0
            try clear c39b1
            try clear c46
            try clear c49
            try clear c49b0
            try clear c50
            try clear c50b0
            try clear c53
            try clear c54
            try clear c57
            try clear c58
            try clear c59
            try clear c62
            try clear c63
            try clear c64
            try clear p64
            try clear c65
            try clear hcz47_0
            try clear hcz47_1
            try clear hcz47_2
            try clear hcz47_3
            try clear hcz55_0
            try clear hcz55_1
            try clear hcz55_2
            try clear hcz55_3
            try clear hcz55_4
            try clear hcz55_5
            try clear hcz55_6
            try clear hcz55_7
            try clear hcz60_0
            try clear hcz60_1
            try clear hcz60_2
            try clear hcz60_3
            try clear hcz66_0
            try clear hcz66_1
            try clear hcz66_2
            try clear hcz66_3
            try clear hcz66_4
            try clear hcz66_5
            try clear hcz66_6
            try clear hcz66_7
            try clear hfz47_0
            try clear hfz47_1
            try clear hfz47_2
            try clear hfz47_3
            try clear hfz55_0
            try clear hfz55_1
            try clear hfz55_2
            try clear hfz55_3
            try clear hfz55_4
            try clear hfz55_5
            try clear hfz55_6
            try clear hfz55_7
            try clear hfz60_0
            try clear hfz60_1
            try clear hfz60_2
            try clear hfz60_3
            try clear hfz66_0
            try clear hfz66_1
            try clear hfz66_2
            try clear hfz66_3
            try clear hfz66_4
            try clear hfz66_5
            try clear hfz66_6
            try clear hfz66_7
            try clear hx159_0
            try clear hx160_0
            try clear hx161_0
            try clear hx162_0
            try clear hx163_0
            try clear hx164_0
            try clear hx164_1
            try clear hx164_2
            try clear hx164_3
            try clear hx164_4
            try clear hx164_5
            try clear hx164_6
            try clear hx164_7
            try clear hx168_0
            try clear hx168_1
            try clear hx168_2
            try clear hx168_3
            try clear hx168_4
            try clear hx168_5
            try clear hx168_6
            try clear hx168_7
            try clear p1
            try clear p15
            try clear p159
            try clear p16
            try clear p160
            try clear p161
            try clear p162
            try clear p163
            try clear p164
            try clear p168
            try clear p2
            try clear p6
            try clear q1
            try clear q15
            try clear q159
            try clear q16
            try clear q160
            try clear q161
            try clear q162
            try clear q163
            try clear q164
            try clear q168
            obtain ⟨kq, x94_50, rfl, HA, HJ50, HO_1, HO_12, HO_13, HO_14, BK157, BK158, BK169, BK170, HB⟩ := hcut
            cases kq with
            | zero => exact absurd HA.out (by simp [truceref17_Transfer.j3])
            | succ kj50 =>
             have H := HA.out
             clear HA
             simp only [truceref17_Transfer.j3] at H
             by_cases c67 : x94_50 = true
             ·subst c67
              have H1 : (if 0 ≤ x15_3 then (if x15_3 < (t165.length : Int) then ((truceref01_Sub.f ((rd_T40 l1 x15_3).f1.f0) ((rd_T40 l1 x15_3).f1.f1) ((rd_T40 l1 x15_3).f1.f2) ((rd_T40 l1 x15_3).f1.f3) ((rd_T24 t165 x15_3).f0) ((rd_T24 t165 x15_3).f1) ((rd_T24 t165 x15_3).f2) ((rd_T24 t165 x15_3).f3)).bind fun bt173 => ((truceref01_Sub.f y0 y1 y2 y3 ((rd_T24 t165 x15_3).f0) ((rd_T24 t165 x15_3).f1) ((rd_T24 t165 x15_3).f2) ((rd_T24 t165 x15_3).f3)).bind fun bt178 => (if x13_3.length < 1599289640401 then (if x14_3.length < 4398046511104 then (truceref17_Transfer.l2 kj50 l1 l2 t165 (x13_3 ++ [(⟨((rd_T40 l1 x15_3).f0), (⟨bt173.1, bt173.2.1, bt173.2.2.1, bt173.2.2.2.1⟩ : S24), ((rd_T40 l1 x15_3).f2), ((rd_T40 l1 x15_3).f3), ((rd_T40 l1 x15_3).f4)⟩ : S40)]) (x14_3 ++ [(⟨(rd_T24 t165 x15_3).f0, (rd_T24 t165 x15_3).f1, (rd_T24 t165 x15_3).f2, (rd_T24 t165 x15_3).f3⟩ : S24)]) (wrap64 (x15_3 + 1)) bt178.1 bt178.2.1 bt178.2.2.1 bt178.2.2.2.1) else (none)) else (none)))) else (none)) else (none)) = some (r1, r2, r3, r4, r5, r6, r7) := by rw [if_pos rfl] at H; exact H
              clear H
              have H := H1
              clear H1
              by_cases c68 : 0 ≤ x15_3
              ·rw [if_pos c68] at H
               have c68b0 : decide (0 ≤ x15_3) = true := decide_eq_true c68
               clear c68
               by_cases c69 : x15_3 < (t165.length : Int)
               ·rw [if_pos c69] at H
                have c69b0 : decide (x15_3 < (t165.length : Int)) = true := decide_eq_true c69
                clear c69
                replace H := Option.bind_eq_some_iff.mp H
                obtain ⟨⟨t173, t174, t175, t176, t177⟩, A700, H⟩ := H
                replace H : ((truceref01_Sub.f y0 y1 y2 y3 ((rd_T24 t165 x15_3).f0) ((rd_T24 t165 x15_3).f1) ((rd_T24 t165 x15_3).f2) ((rd_T24 t165 x15_3).f3)).bind fun bt178 => (if x13_3.length < 1599289640401 then (if x14_3.length < 4398046511104 then (truceref17_Transfer.l2 kj50 l1 l2 t165 (x13_3 ++ [(⟨((rd_T40 l1 x15_3).f0), (⟨t173, t174, t175, t176⟩ : S24), ((rd_T40 l1 x15_3).f2), ((rd_T40 l1 x15_3).f3), ((rd_T40 l1 x15_3).f4)⟩ : S40)]) (x14_3 ++ [(⟨(rd_T24 t165 x15_3).f0, (rd_T24 t165 x15_3).f1, (rd_T24 t165 x15_3).f2, (rd_T24 t165 x15_3).f3⟩ : S24)]) (wrap64 (x15_3 + 1)) bt178.1 bt178.2.1 bt178.2.2.1 bt178.2.2.2.1) else (none)) else (none))) = some (r1, r2, r3, r4, r5, r6, r7) := H
                have A70 := Aside0.mk A700
                clear A700
                replace H := Option.bind_eq_some_iff.mp H
                obtain ⟨⟨t178, t179, t180, t181, t182⟩, A710, H⟩ := H
                replace H : (if x13_3.length < 1599289640401 then (if x14_3.length < 4398046511104 then (truceref17_Transfer.l2 kj50 l1 l2 t165 (x13_3 ++ [(⟨((rd_T40 l1 x15_3).f0), (⟨t173, t174, t175, t176⟩ : S24), ((rd_T40 l1 x15_3).f2), ((rd_T40 l1 x15_3).f3), ((rd_T40 l1 x15_3).f4)⟩ : S40)]) (x14_3 ++ [(⟨(rd_T24 t165 x15_3).f0, (rd_T24 t165 x15_3).f1, (rd_T24 t165 x15_3).f2, (rd_T24 t165 x15_3).f3⟩ : S24)]) (wrap64 (x15_3 + 1)) t178 t179 t180 t181) else (none)) else (none)) = some (r1, r2, r3, r4, r5, r6, r7) := H
                have A71 := Aside0.mk A710
                clear A710
                by_cases c72 : x13_3.length < 1599289640401
                ·rw [if_pos c72] at H
                 have LMc72 := Aside0.mk c72
                 clear c72
                 obtain ⟨y183, hy183⟩ : ∃ y_ : List (S40), y_ = (x13_3 ++ [(⟨((rd_T40 l1 x15_3).f0), (⟨t173, t174, t175, t176⟩ : S24), ((rd_T40 l1 x15_3).f2), ((rd_T40 l1 x15_3).f3), ((rd_T40 l1 x15_3).f4)⟩ : S40)]) := ⟨_, rfl⟩
                 replace H : (if x14_3.length < 4398046511104 then (truceref17_Transfer.l2 kj50 l1 l2 t165 y183 (x14_3 ++ [(⟨(rd_T24 t165 x15_3).f0, (rd_T24 t165 x15_3).f1, (rd_T24 t165 x15_3).f2, (rd_T24 t165 x15_3).f3⟩ : S24)]) (wrap64 (x15_3 + 1)) t178 t179 t180 t181) else (none)) = some (r1, r2, r3, r4, r5, r6, r7) := by first | (rw [hy183]; with_reducible exact H) | (have H2_ := (Option.bind_some _ _).symm.trans H; rw [hy183]; with_reducible exact H2_) | (have H2_ := (Option.bind_some _ _).symm.trans H; with_reducible exact H2_) | with_reducible exact H | (rw [hy183]; exact H) | exact H
                 have Ny183 := Aside0.mk hy183
                 clear hy183
                 by_cases c73 : x14_3.length < 4398046511104
                 ·rw [if_pos c73] at H
                  have LMc73 := Aside0.mk c73
                  clear c73
                  obtain ⟨y186, hy186⟩ : ∃ y_ : List (S24), y_ = (x14_3 ++ [(⟨(rd_T24 t165 x15_3).f0, (rd_T24 t165 x15_3).f1, (rd_T24 t165 x15_3).f2, (rd_T24 t165 x15_3).f3⟩ : S24)]) := ⟨_, rfl⟩
                  replace H : (truceref17_Transfer.l2 kj50 l1 l2 t165 y183 y186 (wrap64 (x15_3 + 1)) t178 t179 t180 t181) = some (r1, r2, r3, r4, r5, r6, r7) := by first | (rw [hy186]; with_reducible exact H) | (have H2_ := (Option.bind_some _ _).symm.trans H; rw [hy186]; with_reducible exact H2_) | (have H2_ := (Option.bind_some _ _).symm.trans H; with_reducible exact H2_) | with_reducible exact H | (rw [hy186]; exact H) | exact H
                  have Ny186 := Aside0.mk hy186
                  clear hy186
                  have H' := Aside0.mk H
                  clear H
                  obtain ⟨Ao74, co74, eo74⟩ := Kd.R_slice HO_12.out
                  subst eo74
                  have p172 : 0 ≤ (x15_3 : Int) := of_decide_eq_true (by first | (with_reducible assumption) | assumption)
                  have q172 : x15_3 < (t165.length : Int) := of_decide_eq_true (by first | (with_reducible assumption) | assumption)
                  obtain ⟨ad172, e172, hx172_0, hx172_1, hx172_2, hx172_3⟩ := at_T24 (Kd.R_reads' HO_12.out).2.2 x15_3 p172 q172
                  cases e172
                  replace p172 := eq_true p172
                  replace q172 := eq_true q172
                  have hnb75 := NB170_157.out
                  have hnc75 := NB157_170.out
                  have hnb76 := NB170_158.out
                  have hnc76 := NB158_170.out
                  have hnb77 := NB170_169.out
                  have hnc77 := NB169_170.out
                  have hcz78_0 : wc.cell? ⟨gb170, 0, none⟩ = some (.int .u64 0) := (blk_cell BK170.out 0).trans rfl
                  have hcz78_1 : wc.cell? ⟨gb170, 1, none⟩ = some (.int .u64 0) := (blk_cell BK170.out 1).trans rfl
                  have hcz78_2 : wc.cell? ⟨gb170, 2, none⟩ = some (.int .u64 0) := (blk_cell BK170.out 2).trans rfl
                  have hcz78_3 : wc.cell? ⟨gb170, 3, none⟩ = some (.int .u64 0) := (blk_cell BK170.out 3).trans rfl
                  have hfz78_0 := blk_frozen BK170.out 0
                  have hfz78_1 := blk_frozen BK170.out 1
                  have hfz78_2 := blk_frozen BK170.out 2
                  have hfz78_3 := blk_frozen BK170.out 3
                  have hnb79 := NB169_157.out
                  have hnc79 := NB157_169.out
                  have hnb80 := NB169_158.out
                  have hnc80 := NB158_169.out
                  have hcz81_0 : wc.cell? ⟨gb169, 0, none⟩ = some (.string ((rd_T40 l1 x15_3).f0)) := (blk_cell BK169.out 0).trans rfl
                  have hcz81_1 : wc.cell? ⟨gb169, 1, none⟩ = some (.int .u64 ((rd_T40 l1 x15_3).f1.f0)) := (blk_cell BK169.out 1).trans rfl
                  have hcz81_2 : wc.cell? ⟨gb169, 2, none⟩ = some (.int .u64 ((rd_T40 l1 x15_3).f1.f1)) := (blk_cell BK169.out 2).trans rfl
                  have hcz81_3 : wc.cell? ⟨gb169, 3, none⟩ = some (.int .u64 ((rd_T40 l1 x15_3).f1.f2)) := (blk_cell BK169.out 3).trans rfl
                  have hcz81_4 : wc.cell? ⟨gb169, 4, none⟩ = some (.int .u64 ((rd_T40 l1 x15_3).f1.f3)) := (blk_cell BK169.out 4).trans rfl
                  have hcz81_5 : wc.cell? ⟨gb169, 5, none⟩ = some (.int .i64 ((rd_T40 l1 x15_3).f2)) := (blk_cell BK169.out 5).trans rfl
                  have hcz81_6 : wc.cell? ⟨gb169, 6, none⟩ = some (.string ((rd_T40 l1 x15_3).f3)) := (blk_cell BK169.out 6).trans rfl
                  have hcz81_7 : wc.cell? ⟨gb169, 7, none⟩ = some (.string ((rd_T40 l1 x15_3).f4)) := (blk_cell BK169.out 7).trans rfl
                  have hfz81_0 := blk_frozen BK169.out 0
                  have hfz81_1 := blk_frozen BK169.out 1
                  have hfz81_2 := blk_frozen BK169.out 2
                  have hfz81_3 := blk_frozen BK169.out 3
                  have hfz81_4 := blk_frozen BK169.out 4
                  have hfz81_5 := blk_frozen BK169.out 5
                  have hfz81_6 := blk_frozen BK169.out 6
                  have hfz81_7 := blk_frozen BK169.out 7
                  go_wp2_with (first | ((with_reducible refine gate_callee (f := 23) rfl ?_); refine goesL_ (some 103) rfl rfl Try.func23 (by kernel_rfl) rfl #[.agg #[.int .u64 ((rd_T40 l1 x15_3).f1.f0), .int .u64 ((rd_T40 l1 x15_3).f1.f1), .int .u64 ((rd_T40 l1 x15_3).f1.f2), .int .u64 ((rd_T40 l1 x15_3).f1.f3)], .agg #[.int .u64 ((rd_T24 t165 x15_3).f0), .int .u64 ((rd_T24 t165 x15_3).f1), .int .u64 ((rd_T24 t165 x15_3).f2), .int .u64 ((rd_T24 t165 x15_3).f3)]] rfl (by (try simp only [List.map_toArray, List.map_cons, List.map_nil]); first | done | rfl | (simp only [List.length_drop, List.length_take]; rfl)) ?_; (with_reducible refine (truceref01_Sub.calls ((rd_T40 l1 x15_3).f1.f0) ((rd_T40 l1 x15_3).f1.f1) ((rd_T40 l1 x15_3).f1.f2) ((rd_T40 l1 x15_3).f1.f3) ((rd_T24 t165 x15_3).f0) ((rd_T24 t165 x15_3).f1) ((rd_T24 t165 x15_3).f2) ((rd_T24 t165 x15_3).f3) t173 t174 t175 t176 t177 _ A70.out).mono ?_); rintro e w82 ⟨rfl, hb⟩; refine ⟨_, rfl, ?_⟩; have n0_ := Aside0.mk (Kd.V_below (by (with_reducible repeat (first | apply Kd.V_alloc | apply Kd.V_drewN | apply Kd.V_drew)); exact (Kd.V_mono (Kd.V_far (p := ⟨gb170, 3, none⟩) (Kd.V_far (p := ⟨gb170, 2, none⟩) (Kd.V_far (p := ⟨gb170, 1, none⟩) (Kd.V_far (p := ⟨gb170, 0, none⟩) (Kd.V_mono HO_1.out (fun k_ hk => (⟨hk, hk.2.2.2.2.2.2.2⟩ : _ ∧ k_ ≠ gb170))) (fun _ hk => hk.2) (.int .u64 ((rd_T24 t165 x15_3).f0))) (fun _ hk => hk.2) (.int .u64 ((rd_T24 t165 x15_3).f1))) (fun _ hk => hk.2) (.int .u64 ((rd_T24 t165 x15_3).f2))) (fun _ hk => hk.2) (.int .u64 ((rd_T24 t165 x15_3).f3))) (fun _ h_ => h_.1))) hb); have n1_ := Aside0.mk (Kd.R_below (by (with_reducible repeat (first | apply Kd.R_alloc | apply Kd.R_drewN | apply Kd.R_drew)); exact (Kd.R_mono (Kd.R_far (p := ⟨gb170, 3, none⟩) (Kd.R_far (p := ⟨gb170, 2, none⟩) (Kd.R_far (p := ⟨gb170, 1, none⟩) (Kd.R_far (p := ⟨gb170, 0, none⟩) (Kd.R_mono HO_12.out (fun k_ hk => (⟨hk, hk.2.2.2.2⟩ : _ ∧ k_ ≠ gb170))) (fun _ hk => hk.2) (.int .u64 ((rd_T24 t165 x15_3).f0))) (fun _ hk => hk.2) (.int .u64 ((rd_T24 t165 x15_3).f1))) (fun _ hk => hk.2) (.int .u64 ((rd_T24 t165 x15_3).f2))) (fun _ hk => hk.2) (.int .u64 ((rd_T24 t165 x15_3).f3))) (fun _ h_ => h_.1))) hb); have n2_ := Aside0.mk (Kd.R_below (by (with_reducible repeat (first | apply Kd.R_alloc | apply Kd.R_drewN | apply Kd.R_drew)); exact (Kd.R_mono (Kd.R_far (p := ⟨gb170, 3, none⟩) (Kd.R_far (p := ⟨gb170, 2, none⟩) (Kd.R_far (p := ⟨gb170, 1, none⟩) (Kd.R_far (p := ⟨gb170, 0, none⟩) (Kd.R_types HO_13.out BK170.out (by decide)) (fun _ hk => hk.2) (.int .u64 ((rd_T24 t165 x15_3).f0))) (fun _ hk => hk.2) (.int .u64 ((rd_T24 t165 x15_3).f1))) (fun _ hk => hk.2) (.int .u64 ((rd_T24 t165 x15_3).f2))) (fun _ hk => hk.2) (.int .u64 ((rd_T24 t165 x15_3).f3))) (fun _ h_ => h_.1))) hb); have n3_ := Aside0.mk (Kd.R_below (by (with_reducible repeat (first | apply Kd.R_alloc | apply Kd.R_drewN | apply Kd.R_drew)); exact (Kd.R_mono (Kd.R_far (p := ⟨gb170, 3, none⟩) (Kd.R_far (p := ⟨gb170, 2, none⟩) (Kd.R_far (p := ⟨gb170, 1, none⟩) (Kd.R_far (p := ⟨gb170, 0, none⟩) (Kd.R_mono HO_14.out (fun k_ hk => (⟨hk, hk.2.2.2.2⟩ : _ ∧ k_ ≠ gb170))) (fun _ hk => hk.2) (.int .u64 ((rd_T24 t165 x15_3).f0))) (fun _ hk => hk.2) (.int .u64 ((rd_T24 t165 x15_3).f1))) (fun _ hk => hk.2) (.int .u64 ((rd_T24 t165 x15_3).f2))) (fun _ hk => hk.2) (.int .u64 ((rd_T24 t165 x15_3).f3))) (fun _ h_ => h_.1))) hb); have n4_ := Aside0.mk (blk_below (g := gb157) (o := .cells #[.int .u64 y0, .int .u64 y1, .int .u64 y2, .int .u64 y3] 24 (0, 0)) (by (with_reducible repeat (first | apply blN | apply blD | apply blA)); refine blk_far ?_ NB157_170.out _; (with_reducible repeat (first | apply blN | apply blD | apply blA)); refine blk_far ?_ NB157_170.out _; (with_reducible repeat (first | apply blN | apply blD | apply blA)); refine blk_far ?_ NB157_170.out _; (with_reducible repeat (first | apply blN | apply blD | apply blA)); refine blk_far ?_ NB157_170.out _; (with_reducible repeat (first | apply blN | apply blD | apply blA)); exact BK157.out) hb); have n5_ := Aside0.mk (blk_below (g := gb158) (o := .cells #[.int .u64 y5, .int .u64 y7, .int .u64 y9, .int .u64 yb] 24 (0, 0)) (by (with_reducible repeat (first | apply blN | apply blD | apply blA)); refine blk_far ?_ NB158_170.out _; (with_reducible repeat (first | apply blN | apply blD | apply blA)); refine blk_far ?_ NB158_170.out _; (with_reducible repeat (first | apply blN | apply blD | apply blA)); refine blk_far ?_ NB158_170.out _; (with_reducible repeat (first | apply blN | apply blD | apply blA)); refine blk_far ?_ NB158_170.out _; (with_reducible repeat (first | apply blN | apply blD | apply blA)); exact BK158.out) hb); have n6_ := Aside0.mk (blk_below (g := gb169) (o := .cells #[.string ((rd_T40 l1 x15_3).f0), .int .u64 ((rd_T40 l1 x15_3).f1.f0), .int .u64 ((rd_T40 l1 x15_3).f1.f1), .int .u64 ((rd_T40 l1 x15_3).f1.f2), .int .u64 ((rd_T40 l1 x15_3).f1.f3), .int .i64 ((rd_T40 l1 x15_3).f2), .string ((rd_T40 l1 x15_3).f3), .string ((rd_T40 l1 x15_3).f4)] 40 (0, 0)) (by (with_reducible repeat (first | apply blN | apply blD | apply blA)); refine blk_far ?_ NB169_170.out _; (with_reducible repeat (first | apply blN | apply blD | apply blA)); refine blk_far ?_ NB169_170.out _; (with_reducible repeat (first | apply blN | apply blD | apply blA)); refine blk_far ?_ NB169_170.out _; (with_reducible repeat (first | apply blN | apply blD | apply blA)); refine blk_far ?_ NB169_170.out _; (with_reducible repeat (first | apply blN | apply blD | apply blA)); exact BK169.out) hb); have n7_ := Aside0.mk (blk_below (g := gb170) (o := .cells #[.int .u64 ((rd_T24 t165 x15_3).f0), .int .u64 ((rd_T24 t165 x15_3).f1), .int .u64 ((rd_T24 t165 x15_3).f2), .int .u64 ((rd_T24 t165 x15_3).f3)] 24 (0, 0)) (by (with_reducible repeat (first | apply blN | apply blD | apply blA)); refine blk_put (cs := #[.int .u64 ((rd_T24 t165 x15_3).f0), .int .u64 ((rd_T24 t165 x15_3).f1), .int .u64 ((rd_T24 t165 x15_3).f2), .int .u64 0]) ?_ 3 _ rfl; (with_reducible repeat (first | apply blN | apply blD | apply blA)); refine blk_put (cs := #[.int .u64 ((rd_T24 t165 x15_3).f0), .int .u64 ((rd_T24 t165 x15_3).f1), .int .u64 0, .int .u64 0]) ?_ 2 _ rfl; (with_reducible repeat (first | apply blN | apply blD | apply blA)); refine blk_put (cs := #[.int .u64 ((rd_T24 t165 x15_3).f0), .int .u64 0, .int .u64 0, .int .u64 0]) ?_ 1 _ rfl; (with_reducible repeat (first | apply blN | apply blD | apply blA)); refine blk_put (cs := #[.int .u64 0, .int .u64 0, .int .u64 0, .int .u64 0]) ?_ 0 _ rfl; (with_reducible repeat (first | apply blN | apply blD | apply blA)); exact BK170.out) hb); have n8_ := Aside0.mk (below_step (by repeat (first | (with_reducible first | exact HB.out | apply below_alloc | apply pw_below_drewN | apply below_drew1 | refine below_set ?_ GE157.out | refine below_set ?_ GE158.out | refine below_set ?_ GE169.out | refine below_set ?_ GE170.out) | exact HB.out)) hb); clear HO_1; clear HO_12; clear HO_13; clear HO_14; clear BK157; clear BK158; clear BK169; clear BK170; clear HB; have HO_1 := n0_; have HO_12 := n1_; have HO_13 := n2_; have HO_14 := n3_; have BK157 := n4_; have BK158 := n5_; have BK169 := n6_; have BK170 := n7_; have HB := n8_; clear n0_ n1_ n2_ n3_ n4_ n5_ n6_ n7_ n8_; (try clear hb); (try clear hb2); (try clear hk); (try clear hi); have hcz83_0 : w82.cell? ⟨gb169, 0, none⟩ = some (.string ((rd_T40 l1 x15_3).f0)) := (blk_cell BK169.out 0).trans rfl; have hcz83_1 : w82.cell? ⟨gb169, 1, none⟩ = some (.int .u64 ((rd_T40 l1 x15_3).f1.f0)) := (blk_cell BK169.out 1).trans rfl; have hcz83_2 : w82.cell? ⟨gb169, 2, none⟩ = some (.int .u64 ((rd_T40 l1 x15_3).f1.f1)) := (blk_cell BK169.out 2).trans rfl; have hcz83_3 : w82.cell? ⟨gb169, 3, none⟩ = some (.int .u64 ((rd_T40 l1 x15_3).f1.f2)) := (blk_cell BK169.out 3).trans rfl; have hcz83_4 : w82.cell? ⟨gb169, 4, none⟩ = some (.int .u64 ((rd_T40 l1 x15_3).f1.f3)) := (blk_cell BK169.out 4).trans rfl; have hcz83_5 : w82.cell? ⟨gb169, 5, none⟩ = some (.int .i64 ((rd_T40 l1 x15_3).f2)) := (blk_cell BK169.out 5).trans rfl; have hcz83_6 : w82.cell? ⟨gb169, 6, none⟩ = some (.string ((rd_T40 l1 x15_3).f3)) := (blk_cell BK169.out 6).trans rfl; have hcz83_7 : w82.cell? ⟨gb169, 7, none⟩ = some (.string ((rd_T40 l1 x15_3).f4)) := (blk_cell BK169.out 7).trans rfl; have hfz83_0 := blk_frozen BK169.out 0; have hfz83_1 := blk_frozen BK169.out 1; have hfz83_2 := blk_frozen BK169.out 2; have hfz83_3 := blk_frozen BK169.out 3; have hfz83_4 := blk_frozen BK169.out 4; have hfz83_5 := blk_frozen BK169.out 5; have hfz83_6 := blk_frozen BK169.out 6; have hfz83_7 := blk_frozen BK169.out 7; have hnb84 := NB157_158.out; have hnc84 := NB158_157.out; have hcz85_0 : w82.cell? ⟨gb157, 0, none⟩ = some (.int .u64 y0) := (blk_cell BK157.out 0).trans rfl; have hcz85_1 : w82.cell? ⟨gb157, 1, none⟩ = some (.int .u64 y1) := (blk_cell BK157.out 1).trans rfl; have hcz85_2 : w82.cell? ⟨gb157, 2, none⟩ = some (.int .u64 y2) := (blk_cell BK157.out 2).trans rfl; have hcz85_3 : w82.cell? ⟨gb157, 3, none⟩ = some (.int .u64 y3) := (blk_cell BK157.out 3).trans rfl; have hfz85_0 := blk_frozen BK157.out 0; have hfz85_1 := blk_frozen BK157.out 1; have hfz85_2 := blk_frozen BK157.out 2; have hfz85_3 := blk_frozen BK157.out 3; have hcz86_0 : w82.cell? ⟨gb170, 0, none⟩ = some (.int .u64 ((rd_T24 t165 x15_3).f0)) := (blk_cell BK170.out 0).trans rfl; have hcz86_1 : w82.cell? ⟨gb170, 1, none⟩ = some (.int .u64 ((rd_T24 t165 x15_3).f1)) := (blk_cell BK170.out 1).trans rfl; have hcz86_2 : w82.cell? ⟨gb170, 2, none⟩ = some (.int .u64 ((rd_T24 t165 x15_3).f2)) := (blk_cell BK170.out 2).trans rfl; have hcz86_3 : w82.cell? ⟨gb170, 3, none⟩ = some (.int .u64 ((rd_T24 t165 x15_3).f3)) := (blk_cell BK170.out 3).trans rfl; have hfz86_0 := blk_frozen BK170.out 0; have hfz86_1 := blk_frozen BK170.out 1; have hfz86_2 := blk_frozen BK170.out 2; have hfz86_3 := blk_frozen BK170.out 3) | ((with_reducible refine gate_callee (f := 23) rfl ?_); refine goesL_ (some 110) rfl rfl Try.func23 (by kernel_rfl) rfl #[.agg #[.int .u64 y0, .int .u64 y1, .int .u64 y2, .int .u64 y3], .agg #[.int .u64 ((rd_T24 t165 x15_3).f0), .int .u64 ((rd_T24 t165 x15_3).f1), .int .u64 ((rd_T24 t165 x15_3).f2), .int .u64 ((rd_T24 t165 x15_3).f3)]] rfl (by (try simp only [List.map_toArray, List.map_cons, List.map_nil]); first | done | rfl | (simp only [List.length_drop, List.length_take]; rfl)) ?_; (with_reducible refine (truceref01_Sub.calls y0 y1 y2 y3 ((rd_T24 t165 x15_3).f0) ((rd_T24 t165 x15_3).f1) ((rd_T24 t165 x15_3).f2) ((rd_T24 t165 x15_3).f3) t178 t179 t180 t181 t182 _ A71.out).mono ?_); rintro e w87 ⟨rfl, hb⟩; refine ⟨_, rfl, ?_⟩; have n0_ := Aside0.mk (Kd.V_below (by (with_reducible repeat (first | apply Kd.V_alloc | apply Kd.V_drewN | apply Kd.V_drew)); exact (Kd.V_mono (Kd.V_far (p := ⟨gb169, 4, none⟩) (Kd.V_far (p := ⟨gb169, 3, none⟩) (Kd.V_far (p := ⟨gb169, 2, none⟩) (Kd.V_far (p := ⟨gb169, 1, none⟩) (Kd.V_mono HO_1.out (fun k_ hk => (⟨hk, hk.2.2.2.2.2.2.1⟩ : _ ∧ k_ ≠ gb169))) (fun _ hk => hk.2) (.int .u64 t173)) (fun _ hk => hk.2) (.int .u64 t174)) (fun _ hk => hk.2) (.int .u64 t175)) (fun _ hk => hk.2) (.int .u64 t176)) (fun _ h_ => h_.1))) hb); have n1_ := Aside0.mk (Kd.R_below (by (with_reducible repeat (first | apply Kd.R_alloc | apply Kd.R_drewN | apply Kd.R_drew)); exact (Kd.R_mono (Kd.R_far (p := ⟨gb169, 4, none⟩) (Kd.R_far (p := ⟨gb169, 3, none⟩) (Kd.R_far (p := ⟨gb169, 2, none⟩) (Kd.R_far (p := ⟨gb169, 1, none⟩) (Kd.R_types HO_12.out BK169.out (by decide)) (fun _ hk => hk.2) (.int .u64 t173)) (fun _ hk => hk.2) (.int .u64 t174)) (fun _ hk => hk.2) (.int .u64 t175)) (fun _ hk => hk.2) (.int .u64 t176)) (fun _ h_ => h_.1))) hb); have n2_ := Aside0.mk (Kd.R_below (by (with_reducible repeat (first | apply Kd.R_alloc | apply Kd.R_drewN | apply Kd.R_drew)); exact (Kd.R_mono (Kd.R_far (p := ⟨gb169, 4, none⟩) (Kd.R_far (p := ⟨gb169, 3, none⟩) (Kd.R_far (p := ⟨gb169, 2, none⟩) (Kd.R_far (p := ⟨gb169, 1, none⟩) (Kd.R_mono HO_13.out (fun k_ hk => (⟨hk, hk.2⟩ : _ ∧ k_ ≠ gb169))) (fun _ hk => hk.2) (.int .u64 t173)) (fun _ hk => hk.2) (.int .u64 t174)) (fun _ hk => hk.2) (.int .u64 t175)) (fun _ hk => hk.2) (.int .u64 t176)) (fun _ h_ => h_.1))) hb); have n3_ := Aside0.mk (Kd.R_below (by (with_reducible repeat (first | apply Kd.R_alloc | apply Kd.R_drewN | apply Kd.R_drew)); exact (Kd.R_mono (Kd.R_far (p := ⟨gb169, 4, none⟩) (Kd.R_far (p := ⟨gb169, 3, none⟩) (Kd.R_far (p := ⟨gb169, 2, none⟩) (Kd.R_far (p := ⟨gb169, 1, none⟩) (Kd.R_types HO_14.out BK169.out (by decide)) (fun _ hk => hk.2) (.int .u64 t173)) (fun _ hk => hk.2) (.int .u64 t174)) (fun _ hk => hk.2) (.int .u64 t175)) (fun _ hk => hk.2) (.int .u64 t176)) (fun _ h_ => h_.1))) hb); have n4_ := Aside0.mk (blk_below (g := gb157) (o := .cells #[.int .u64 y0, .int .u64 y1, .int .u64 y2, .int .u64 y3] 24 (0, 0)) (by (with_reducible repeat (first | apply blN | apply blD | apply blA)); refine blk_far ?_ NB157_169.out _; (with_reducible repeat (first | apply blN | apply blD | apply blA)); refine blk_far ?_ NB157_169.out _; (with_reducible repeat (first | apply blN | apply blD | apply blA)); refine blk_far ?_ NB157_169.out _; (with_reducible repeat (first | apply blN | apply blD | apply blA)); refine blk_far ?_ NB157_169.out _; (with_reducible repeat (first | apply blN | apply blD | apply blA)); exact BK157.out) hb); have n5_ := Aside0.mk (blk_below (g := gb158) (o := .cells #[.int .u64 y5, .int .u64 y7, .int .u64 y9, .int .u64 yb] 24 (0, 0)) (by (with_reducible repeat (first | apply blN | apply blD | apply blA)); refine blk_far ?_ NB158_169.out _; (with_reducible repeat (first | apply blN | apply blD | apply blA)); refine blk_far ?_ NB158_169.out _; (with_reducible repeat (first | apply blN | apply blD | apply blA)); refine blk_far ?_ NB158_169.out _; (with_reducible repeat (first | apply blN | apply blD | apply blA)); refine blk_far ?_ NB158_169.out _; (with_reducible repeat (first | apply blN | apply blD | apply blA)); exact BK158.out) hb); have n6_ := Aside0.mk (blk_below (g := gb169) (o := .cells #[.string ((rd_T40 l1 x15_3).f0), .int .u64 t173, .int .u64 t174, .int .u64 t175, .int .u64 t176, .int .i64 ((rd_T40 l1 x15_3).f2), .string ((rd_T40 l1 x15_3).f3), .string ((rd_T40 l1 x15_3).f4)] 40 (0, 0)) (by (with_reducible repeat (first | apply blN | apply blD | apply blA)); refine blk_put (cs := #[.string ((rd_T40 l1 x15_3).f0), .int .u64 t173, .int .u64 t174, .int .u64 t175, .int .u64 ((rd_T40 l1 x15_3).f1.f3), .int .i64 ((rd_T40 l1 x15_3).f2), .string ((rd_T40 l1 x15_3).f3), .string ((rd_T40 l1 x15_3).f4)]) ?_ 4 _ rfl; (with_reducible repeat (first | apply blN | apply blD | apply blA)); refine blk_put (cs := #[.string ((rd_T40 l1 x15_3).f0), .int .u64 t173, .int .u64 t174, .int .u64 ((rd_T40 l1 x15_3).f1.f2), .int .u64 ((rd_T40 l1 x15_3).f1.f3), .int .i64 ((rd_T40 l1 x15_3).f2), .string ((rd_T40 l1 x15_3).f3), .string ((rd_T40 l1 x15_3).f4)]) ?_ 3 _ rfl; (with_reducible repeat (first | apply blN | apply blD | apply blA)); refine blk_put (cs := #[.string ((rd_T40 l1 x15_3).f0), .int .u64 t173, .int .u64 ((rd_T40 l1 x15_3).f1.f1), .int .u64 ((rd_T40 l1 x15_3).f1.f2), .int .u64 ((rd_T40 l1 x15_3).f1.f3), .int .i64 ((rd_T40 l1 x15_3).f2), .string ((rd_T40 l1 x15_3).f3), .string ((rd_T40 l1 x15_3).f4)]) ?_ 2 _ rfl; (with_reducible repeat (first | apply blN | apply blD | apply blA)); refine blk_put (cs := #[.string ((rd_T40 l1 x15_3).f0), .int .u64 ((rd_T40 l1 x15_3).f1.f0), .int .u64 ((rd_T40 l1 x15_3).f1.f1), .int .u64 ((rd_T40 l1 x15_3).f1.f2), .int .u64 ((rd_T40 l1 x15_3).f1.f3), .int .i64 ((rd_T40 l1 x15_3).f2), .string ((rd_T40 l1 x15_3).f3), .string ((rd_T40 l1 x15_3).f4)]) ?_ 1 _ rfl; (with_reducible repeat (first | apply blN | apply blD | apply blA)); exact BK169.out) hb); have n7_ := Aside0.mk (blk_below (g := gb170) (o := .cells #[.int .u64 ((rd_T24 t165 x15_3).f0), .int .u64 ((rd_T24 t165 x15_3).f1), .int .u64 ((rd_T24 t165 x15_3).f2), .int .u64 ((rd_T24 t165 x15_3).f3)] 24 (0, 0)) (by (with_reducible repeat (first | apply blN | apply blD | apply blA)); refine blk_far ?_ NB170_169.out _; (with_reducible repeat (first | apply blN | apply blD | apply blA)); refine blk_far ?_ NB170_169.out _; (with_reducible repeat (first | apply blN | apply blD | apply blA)); refine blk_far ?_ NB170_169.out _; (with_reducible repeat (first | apply blN | apply blD | apply blA)); refine blk_far ?_ NB170_169.out _; (with_reducible repeat (first | apply blN | apply blD | apply blA)); exact BK170.out) hb); have n8_ := Aside0.mk (below_step (by repeat (first | (with_reducible first | exact HB.out | apply below_alloc | apply pw_below_drewN | apply below_drew1 | refine below_set ?_ GE157.out | refine below_set ?_ GE158.out | refine below_set ?_ GE169.out | refine below_set ?_ GE170.out) | exact HB.out)) hb); clear HO_1; clear HO_12; clear HO_13; clear HO_14; clear BK157; clear BK158; clear BK169; clear BK170; clear HB; have HO_1 := n0_; have HO_12 := n1_; have HO_13 := n2_; have HO_14 := n3_; have BK157 := n4_; have BK158 := n5_; have BK169 := n6_; have BK170 := n7_; have HB := n8_; clear n0_ n1_ n2_ n3_ n4_ n5_ n6_ n7_ n8_; (try clear hb); (try clear hb2); (try clear hk); (try clear hi); have hcz88_0 : w87.cell? ⟨gb157, 0, none⟩ = some (.int .u64 y0) := (blk_cell BK157.out 0).trans rfl; have hcz88_1 : w87.cell? ⟨gb157, 1, none⟩ = some (.int .u64 y1) := (blk_cell BK157.out 1).trans rfl; have hcz88_2 : w87.cell? ⟨gb157, 2, none⟩ = some (.int .u64 y2) := (blk_cell BK157.out 2).trans rfl; have hcz88_3 : w87.cell? ⟨gb157, 3, none⟩ = some (.int .u64 y3) := (blk_cell BK157.out 3).trans rfl; have hfz88_0 := blk_frozen BK157.out 0; have hfz88_1 := blk_frozen BK157.out 1; have hfz88_2 := blk_frozen BK157.out 2; have hfz88_3 := blk_frozen BK157.out 3; have hcz89_0 : w87.cell? ⟨gb169, 0, none⟩ = some (.string ((rd_T40 l1 x15_3).f0)) := (blk_cell BK169.out 0).trans rfl; have hcz89_1 : w87.cell? ⟨gb169, 1, none⟩ = some (.int .u64 t173) := (blk_cell BK169.out 1).trans rfl; have hcz89_2 : w87.cell? ⟨gb169, 2, none⟩ = some (.int .u64 t174) := (blk_cell BK169.out 2).trans rfl; have hcz89_3 : w87.cell? ⟨gb169, 3, none⟩ = some (.int .u64 t175) := (blk_cell BK169.out 3).trans rfl; have hcz89_4 : w87.cell? ⟨gb169, 4, none⟩ = some (.int .u64 t176) := (blk_cell BK169.out 4).trans rfl; have hcz89_5 : w87.cell? ⟨gb169, 5, none⟩ = some (.int .i64 ((rd_T40 l1 x15_3).f2)) := (blk_cell BK169.out 5).trans rfl; have hcz89_6 : w87.cell? ⟨gb169, 6, none⟩ = some (.string ((rd_T40 l1 x15_3).f3)) := (blk_cell BK169.out 6).trans rfl; have hcz89_7 : w87.cell? ⟨gb169, 7, none⟩ = some (.string ((rd_T40 l1 x15_3).f4)) := (blk_cell BK169.out 7).trans rfl; have hfz89_0 := blk_frozen BK169.out 0; have hfz89_1 := blk_frozen BK169.out 1; have hfz89_2 := blk_frozen BK169.out 2; have hfz89_3 := blk_frozen BK169.out 3; have hfz89_4 := blk_frozen BK169.out 4; have hfz89_5 := blk_frozen BK169.out 5; have hfz89_6 := blk_frozen BK169.out 6; have hfz89_7 := blk_frozen BK169.out 7) | ((with_reducible refine gate_builtin (b := .append) (xs := #[.tmp 113, .tmp 115]) rfl ?_); (try (refine gate_guard (by rfl) ?_; dsimp only)); at_builtin; refine Kd.R_append k40 (w0 := w) w.heap.size rfl (.tmp 113) (.tmp 115) 25 40 (.agg #[(.string ⟨#[]⟩), (.int .u64 0), (.int .u64 0), (.int .u64 0), (.int .u64 0), (.int .i64 0), (.string ⟨#[]⟩), (.string ⟨#[]⟩)]) 88 rfl Try.underlying25 info40 rfl (by decide) (by omega) u13 x13_3 (⟨((rd_T40 l1 x15_3).f0), (⟨t173, t174, t175, t176⟩ : S24), ((rd_T40 l1 x15_3).f2), ((rd_T40 l1 x15_3).f3), ((rd_T40 l1 x15_3).f4)⟩ : S40) [.string ((rd_T40 l1 x15_3).f0), .int .u64 t173, .int .u64 t174, .int .u64 t175, .int .u64 t176, .int .i64 ((rd_T40 l1 x15_3).f2), .string ((rd_T40 l1 x15_3).f3), .string ((rd_T40 l1 x15_3).f4)] (fun k_ => (w.heap.size ≤ k_) ∧ k_ ≠ gb169) (fun _ => False) rfl (by first | (go_simp; done) | (go_simp; rfl)) ?aP (fun _ hk => hk.elim) ?aF ?aO ?aB ?aS ?aL ?_; (case aP => exact k40_mkM _ _ _ (⟨((rd_T40 l1 x15_3).f0), (⟨t173, t174, t175, t176⟩ : S24), ((rd_T40 l1 x15_3).f2), ((rd_T40 l1 x15_3).f3), ((rd_T40 l1 x15_3).f4)⟩ : S40)); (case aB => exact (by repeat (first | (with_reducible first | exact HB.out | apply below_alloc | apply pw_below_drewN | apply below_drew1 | refine below_set ?_ GE157.out | refine below_set ?_ GE158.out | refine below_set ?_ GE169.out | refine below_set ?_ GE170.out) | exact HB.out))); (case aF => exact (fun k_ hk => ⟨(Nat.le_trans (below_size (by repeat (first | (with_reducible first | exact HB.out | apply below_alloc | apply pw_below_drewN | apply below_drew1 | refine below_set ?_ GE157.out | refine below_set ?_ GE158.out | refine below_set ?_ GE169.out | refine below_set ?_ GE170.out) | exact HB.out))) hk), Kd.freshB (g := gb169) (o := .cells #[.string ((rd_T40 l1 x15_3).f0), .int .u64 t173, .int .u64 t174, .int .u64 t175, .int .u64 t176, .int .i64 ((rd_T40 l1 x15_3).f2), .string ((rd_T40 l1 x15_3).f3), .string ((rd_T40 l1 x15_3).f4)] 40 (0, 0)) (by (with_reducible repeat (first | apply blN | apply blD | apply blA)); refine blk_far ?_ NB169_157.out _; (with_reducible repeat (first | apply blN | apply blD | apply blA)); refine blk_far ?_ NB169_157.out _; (with_reducible repeat (first | apply blN | apply blD | apply blA)); refine blk_far ?_ NB169_157.out _; (with_reducible repeat (first | apply blN | apply blD | apply blA)); refine blk_far ?_ NB169_157.out _; (with_reducible repeat (first | apply blN | apply blD | apply blA)); exact BK169.out) k_ hk⟩)); (case aO => exact (by (with_reducible repeat (first | apply Kd.R_alloc | apply Kd.R_drewN | apply Kd.R_drew)); exact Kd.R_mono (Kd.R_far (p := ⟨gb157, 3, none⟩) (Kd.R_far (p := ⟨gb157, 2, none⟩) (Kd.R_far (p := ⟨gb157, 1, none⟩) (Kd.R_far (p := ⟨gb157, 0, none⟩) (Kd.R_types HO_13.out BK157.out (by decide)) (fun _ hk => hk.2) (.int .u64 t178)) (fun _ hk => hk.2) (.int .u64 t179)) (fun _ hk => hk.2) (.int .u64 t180)) (fun _ hk => hk.2) (.int .u64 t181)) (fun _ hk => ⟨hk.1.1, hk.1.2⟩))); (case aS => exact (below_size (by repeat (first | (with_reducible first | exact HB.out | apply below_alloc | apply pw_below_drewN | apply below_drew1 | refine below_set ?_ GE157.out | refine below_set ?_ GE158.out | refine below_set ?_ GE169.out | refine below_set ?_ GE170.out) | exact HB.out)))); (case aL => have := LMc72.out; omega); intro v184 w90 ho hb hg hat; rw [← Ny183.out] at ho; have n0_ := Aside0.mk (Kd.V_afterv (ok := (fun k_ => (P1_ k_ ∨ w.heap.size ≤ k_) ∧ some k_ ≠ (.slice (some ad172) t165.length co74 : Value).ownBlock ∧ some k_ ≠ (u14 : Value).ownBlock ∧ k_ ≠ gb157 ∧ k_ ≠ gb158 ∧ k_ ≠ gb169 ∧ k_ ≠ gb170)) (by (with_reducible repeat (first | apply Kd.V_alloc | apply Kd.V_drewN | apply Kd.V_drew)); exact Kd.V_mono (Kd.V_far (p := ⟨gb157, 3, none⟩) (Kd.V_far (p := ⟨gb157, 2, none⟩) (Kd.V_far (p := ⟨gb157, 1, none⟩) (Kd.V_far (p := ⟨gb157, 0, none⟩) (Kd.V_mono HO_1.out (fun k_ hk => (⟨hk, hk.2.2.2.2.1⟩ : _ ∧ k_ ≠ gb157))) (fun _ hk => hk.2) (.int .u64 t178)) (fun _ hk => hk.2) (.int .u64 t179)) (fun _ hk => hk.2) (.int .u64 t180)) (fun _ hk => hk.2) (.int .u64 t181)) (fun _ hk => ⟨⟨hk.1.1, ⟨hk.1.2.1, ⟨hk.1.2.2.2.1, ⟨hk.1.2.2.2.2.1, ⟨hk.1.2.2.2.2.2.1, ⟨hk.1.2.2.2.2.2.2.1, hk.1.2.2.2.2.2.2.2⟩⟩⟩⟩⟩⟩, hk.1.2.2.1⟩)) hg hat); have n1_ := Aside0.mk (Kd.R_over' (by (with_reducible repeat (first | apply Kd.R_alloc | apply Kd.R_drewN | apply Kd.R_drew)); exact (Kd.R_mono (Kd.R_far (p := ⟨gb157, 3, none⟩) (Kd.R_far (p := ⟨gb157, 2, none⟩) (Kd.R_far (p := ⟨gb157, 1, none⟩) (Kd.R_far (p := ⟨gb157, 0, none⟩) (Kd.R_mono HO_12.out (fun k_ hk => (⟨hk, hk.2.2.1⟩ : _ ∧ k_ ≠ gb157))) (fun _ hk => hk.2) (.int .u64 t178)) (fun _ hk => hk.2) (.int .u64 t179)) (fun _ hk => hk.2) (.int .u64 t180)) (fun _ hk => hk.2) (.int .u64 t181)) (fun _ h_ => h_.1))) (Kd.R_typed (by (with_reducible repeat (first | apply Kd.R_alloc | apply Kd.R_drewN | apply Kd.R_drew)); exact (Kd.R_mono (Kd.R_far (p := ⟨gb157, 3, none⟩) (Kd.R_far (p := ⟨gb157, 2, none⟩) (Kd.R_far (p := ⟨gb157, 1, none⟩) (Kd.R_far (p := ⟨gb157, 0, none⟩) (Kd.R_types HO_13.out BK157.out (by decide)) (fun _ hk => hk.2) (.int .u64 t178)) (fun _ hk => hk.2) (.int .u64 t179)) (fun _ hk => hk.2) (.int .u64 t180)) (fun _ hk => hk.2) (.int .u64 t181)) (fun _ h_ => h_.1)))) (by decide) hg); have n2_ := Aside0.mk (Kd.R_over' (by (with_reducible repeat (first | apply Kd.R_alloc | apply Kd.R_drewN | apply Kd.R_drew)); exact (Kd.R_mono (Kd.R_far (p := ⟨gb157, 3, none⟩) (Kd.R_far (p := ⟨gb157, 2, none⟩) (Kd.R_far (p := ⟨gb157, 1, none⟩) (Kd.R_far (p := ⟨gb157, 0, none⟩) (Kd.R_mono HO_14.out (fun k_ hk => (⟨hk, hk.2.2.1⟩ : _ ∧ k_ ≠ gb157))) (fun _ hk => hk.2) (.int .u64 t178)) (fun _ hk => hk.2) (.int .u64 t179)) (fun _ hk => hk.2) (.int .u64 t180)) (fun _ hk => hk.2) (.int .u64 t181)) (fun _ h_ => h_.1))) (Kd.R_typed (by (with_reducible repeat (first | apply Kd.R_alloc | apply Kd.R_drewN | apply Kd.R_drew)); exact (Kd.R_mono (Kd.R_far (p := ⟨gb157, 3, none⟩) (Kd.R_far (p := ⟨gb157, 2, none⟩) (Kd.R_far (p := ⟨gb157, 1, none⟩) (Kd.R_far (p := ⟨gb157, 0, none⟩) (Kd.R_types HO_13.out BK157.out (by decide)) (fun _ hk => hk.2) (.int .u64 t178)) (fun _ hk => hk.2) (.int .u64 t179)) (fun _ hk => hk.2) (.int .u64 t180)) (fun _ hk => hk.2) (.int .u64 t181)) (fun _ h_ => h_.1)))) (by decide) hg); have n3_ := Aside0.mk (blk_grown (g := gb157) (o := .cells #[.int .u64 t178, .int .u64 t179, .int .u64 t180, .int .u64 t181] 24 (0, 0)) (by (with_reducible repeat (first | apply blN | apply blD | apply blA)); refine blk_put (cs := #[.int .u64 t178, .int .u64 t179, .int .u64 t180, .int .u64 y3]) ?_ 3 _ rfl; (with_reducible repeat (first | apply blN | apply blD | apply blA)); refine blk_put (cs := #[.int .u64 t178, .int .u64 t179, .int .u64 y2, .int .u64 y3]) ?_ 2 _ rfl; (with_reducible repeat (first | apply blN | apply blD | apply blA)); refine blk_put (cs := #[.int .u64 t178, .int .u64 y1, .int .u64 y2, .int .u64 y3]) ?_ 1 _ rfl; (with_reducible repeat (first | apply blN | apply blD | apply blA)); refine blk_put (cs := #[.int .u64 y0, .int .u64 y1, .int .u64 y2, .int .u64 y3]) ?_ 0 _ rfl; (with_reducible repeat (first | apply blN | apply blD | apply blA)); exact BK157.out) hg (Kd.R_ne HO_13.out BK157.out (by decide))); have n4_ := Aside0.mk (blk_grown (g := gb158) (o := .cells #[.int .u64 y5, .int .u64 y7, .int .u64 y9, .int .u64 yb] 24 (0, 0)) (by (with_reducible repeat (first | apply blN | apply blD | apply blA)); refine blk_far ?_ NB158_157.out _; (with_reducible repeat (first | apply blN | apply blD | apply blA)); refine blk_far ?_ NB158_157.out _; (with_reducible repeat (first | apply blN | apply blD | apply blA)); refine blk_far ?_ NB158_157.out _; (with_reducible repeat (first | apply blN | apply blD | apply blA)); refine blk_far ?_ NB158_157.out _; (with_reducible repeat (first | apply blN | apply blD | apply blA)); exact BK158.out) hg (Kd.R_ne HO_13.out BK158.out (by decide))); have n5_ := Aside0.mk (blk_grown (g := gb169) (o := .cells #[.string ((rd_T40 l1 x15_3).f0), .int .u64 t173, .int .u64 t174, .int .u64 t175, .int .u64 t176, .int .i64 ((rd_T40 l1 x15_3).f2), .string ((rd_T40 l1 x15_3).f3), .string ((rd_T40 l1 x15_3).f4)] 40 (0, 0)) (by (with_reducible repeat (first | apply blN | apply blD | apply blA)); refine blk_far ?_ NB169_157.out _; (with_reducible repeat (first | apply blN | apply blD | apply blA)); refine blk_far ?_ NB169_157.out _; (with_reducible repeat (first | apply blN | apply blD | apply blA)); refine blk_far ?_ NB169_157.out _; (with_reducible repeat (first | apply blN | apply blD | apply blA)); refine blk_far ?_ NB169_157.out _; (with_reducible repeat (first | apply blN | apply blD | apply blA)); exact BK169.out) hg (Kd.R_away HO_13.out (fun _ hk => hk.2))); have n6_ := Aside0.mk (blk_grown (g := gb170) (o := .cells #[.int .u64 ((rd_T24 t165 x15_3).f0), .int .u64 ((rd_T24 t165 x15_3).f1), .int .u64 ((rd_T24 t165 x15_3).f2), .int .u64 ((rd_T24 t165 x15_3).f3)] 24 (0, 0)) (by (with_reducible repeat (first | apply blN | apply blD | apply blA)); refine blk_far ?_ NB170_157.out _; (with_reducible repeat (first | apply blN | apply blD | apply blA)); refine blk_far ?_ NB170_157.out _; (with_reducible repeat (first | apply blN | apply blD | apply blA)); refine blk_far ?_ NB170_157.out _; (with_reducible repeat (first | apply blN | apply blD | apply blA)); refine blk_far ?_ NB170_157.out _; (with_reducible repeat (first | apply blN | apply blD | apply blA)); exact BK170.out) hg (Kd.R_ne HO_13.out BK170.out (by decide))); have n7_ := Aside0.mk (hb); have n8_ := Aside0.mk (ho); clear HO_1; clear HO_12; clear HO_14; clear BK157; clear BK158; clear BK169; clear BK170; clear HB; clear HO_13; have HO_1 := n0_; have HO_12 := n1_; have HO_14 := n2_; have BK157 := n3_; have BK158 := n4_; have BK169 := n5_; have BK170 := n6_; have HB := n7_; have HO185 := n8_; clear n0_ n1_ n2_ n3_ n4_ n5_ n6_ n7_ n8_; clear ho hb hg hat; have hcz91_0 : w90.cell? ⟨gb170, 0, none⟩ = some (.int .u64 ((rd_T24 t165 x15_3).f0)) := (blk_cell BK170.out 0).trans rfl; have hcz91_1 : w90.cell? ⟨gb170, 1, none⟩ = some (.int .u64 ((rd_T24 t165 x15_3).f1)) := (blk_cell BK170.out 1).trans rfl; have hcz91_2 : w90.cell? ⟨gb170, 2, none⟩ = some (.int .u64 ((rd_T24 t165 x15_3).f2)) := (blk_cell BK170.out 2).trans rfl; have hcz91_3 : w90.cell? ⟨gb170, 3, none⟩ = some (.int .u64 ((rd_T24 t165 x15_3).f3)) := (blk_cell BK170.out 3).trans rfl; have hfz91_0 := blk_frozen BK170.out 0; have hfz91_1 := blk_frozen BK170.out 1; have hfz91_2 := blk_frozen BK170.out 2; have hfz91_3 := blk_frozen BK170.out 3) | ((with_reducible refine gate_builtin (b := .append) (xs := #[.tmp 117, .tmp 119]) rfl ?_); (try (refine gate_guard (by rfl) ?_; dsimp only)); at_builtin; refine Kd.R_append k24 (w0 := w) w.heap.size rfl (.tmp 117) (.tmp 119) 29 24 (.agg #[(.int .u64 0), (.int .u64 0), (.int .u64 0), (.int .u64 0)]) 32 rfl Try.underlying29 info24 rfl (by decide) (by omega) u14 x14_3 (⟨(rd_T24 t165 x15_3).f0, (rd_T24 t165 x15_3).f1, (rd_T24 t165 x15_3).f2, (rd_T24 t165 x15_3).f3⟩ : S24) [.int .u64 ((rd_T24 t165 x15_3).f0), .int .u64 ((rd_T24 t165 x15_3).f1), .int .u64 ((rd_T24 t165 x15_3).f2), .int .u64 ((rd_T24 t165 x15_3).f3)] (fun k_ => (w.heap.size ≤ k_) ∧ some k_ ≠ (.slice (some ad172) t165.length co74 : Value).ownBlock ∧ k_ ≠ gb157 ∧ k_ ≠ gb158 ∧ k_ ≠ gb170) (fun _ => False) rfl rfl ?aP (fun _ hk => hk.elim) ?aF ?aO ?aB ?aS ?aL ?_; (case aP => exact k24_mkM _ _ _ (⟨(rd_T24 t165 x15_3).f0, (rd_T24 t165 x15_3).f1, (rd_T24 t165 x15_3).f2, (rd_T24 t165 x15_3).f3⟩ : S24)); (case aB => exact (by repeat (first | (with_reducible first | exact HB.out | apply below_alloc | apply pw_below_drewN | apply below_drew1 | refine below_set ?_ GE157.out | refine below_set ?_ GE158.out | refine below_set ?_ GE169.out | refine below_set ?_ GE170.out) | exact HB.out))); (case aF => exact (fun k_ hk => ⟨(Nat.le_trans (below_size (by repeat (first | (with_reducible first | exact HB.out | apply below_alloc | apply pw_below_drewN | apply below_drew1 | refine below_set ?_ GE157.out | refine below_set ?_ GE158.out | refine below_set ?_ GE169.out | refine below_set ?_ GE170.out) | exact HB.out))) hk), Kd.fresh' (Kd.R_lt (by (with_reducible repeat (first | apply Kd.R_alloc | apply Kd.R_drewN | apply Kd.R_drew)); exact HO_12.out)) k_ hk, Kd.freshB (g := gb157) (o := .cells #[.int .u64 t178, .int .u64 t179, .int .u64 t180, .int .u64 t181] 24 (0, 0)) (by (with_reducible repeat (first | apply blN | apply blD | apply blA)); exact BK157.out) k_ hk, Kd.freshB (g := gb158) (o := .cells #[.int .u64 y5, .int .u64 y7, .int .u64 y9, .int .u64 yb] 24 (0, 0)) (by (with_reducible repeat (first | apply blN | apply blD | apply blA)); exact BK158.out) k_ hk, Kd.freshB (g := gb170) (o := .cells #[.int .u64 ((rd_T24 t165 x15_3).f0), .int .u64 ((rd_T24 t165 x15_3).f1), .int .u64 ((rd_T24 t165 x15_3).f2), .int .u64 ((rd_T24 t165 x15_3).f3)] 24 (0, 0)) (by (with_reducible repeat (first | apply blN | apply blD | apply blA)); exact BK170.out) k_ hk⟩)); (case aO => exact (by (with_reducible repeat (first | apply Kd.R_alloc | apply Kd.R_drewN | apply Kd.R_drew)); exact HO_14.out)); (case aS => exact (below_size (by repeat (first | (with_reducible first | exact HB.out | apply below_alloc | apply pw_below_drewN | apply below_drew1 | refine below_set ?_ GE157.out | refine below_set ?_ GE158.out | refine below_set ?_ GE169.out | refine below_set ?_ GE170.out) | exact HB.out)))); (case aL => have := LMc73.out; omega); intro v187 w92 ho hb hg hat; rw [← Ny186.out] at ho; have n0_ := Aside0.mk (Kd.V_afterv (ok := (fun k_ => (P1_ k_ ∨ w.heap.size ≤ k_) ∧ some k_ ≠ (.slice (some ad172) t165.length co74 : Value).ownBlock ∧ some k_ ≠ (v184 : Value).ownBlock ∧ k_ ≠ gb157 ∧ k_ ≠ gb158 ∧ k_ ≠ gb169 ∧ k_ ≠ gb170)) (by (with_reducible repeat (first | apply Kd.V_alloc | apply Kd.V_drewN | apply Kd.V_drew)); exact Kd.V_mono HO_1.out (fun _ hk => ⟨⟨hk.1.1, ⟨hk.1.2.1, ⟨hk.2, ⟨hk.1.2.2.2.1, ⟨hk.1.2.2.2.2.1, ⟨hk.1.2.2.2.2.2.1, hk.1.2.2.2.2.2.2⟩⟩⟩⟩⟩⟩, hk.1.2.2.1⟩)) hg hat); have n1_ := Aside0.mk (Kd.R_after (ok := (fun k_ => (w.heap.size ≤ k_) ∧ k_ ≠ gb157 ∧ k_ ≠ gb158 ∧ k_ ≠ gb170)) (by (with_reducible repeat (first | apply Kd.R_alloc | apply Kd.R_drewN | apply Kd.R_drew)); exact Kd.R_mono HO_12.out (fun _ hk => ⟨⟨hk.1, ⟨hk.2.2.1, ⟨hk.2.2.2.1, hk.2.2.2.2⟩⟩⟩, hk.2.1⟩)) hg hat); have n2_ := Aside0.mk (blk_grown (g := gb157) (o := .cells #[.int .u64 t178, .int .u64 t179, .int .u64 t180, .int .u64 t181] 24 (0, 0)) (by (with_reducible repeat (first | apply blN | apply blD | apply blA)); exact BK157.out) hg (Kd.R_away HO_14.out (fun _ hk => hk.2.2.1))); have n3_ := Aside0.mk (blk_grown (g := gb158) (o := .cells #[.int .u64 y5, .int .u64 y7, .int .u64 y9, .int .u64 yb] 24 (0, 0)) (by (with_reducible repeat (first | apply blN | apply blD | apply blA)); exact BK158.out) hg (Kd.R_away HO_14.out (fun _ hk => hk.2.2.2.1))); have n4_ := Aside0.mk (blk_grown (g := gb169) (o := .cells #[.string ((rd_T40 l1 x15_3).f0), .int .u64 t173, .int .u64 t174, .int .u64 t175, .int .u64 t176, .int .i64 ((rd_T40 l1 x15_3).f2), .string ((rd_T40 l1 x15_3).f3), .string ((rd_T40 l1 x15_3).f4)] 40 (0, 0)) (by (with_reducible repeat (first | apply blN | apply blD | apply blA)); exact BK169.out) hg (Kd.R_ne HO_14.out BK169.out (by decide))); have n5_ := Aside0.mk (blk_grown (g := gb170) (o := .cells #[.int .u64 ((rd_T24 t165 x15_3).f0), .int .u64 ((rd_T24 t165 x15_3).f1), .int .u64 ((rd_T24 t165 x15_3).f2), .int .u64 ((rd_T24 t165 x15_3).f3)] 24 (0, 0)) (by (with_reducible repeat (first | apply blN | apply blD | apply blA)); exact BK170.out) hg (Kd.R_away HO_14.out (fun _ hk => hk.2.2.2.2))); have n6_ := Aside0.mk (Kd.R_over' (by (with_reducible repeat (first | apply Kd.R_alloc | apply Kd.R_drewN | apply Kd.R_drew)); exact HO185.out) (Kd.R_typed (by (with_reducible repeat (first | apply Kd.R_alloc | apply Kd.R_drewN | apply Kd.R_drew)); exact HO_14.out)) (by decide) hg); have n7_ := Aside0.mk (hb); have n8_ := Aside0.mk (ho); clear HO_1; clear HO_12; clear BK157; clear BK158; clear BK169; clear BK170; clear HO185; clear HB; clear HO_14; have HO_1 := n0_; have HO_12 := n1_; have BK157 := n2_; have BK158 := n3_; have BK169 := n4_; have BK170 := n5_; have HO185 := n6_; have HB := n7_; have HO188 := n8_; clear n0_ n1_ n2_ n3_ n4_ n5_ n6_ n7_ n8_; clear ho hb hg hat))
                  go_roundg kj50
                  case measure => have := HK1.out; have := HK2.out; have := HK3.out; have := HJ50.out; omega
                  case rel => exact ⟨(y183), (y186), (wrap64 (x15_3 + 1)), (t178), (t179), (t180), (t181), (by first | rfl | (simp; done) | (simp [*]; done)), H', ⟨by have := HK1.out; have := HK2.out; have := HK3.out; have := HJ50.out; omega⟩, ⟨by (with_reducible repeat (first | apply Kd.V_alloc | apply Kd.V_drewN | apply Kd.V_drew)); exact Kd.V_mono HO_1.out (fun _ hk => ⟨hk.1.1, ⟨hk.1.2.1, ⟨hk.1.2.2.1, ⟨hk.2, ⟨hk.1.2.2.2.1, hk.1.2.2.2.2.1⟩⟩⟩⟩⟩)⟩, ⟨by (with_reducible repeat (first | apply Kd.R_alloc | apply Kd.R_drewN | apply Kd.R_drew)); exact Kd.R_mono HO_12.out (fun _ hk => ⟨hk.1.1, ⟨hk.2, ⟨hk.1.2.1, hk.1.2.2.1⟩⟩⟩)⟩, ⟨by (with_reducible repeat (first | apply Kd.R_alloc | apply Kd.R_drewN | apply Kd.R_drew)); exact Kd.R_mono HO185.out (fun _ hk => hk.1)⟩, ⟨by (with_reducible repeat (first | apply Kd.R_alloc | apply Kd.R_drewN | apply Kd.R_drew)); exact Kd.R_mono HO188.out (fun _ hk => ⟨hk.1, ⟨hk.2.1, ⟨hk.2.2.1, hk.2.2.2.1⟩⟩⟩)⟩, ⟨by (with_reducible repeat (first | apply blN | apply blD | apply blA)); exact BK157.out⟩, ⟨by (with_reducible repeat (first | apply blN | apply blD | apply blA)); exact BK158.out⟩, ⟨by repeat (first | (with_reducible first | exact HB.out | apply below_alloc | apply pw_below_drewN | apply below_drew1 | refine below_set ?_ GE157.out | refine below_set ?_ GE158.out | refine below_set ?_ GE169.out | refine below_set ?_ GE170.out) | exact HB.out)⟩⟩
                 ·rw [if_neg c73] at H
                  exact absurd H (by simp)
                ·rw [if_neg c72] at H
                 exact absurd H (by simp)
               ·rw [if_neg c69] at H
                exact absurd H (by simp)
              ·rw [if_neg c68] at H
               exact absurd H (by simp)
             ·replace c67 := Bool.eq_false_iff.mpr c67
              subst c67
              have H1 : ((truceref01_Sub.f ((rd_T40 l1 x15_3).f1.f0) ((rd_T40 l1 x15_3).f1.f1) ((rd_T40 l1 x15_3).f1.f2) ((rd_T40 l1 x15_3).f1.f3) 0 0 0 0).bind fun bt189 => ((truceref01_Sub.f y0 y1 y2 y3 0 0 0 0).bind fun bt194 => (if x13_3.length < 1599289640401 then (if x14_3.length < 4398046511104 then (truceref17_Transfer.l2 kj50 l1 l2 t165 (x13_3 ++ [(⟨((rd_T40 l1 x15_3).f0), (⟨bt189.1, bt189.2.1, bt189.2.2.1, bt189.2.2.2.1⟩ : S24), ((rd_T40 l1 x15_3).f2), ((rd_T40 l1 x15_3).f3), ((rd_T40 l1 x15_3).f4)⟩ : S40)]) (x14_3 ++ [(⟨0, 0, 0, 0⟩ : S24)]) (wrap64 (x15_3 + 1)) bt194.1 bt194.2.1 bt194.2.2.1 bt194.2.2.2.1) else (none)) else (none)))) = some (r1, r2, r3, r4, r5, r6, r7) := by rw [if_neg (show ¬ (false = true) by decide)] at H; exact H
              clear H
              have H := H1
              clear H1
              replace H := Option.bind_eq_some_iff.mp H
              obtain ⟨⟨t189, t190, t191, t192, t193⟩, A930, H⟩ := H
              replace H : ((truceref01_Sub.f y0 y1 y2 y3 0 0 0 0).bind fun bt194 => (if x13_3.length < 1599289640401 then (if x14_3.length < 4398046511104 then (truceref17_Transfer.l2 kj50 l1 l2 t165 (x13_3 ++ [(⟨((rd_T40 l1 x15_3).f0), (⟨t189, t190, t191, t192⟩ : S24), ((rd_T40 l1 x15_3).f2), ((rd_T40 l1 x15_3).f3), ((rd_T40 l1 x15_3).f4)⟩ : S40)]) (x14_3 ++ [(⟨0, 0, 0, 0⟩ : S24)]) (wrap64 (x15_3 + 1)) bt194.1 bt194.2.1 bt194.2.2.1 bt194.2.2.2.1) else (none)) else (none))) = some (r1, r2, r3, r4, r5, r6, r7) := H
              have A93 := Aside0.mk A930
              clear A930
              replace H := Option.bind_eq_some_iff.mp H
              obtain ⟨⟨t194, t195, t196, t197, t198⟩, A940, H⟩ := H
              replace H : (if x13_3.length < 1599289640401 then (if x14_3.length < 4398046511104 then (truceref17_Transfer.l2 kj50 l1 l2 t165 (x13_3 ++ [(⟨((rd_T40 l1 x15_3).f0), (⟨t189, t190, t191, t192⟩ : S24), ((rd_T40 l1 x15_3).f2), ((rd_T40 l1 x15_3).f3), ((rd_T40 l1 x15_3).f4)⟩ : S40)]) (x14_3 ++ [(⟨0, 0, 0, 0⟩ : S24)]) (wrap64 (x15_3 + 1)) t194 t195 t196 t197) else (none)) else (none)) = some (r1, r2, r3, r4, r5, r6, r7) := H
              have A94 := Aside0.mk A940
              clear A940
              by_cases c95 : x13_3.length < 1599289640401
              ·rw [if_pos c95] at H
               have LMc95 := Aside0.mk c95
               clear c95
               obtain ⟨y199, hy199⟩ : ∃ y_ : List (S40), y_ = (x13_3 ++ [(⟨((rd_T40 l1 x15_3).f0), (⟨t189, t190, t191, t192⟩ : S24), ((rd_T40 l1 x15_3).f2), ((rd_T40 l1 x15_3).f3), ((rd_T40 l1 x15_3).f4)⟩ : S40)]) := ⟨_, rfl⟩
               replace H : (if x14_3.length < 4398046511104 then (truceref17_Transfer.l2 kj50 l1 l2 t165 y199 (x14_3 ++ [(⟨0, 0, 0, 0⟩ : S24)]) (wrap64 (x15_3 + 1)) t194 t195 t196 t197) else (none)) = some (r1, r2, r3, r4, r5, r6, r7) := by first | (rw [hy199]; with_reducible exact H) | (have H2_ := (Option.bind_some _ _).symm.trans H; rw [hy199]; with_reducible exact H2_) | (have H2_ := (Option.bind_some _ _).symm.trans H; with_reducible exact H2_) | with_reducible exact H | (rw [hy199]; exact H) | exact H
               have Ny199 := Aside0.mk hy199
               clear hy199
               by_cases c96 : x14_3.length < 4398046511104
               ·rw [if_pos c96] at H
                have LMc96 := Aside0.mk c96
                clear c96
                obtain ⟨y202, hy202⟩ : ∃ y_ : List (S24), y_ = (x14_3 ++ [(⟨0, 0, 0, 0⟩ : S24)]) := ⟨_, rfl⟩
                replace H : (truceref17_Transfer.l2 kj50 l1 l2 t165 y199 y202 (wrap64 (x15_3 + 1)) t194 t195 t196 t197) = some (r1, r2, r3, r4, r5, r6, r7) := by first | (rw [hy202]; with_reducible exact H) | (have H2_ := (Option.bind_some _ _).symm.trans H; rw [hy202]; with_reducible exact H2_) | (have H2_ := (Option.bind_some _ _).symm.trans H; with_reducible exact H2_) | with_reducible exact H | (rw [hy202]; exact H) | exact H
                have Ny202 := Aside0.mk hy202
                clear hy202
                have H' := Aside0.mk H
                clear H
                have hnb97 := NB169_157.out
                have hnc97 := NB157_169.out
                have hnb98 := NB169_158.out
                have hnc98 := NB158_169.out
                have hnb99 := NB169_170.out
                have hnc99 := NB170_169.out
                have hcz100_0 : wc.cell? ⟨gb169, 0, none⟩ = some (.string ((rd_T40 l1 x15_3).f0)) := (blk_cell BK169.out 0).trans rfl
                have hcz100_1 : wc.cell? ⟨gb169, 1, none⟩ = some (.int .u64 ((rd_T40 l1 x15_3).f1.f0)) := (blk_cell BK169.out 1).trans rfl
                have hcz100_2 : wc.cell? ⟨gb169, 2, none⟩ = some (.int .u64 ((rd_T40 l1 x15_3).f1.f1)) := (blk_cell BK169.out 2).trans rfl
                have hcz100_3 : wc.cell? ⟨gb169, 3, none⟩ = some (.int .u64 ((rd_T40 l1 x15_3).f1.f2)) := (blk_cell BK169.out 3).trans rfl
                have hcz100_4 : wc.cell? ⟨gb169, 4, none⟩ = some (.int .u64 ((rd_T40 l1 x15_3).f1.f3)) := (blk_cell BK169.out 4).trans rfl
                have hcz100_5 : wc.cell? ⟨gb169, 5, none⟩ = some (.int .i64 ((rd_T40 l1 x15_3).f2)) := (blk_cell BK169.out 5).trans rfl
                have hcz100_6 : wc.cell? ⟨gb169, 6, none⟩ = some (.string ((rd_T40 l1 x15_3).f3)) := (blk_cell BK169.out 6).trans rfl
                have hcz100_7 : wc.cell? ⟨gb169, 7, none⟩ = some (.string ((rd_T40 l1 x15_3).f4)) := (blk_cell BK169.out 7).trans rfl
                have hfz100_0 := blk_frozen BK169.out 0
                have hfz100_1 := blk_frozen BK169.out 1
                have hfz100_2 := blk_frozen BK169.out 2
                have hfz100_3 := blk_frozen BK169.out 3
                have hfz100_4 := blk_frozen BK169.out 4
                have hfz100_5 := blk_frozen BK169.out 5
                have hfz100_6 := blk_frozen BK169.out 6
                have hfz100_7 := blk_frozen BK169.out 7
                have hnb101 := NB170_157.out
                have hnc101 := NB157_170.out
                have hnb102 := NB170_158.out
                have hnc102 := NB158_170.out
                have hcz103_0 : wc.cell? ⟨gb170, 0, none⟩ = some (.int .u64 0) := (blk_cell BK170.out 0).trans rfl
                have hcz103_1 : wc.cell? ⟨gb170, 1, none⟩ = some (.int .u64 0) := (blk_cell BK170.out 1).trans rfl
                have hcz103_2 : wc.cell? ⟨gb170, 2, none⟩ = some (.int .u64 0) := (blk_cell BK170.out 2).trans rfl
                have hcz103_3 : wc.cell? ⟨gb170, 3, none⟩ = some (.int .u64 0) := (blk_cell BK170.out 3).trans rfl
                have hfz103_0 := blk_frozen BK170.out 0
                have hfz103_1 := blk_frozen BK170.out 1
                have hfz103_2 := blk_frozen BK170.out 2
                have hfz103_3 := blk_frozen BK170.out 3
                go_wp2_with (first | ((with_reducible refine gate_callee (f := 23) rfl ?_); refine goesL_ (some 103) rfl rfl Try.func23 (by kernel_rfl) rfl #[.agg #[.int .u64 ((rd_T40 l1 x15_3).f1.f0), .int .u64 ((rd_T40 l1 x15_3).f1.f1), .int .u64 ((rd_T40 l1 x15_3).f1.f2), .int .u64 ((rd_T40 l1 x15_3).f1.f3)], .agg #[.int .u64 0, .int .u64 0, .int .u64 0, .int .u64 0]] rfl (by (try simp only [List.map_toArray, List.map_cons, List.map_nil]); first | done | rfl | (simp only [List.length_drop, List.length_take]; rfl)) ?_; (with_reducible refine (truceref01_Sub.calls ((rd_T40 l1 x15_3).f1.f0) ((rd_T40 l1 x15_3).f1.f1) ((rd_T40 l1 x15_3).f1.f2) ((rd_T40 l1 x15_3).f1.f3) 0 0 0 0 t189 t190 t191 t192 t193 _ A93.out).mono ?_); rintro e w104 ⟨rfl, hb⟩; refine ⟨_, rfl, ?_⟩; have n0_ := Aside0.mk (Kd.V_below (by (with_reducible repeat (first | apply Kd.V_alloc | apply Kd.V_drewN | apply Kd.V_drew)); exact HO_1.out) hb); have n1_ := Aside0.mk (Kd.R_below (by (with_reducible repeat (first | apply Kd.R_alloc | apply Kd.R_drewN | apply Kd.R_drew)); exact HO_12.out) hb); have n2_ := Aside0.mk (Kd.R_below (by (with_reducible repeat (first | apply Kd.R_alloc | apply Kd.R_drewN | apply Kd.R_drew)); exact HO_13.out) hb); have n3_ := Aside0.mk (Kd.R_below (by (with_reducible repeat (first | apply Kd.R_alloc | apply Kd.R_drewN | apply Kd.R_drew)); exact HO_14.out) hb); have n4_ := Aside0.mk (blk_below (g := gb157) (o := .cells #[.int .u64 y0, .int .u64 y1, .int .u64 y2, .int .u64 y3] 24 (0, 0)) (by (with_reducible repeat (first | apply blN | apply blD | apply blA)); exact BK157.out) hb); have n5_ := Aside0.mk (blk_below (g := gb158) (o := .cells #[.int .u64 y5, .int .u64 y7, .int .u64 y9, .int .u64 yb] 24 (0, 0)) (by (with_reducible repeat (first | apply blN | apply blD | apply blA)); exact BK158.out) hb); have n6_ := Aside0.mk (blk_below (g := gb169) (o := .cells #[.string ((rd_T40 l1 x15_3).f0), .int .u64 ((rd_T40 l1 x15_3).f1.f0), .int .u64 ((rd_T40 l1 x15_3).f1.f1), .int .u64 ((rd_T40 l1 x15_3).f1.f2), .int .u64 ((rd_T40 l1 x15_3).f1.f3), .int .i64 ((rd_T40 l1 x15_3).f2), .string ((rd_T40 l1 x15_3).f3), .string ((rd_T40 l1 x15_3).f4)] 40 (0, 0)) (by (with_reducible repeat (first | apply blN | apply blD | apply blA)); exact BK169.out) hb); have n7_ := Aside0.mk (blk_below (g := gb170) (o := .cells #[.int .u64 0, .int .u64 0, .int .u64 0, .int .u64 0] 24 (0, 0)) (by (with_reducible repeat (first | apply blN | apply blD | apply blA)); exact BK170.out) hb); have n8_ := Aside0.mk (below_step (by repeat (first | (with_reducible first | exact HB.out | apply below_alloc | apply pw_below_drewN | apply below_drew1 | refine below_set ?_ GE157.out | refine below_set ?_ GE158.out | refine below_set ?_ GE169.out | refine below_set ?_ GE170.out) | exact HB.out)) hb); clear HO_1; clear HO_12; clear HO_13; clear HO_14; clear BK157; clear BK158; clear BK169; clear BK170; clear HB; have HO_1 := n0_; have HO_12 := n1_; have HO_13 := n2_; have HO_14 := n3_; have BK157 := n4_; have BK158 := n5_; have BK169 := n6_; have BK170 := n7_; have HB := n8_; clear n0_ n1_ n2_ n3_ n4_ n5_ n6_ n7_ n8_; (try clear hb); (try clear hb2); (try clear hk); (try clear hi); have hcz105_0 : w104.cell? ⟨gb169, 0, none⟩ = some (.string ((rd_T40 l1 x15_3).f0)) := (blk_cell BK169.out 0).trans rfl; have hcz105_1 : w104.cell? ⟨gb169, 1, none⟩ = some (.int .u64 ((rd_T40 l1 x15_3).f1.f0)) := (blk_cell BK169.out 1).trans rfl; have hcz105_2 : w104.cell? ⟨gb169, 2, none⟩ = some (.int .u64 ((rd_T40 l1 x15_3).f1.f1)) := (blk_cell BK169.out 2).trans rfl; have hcz105_3 : w104.cell? ⟨gb169, 3, none⟩ = some (.int .u64 ((rd_T40 l1 x15_3).f1.f2)) := (blk_cell BK169.out 3).trans rfl; have hcz105_4 : w104.cell? ⟨gb169, 4, none⟩ = some (.int .u64 ((rd_T40 l1 x15_3).f1.f3)) := (blk_cell BK169.out 4).trans rfl; have hcz105_5 : w104.cell? ⟨gb169, 5, none⟩ = some (.int .i64 ((rd_T40 l1 x15_3).f2)) := (blk_cell BK169.out 5).trans rfl; have hcz105_6 : w104.cell? ⟨gb169, 6, none⟩ = some (.string ((rd_T40 l1 x15_3).f3)) := (blk_cell BK169.out 6).trans rfl; have hcz105_7 : w104.cell? ⟨gb169, 7, none⟩ = some (.string ((rd_T40 l1 x15_3).f4)) := (blk_cell BK169.out 7).trans rfl; have hfz105_0 := blk_frozen BK169.out 0; have hfz105_1 := blk_frozen BK169.out 1; have hfz105_2 := blk_frozen BK169.out 2; have hfz105_3 := blk_frozen BK169.out 3; have hfz105_4 := blk_frozen BK169.out 4; have hfz105_5 := blk_frozen BK169.out 5; have hfz105_6 := blk_frozen BK169.out 6; have hfz105_7 := blk_frozen BK169.out 7; have hnb106 := NB157_158.out; have hnc106 := NB158_157.out; have hcz107_0 : w104.cell? ⟨gb157, 0, none⟩ = some (.int .u64 y0) := (blk_cell BK157.out 0).trans rfl; have hcz107_1 : w104.cell? ⟨gb157, 1, none⟩ = some (.int .u64 y1) := (blk_cell BK157.out 1).trans rfl; have hcz107_2 : w104.cell? ⟨gb157, 2, none⟩ = some (.int .u64 y2) := (blk_cell BK157.out 2).trans rfl; have hcz107_3 : w104.cell? ⟨gb157, 3, none⟩ = some (.int .u64 y3) := (blk_cell BK157.out 3).trans rfl; have hfz107_0 := blk_frozen BK157.out 0; have hfz107_1 := blk_frozen BK157.out 1; have hfz107_2 := blk_frozen BK157.out 2; have hfz107_3 := blk_frozen BK157.out 3; have hcz108_0 : w104.cell? ⟨gb170, 0, none⟩ = some (.int .u64 0) := (blk_cell BK170.out 0).trans rfl; have hcz108_1 : w104.cell? ⟨gb170, 1, none⟩ = some (.int .u64 0) := (blk_cell BK170.out 1).trans rfl; have hcz108_2 : w104.cell? ⟨gb170, 2, none⟩ = some (.int .u64 0) := (blk_cell BK170.out 2).trans rfl; have hcz108_3 : w104.cell? ⟨gb170, 3, none⟩ = some (.int .u64 0) := (blk_cell BK170.out 3).trans rfl; have hfz108_0 := blk_frozen BK170.out 0; have hfz108_1 := blk_frozen BK170.out 1; have hfz108_2 := blk_frozen BK170.out 2; have hfz108_3 := blk_frozen BK170.out 3) | ((with_reducible refine gate_callee (f := 23) rfl ?_); refine goesL_ (some 110) rfl rfl Try.func23 (by kernel_rfl) rfl #[.agg #[.int .u64 y0, .int .u64 y1, .int .u64 y2, .int .u64 y3], .agg #[.int .u64 0, .int .u64 0, .int .u64 0, .int .u64 0]] rfl (by (try simp only [List.map_toArray, List.map_cons, List.map_nil]); first | done | rfl | (simp only [List.length_drop, List.length_take]; rfl)) ?_; (with_reducible refine (truceref01_Sub.calls y0 y1 y2 y3 0 0 0 0 t194 t195 t196 t197 t198 _ A94.out).mono ?_); rintro e w109 ⟨rfl, hb⟩; refine ⟨_, rfl, ?_⟩; have n0_ := Aside0.mk (Kd.V_below (by (with_reducible repeat (first | apply Kd.V_alloc | apply Kd.V_drewN | apply Kd.V_drew)); exact (Kd.V_mono (Kd.V_far (p := ⟨gb169, 4, none⟩) (Kd.V_far (p := ⟨gb169, 3, none⟩) (Kd.V_far (p := ⟨gb169, 2, none⟩) (Kd.V_far (p := ⟨gb169, 1, none⟩) (Kd.V_mono HO_1.out (fun k_ hk => (⟨hk, hk.2.2.2.2.2.2.1⟩ : _ ∧ k_ ≠ gb169))) (fun _ hk => hk.2) (.int .u64 t189)) (fun _ hk => hk.2) (.int .u64 t190)) (fun _ hk => hk.2) (.int .u64 t191)) (fun _ hk => hk.2) (.int .u64 t192)) (fun _ h_ => h_.1))) hb); have n1_ := Aside0.mk (Kd.R_below (by (with_reducible repeat (first | apply Kd.R_alloc | apply Kd.R_drewN | apply Kd.R_drew)); exact (Kd.R_mono (Kd.R_far (p := ⟨gb169, 4, none⟩) (Kd.R_far (p := ⟨gb169, 3, none⟩) (Kd.R_far (p := ⟨gb169, 2, none⟩) (Kd.R_far (p := ⟨gb169, 1, none⟩) (Kd.R_types HO_12.out BK169.out (by decide)) (fun _ hk => hk.2) (.int .u64 t189)) (fun _ hk => hk.2) (.int .u64 t190)) (fun _ hk => hk.2) (.int .u64 t191)) (fun _ hk => hk.2) (.int .u64 t192)) (fun _ h_ => h_.1))) hb); have n2_ := Aside0.mk (Kd.R_below (by (with_reducible repeat (first | apply Kd.R_alloc | apply Kd.R_drewN | apply Kd.R_drew)); exact (Kd.R_mono (Kd.R_far (p := ⟨gb169, 4, none⟩) (Kd.R_far (p := ⟨gb169, 3, none⟩) (Kd.R_far (p := ⟨gb169, 2, none⟩) (Kd.R_far (p := ⟨gb169, 1, none⟩) (Kd.R_mono HO_13.out (fun k_ hk => (⟨hk, hk.2⟩ : _ ∧ k_ ≠ gb169))) (fun _ hk => hk.2) (.int .u64 t189)) (fun _ hk => hk.2) (.int .u64 t190)) (fun _ hk => hk.2) (.int .u64 t191)) (fun _ hk => hk.2) (.int .u64 t192)) (fun _ h_ => h_.1))) hb); have n3_ := Aside0.mk (Kd.R_below (by (with_reducible repeat (first | apply Kd.R_alloc | apply Kd.R_drewN | apply Kd.R_drew)); exact (Kd.R_mono (Kd.R_far (p := ⟨gb169, 4, none⟩) (Kd.R_far (p := ⟨gb169, 3, none⟩) (Kd.R_far (p := ⟨gb169, 2, none⟩) (Kd.R_far (p := ⟨gb169, 1, none⟩) (Kd.R_types HO_14.out BK169.out (by decide)) (fun _ hk => hk.2) (.int .u64 t189)) (fun _ hk => hk.2) (.int .u64 t190)) (fun _ hk => hk.2) (.int .u64 t191)) (fun _ hk => hk.2) (.int .u64 t192)) (fun _ h_ => h_.1))) hb); have n4_ := Aside0.mk (blk_below (g := gb157) (o := .cells #[.int .u64 y0, .int .u64 y1, .int .u64 y2, .int .u64 y3] 24 (0, 0)) (by (with_reducible repeat (first | apply blN | apply blD | apply blA)); refine blk_far ?_ NB157_169.out _; (with_reducible repeat (first | apply blN | apply blD | apply blA)); refine blk_far ?_ NB157_169.out _; (with_reducible repeat (first | apply blN | apply blD | apply blA)); refine blk_far ?_ NB157_169.out _; (with_reducible repeat (first | apply blN | apply blD | apply blA)); refine blk_far ?_ NB157_169.out _; (with_reducible repeat (first | apply blN | apply blD | apply blA)); exact BK157.out) hb); have n5_ := Aside0.mk (blk_below (g := gb158) (o := .cells #[.int .u64 y5, .int .u64 y7, .int .u64 y9, .int .u64 yb] 24 (0, 0)) (by (with_reducible repeat (first | apply blN | apply blD | apply blA)); refine blk_far ?_ NB158_169.out _; (with_reducible repeat (first | apply blN | apply blD | apply blA)); refine blk_far ?_ NB158_169.out _; (with_reducible repeat (first | apply blN | apply blD | apply blA)); refine blk_far ?_ NB158_169.out _; (with_reducible repeat (first | apply blN | apply blD | apply blA)); refine blk_far ?_ NB158_169.out _; (with_reducible repeat (first | apply blN | apply blD | apply blA)); exact BK158.out) hb); have n6_ := Aside0.mk (blk_below (g := gb169) (o := .cells #[.string ((rd_T40 l1 x15_3).f0), .int .u64 t189, .int .u64 t190, .int .u64 t191, .int .u64 t192, .int .i64 ((rd_T40 l1 x15_3).f2), .string ((rd_T40 l1 x15_3).f3), .string ((rd_T40 l1 x15_3).f4)] 40 (0, 0)) (by (with_reducible repeat (first | apply blN | apply blD | apply blA)); refine blk_put (cs := #[.string ((rd_T40 l1 x15_3).f0), .int .u64 t189, .int .u64 t190, .int .u64 t191, .int .u64 ((rd_T40 l1 x15_3).f1.f3), .int .i64 ((rd_T40 l1 x15_3).f2), .string ((rd_T40 l1 x15_3).f3), .string ((rd_T40 l1 x15_3).f4)]) ?_ 4 _ rfl; (with_reducible repeat (first | apply blN | apply blD | apply blA)); refine blk_put (cs := #[.string ((rd_T40 l1 x15_3).f0), .int .u64 t189, .int .u64 t190, .int .u64 ((rd_T40 l1 x15_3).f1.f2), .int .u64 ((rd_T40 l1 x15_3).f1.f3), .int .i64 ((rd_T40 l1 x15_3).f2), .string ((rd_T40 l1 x15_3).f3), .string ((rd_T40 l1 x15_3).f4)]) ?_ 3 _ rfl; (with_reducible repeat (first | apply blN | apply blD | apply blA)); refine blk_put (cs := #[.string ((rd_T40 l1 x15_3).f0), .int .u64 t189, .int .u64 ((rd_T40 l1 x15_3).f1.f1), .int .u64 ((rd_T40 l1 x15_3).f1.f2), .int .u64 ((rd_T40 l1 x15_3).f1.f3), .int .i64 ((rd_T40 l1 x15_3).f2), .string ((rd_T40 l1 x15_3).f3), .string ((rd_T40 l1 x15_3).f4)]) ?_ 2 _ rfl; (with_reducible repeat (first | apply blN | apply blD | apply blA)); refine blk_put (cs := #[.string ((rd_T40 l1 x15_3).f0), .int .u64 ((rd_T40 l1 x15_3).f1.f0), .int .u64 ((rd_T40 l1 x15_3).f1.f1), .int .u64 ((rd_T40 l1 x15_3).f1.f2), .int .u64 ((rd_T40 l1 x15_3).f1.f3), .int .i64 ((rd_T40 l1 x15_3).f2), .string ((rd_T40 l1 x15_3).f3), .string ((rd_T40 l1 x15_3).f4)]) ?_ 1 _ rfl; (with_reducible repeat (first | apply blN | apply blD | apply blA)); exact BK169.out) hb); have n7_ := Aside0.mk (blk_below (g := gb170) (o := .cells #[.int .u64 0, .int .u64 0, .int .u64 0, .int .u64 0] 24 (0, 0)) (by (with_reducible repeat (first | apply blN | apply blD | apply blA)); refine blk_far ?_ NB170_169.out _; (with_reducible repeat (first | apply blN | apply blD | apply blA)); refine blk_far ?_ NB170_169.out _; (with_reducible repeat (first | apply blN | apply blD | apply blA)); refine blk_far ?_ NB170_169.out _; (with_reducible repeat (first | apply blN | apply blD | apply blA)); refine blk_far ?_ NB170_169.out _; (with_reducible repeat (first | apply blN | apply blD | apply blA)); exact BK170.out) hb); have n8_ := Aside0.mk (below_step (by repeat (first | (with_reducible first | exact HB.out | apply below_alloc | apply pw_below_drewN | apply below_drew1 | refine below_set ?_ GE157.out | refine below_set ?_ GE158.out | refine below_set ?_ GE169.out | refine below_set ?_ GE170.out) | exact HB.out)) hb); clear HO_1; clear HO_12; clear HO_13; clear HO_14; clear BK157; clear BK158; clear BK169; clear BK170; clear HB; have HO_1 := n0_; have HO_12 := n1_; have HO_13 := n2_; have HO_14 := n3_; have BK157 := n4_; have BK158 := n5_; have BK169 := n6_; have BK170 := n7_; have HB := n8_; clear n0_ n1_ n2_ n3_ n4_ n5_ n6_ n7_ n8_; (try clear hb); (try clear hb2); (try clear hk); (try clear hi); have hcz110_0 : w109.cell? ⟨gb157, 0, none⟩ = some (.int .u64 y0) := (blk_cell BK157.out 0).trans rfl; have hcz110_1 : w109.cell? ⟨gb157, 1, none⟩ = some (.int .u64 y1) := (blk_cell BK157.out 1).trans rfl; have hcz110_2 : w109.cell? ⟨gb157, 2, none⟩ = some (.int .u64 y2) := (blk_cell BK157.out 2).trans rfl; have hcz110_3 : w109.cell? ⟨gb157, 3, none⟩ = some (.int .u64 y3) := (blk_cell BK157.out 3).trans rfl; have hfz110_0 := blk_frozen BK157.out 0; have hfz110_1 := blk_frozen BK157.out 1; have hfz110_2 := blk_frozen BK157.out 2; have hfz110_3 := blk_frozen BK157.out 3; have hcz111_0 : w109.cell? ⟨gb169, 0, none⟩ = some (.string ((rd_T40 l1 x15_3).f0)) := (blk_cell BK169.out 0).trans rfl; have hcz111_1 : w109.cell? ⟨gb169, 1, none⟩ = some (.int .u64 t189) := (blk_cell BK169.out 1).trans rfl; have hcz111_2 : w109.cell? ⟨gb169, 2, none⟩ = some (.int .u64 t190) := (blk_cell BK169.out 2).trans rfl; have hcz111_3 : w109.cell? ⟨gb169, 3, none⟩ = some (.int .u64 t191) := (blk_cell BK169.out 3).trans rfl; have hcz111_4 : w109.cell? ⟨gb169, 4, none⟩ = some (.int .u64 t192) := (blk_cell BK169.out 4).trans rfl; have hcz111_5 : w109.cell? ⟨gb169, 5, none⟩ = some (.int .i64 ((rd_T40 l1 x15_3).f2)) := (blk_cell BK169.out 5).trans rfl; have hcz111_6 : w109.cell? ⟨gb169, 6, none⟩ = some (.string ((rd_T40 l1 x15_3).f3)) := (blk_cell BK169.out 6).trans rfl; have hcz111_7 : w109.cell? ⟨gb169, 7, none⟩ = some (.string ((rd_T40 l1 x15_3).f4)) := (blk_cell BK169.out 7).trans rfl; have hfz111_0 := blk_frozen BK169.out 0; have hfz111_1 := blk_frozen BK169.out 1; have hfz111_2 := blk_frozen BK169.out 2; have hfz111_3 := blk_frozen BK169.out 3; have hfz111_4 := blk_frozen BK169.out 4; have hfz111_5 := blk_frozen BK169.out 5; have hfz111_6 := blk_frozen BK169.out 6; have hfz111_7 := blk_frozen BK169.out 7) | ((with_reducible refine gate_builtin (b := .append) (xs := #[.tmp 113, .tmp 115]) rfl ?_); (try (refine gate_guard (by rfl) ?_; dsimp only)); at_builtin; refine Kd.R_append k40 (w0 := w) w.heap.size rfl (.tmp 113) (.tmp 115) 25 40 (.agg #[(.string ⟨#[]⟩), (.int .u64 0), (.int .u64 0), (.int .u64 0), (.int .u64 0), (.int .i64 0), (.string ⟨#[]⟩), (.string ⟨#[]⟩)]) 88 rfl Try.underlying25 info40 rfl (by decide) (by omega) u13 x13_3 (⟨((rd_T40 l1 x15_3).f0), (⟨t189, t190, t191, t192⟩ : S24), ((rd_T40 l1 x15_3).f2), ((rd_T40 l1 x15_3).f3), ((rd_T40 l1 x15_3).f4)⟩ : S40) [.string ((rd_T40 l1 x15_3).f0), .int .u64 t189, .int .u64 t190, .int .u64 t191, .int .u64 t192, .int .i64 ((rd_T40 l1 x15_3).f2), .string ((rd_T40 l1 x15_3).f3), .string ((rd_T40 l1 x15_3).f4)] (fun k_ => (w.heap.size ≤ k_) ∧ k_ ≠ gb169) (fun _ => False) rfl (by first | (go_simp; done) | (go_simp; rfl)) ?aP (fun _ hk => hk.elim) ?aF ?aO ?aB ?aS ?aL ?_; (case aP => exact k40_mkM _ _ _ (⟨((rd_T40 l1 x15_3).f0), (⟨t189, t190, t191, t192⟩ : S24), ((rd_T40 l1 x15_3).f2), ((rd_T40 l1 x15_3).f3), ((rd_T40 l1 x15_3).f4)⟩ : S40)); (case aB => exact (by repeat (first | (with_reducible first | exact HB.out | apply below_alloc | apply pw_below_drewN | apply below_drew1 | refine below_set ?_ GE157.out | refine below_set ?_ GE158.out | refine below_set ?_ GE169.out | refine below_set ?_ GE170.out) | exact HB.out))); (case aF => exact (fun k_ hk => ⟨(Nat.le_trans (below_size (by repeat (first | (with_reducible first | exact HB.out | apply below_alloc | apply pw_below_drewN | apply below_drew1 | refine below_set ?_ GE157.out | refine below_set ?_ GE158.out | refine below_set ?_ GE169.out | refine below_set ?_ GE170.out) | exact HB.out))) hk), Kd.freshB (g := gb169) (o := .cells #[.string ((rd_T40 l1 x15_3).f0), .int .u64 t189, .int .u64 t190, .int .u64 t191, .int .u64 t192, .int .i64 ((rd_T40 l1 x15_3).f2), .string ((rd_T40 l1 x15_3).f3), .string ((rd_T40 l1 x15_3).f4)] 40 (0, 0)) (by (with_reducible repeat (first | apply blN | apply blD | apply blA)); refine blk_far ?_ NB169_157.out _; (with_reducible repeat (first | apply blN | apply blD | apply blA)); refine blk_far ?_ NB169_157.out _; (with_reducible repeat (first | apply blN | apply blD | apply blA)); refine blk_far ?_ NB169_157.out _; (with_reducible repeat (first | apply blN | apply blD | apply blA)); refine blk_far ?_ NB169_157.out _; (with_reducible repeat (first | apply blN | apply blD | apply blA)); exact BK169.out) k_ hk⟩)); (case aO => exact (by (with_reducible repeat (first | apply Kd.R_alloc | apply Kd.R_drewN | apply Kd.R_drew)); exact Kd.R_mono (Kd.R_far (p := ⟨gb157, 3, none⟩) (Kd.R_far (p := ⟨gb157, 2, none⟩) (Kd.R_far (p := ⟨gb157, 1, none⟩) (Kd.R_far (p := ⟨gb157, 0, none⟩) (Kd.R_types HO_13.out BK157.out (by decide)) (fun _ hk => hk.2) (.int .u64 t194)) (fun _ hk => hk.2) (.int .u64 t195)) (fun _ hk => hk.2) (.int .u64 t196)) (fun _ hk => hk.2) (.int .u64 t197)) (fun _ hk => ⟨hk.1.1, hk.1.2⟩))); (case aS => exact (below_size (by repeat (first | (with_reducible first | exact HB.out | apply below_alloc | apply pw_below_drewN | apply below_drew1 | refine below_set ?_ GE157.out | refine below_set ?_ GE158.out | refine below_set ?_ GE169.out | refine below_set ?_ GE170.out) | exact HB.out)))); (case aL => have := LMc95.out; omega); intro v200 w112 ho hb hg hat; rw [← Ny199.out] at ho; have n0_ := Aside0.mk (Kd.V_afterv (ok := (fun k_ => (P1_ k_ ∨ w.heap.size ≤ k_) ∧ some k_ ≠ (v166 : Value).ownBlock ∧ some k_ ≠ (u14 : Value).ownBlock ∧ k_ ≠ gb157 ∧ k_ ≠ gb158 ∧ k_ ≠ gb169 ∧ k_ ≠ gb170)) (by (with_reducible repeat (first | apply Kd.V_alloc | apply Kd.V_drewN | apply Kd.V_drew)); exact Kd.V_mono (Kd.V_far (p := ⟨gb157, 3, none⟩) (Kd.V_far (p := ⟨gb157, 2, none⟩) (Kd.V_far (p := ⟨gb157, 1, none⟩) (Kd.V_far (p := ⟨gb157, 0, none⟩) (Kd.V_mono HO_1.out (fun k_ hk => (⟨hk, hk.2.2.2.2.1⟩ : _ ∧ k_ ≠ gb157))) (fun _ hk => hk.2) (.int .u64 t194)) (fun _ hk => hk.2) (.int .u64 t195)) (fun _ hk => hk.2) (.int .u64 t196)) (fun _ hk => hk.2) (.int .u64 t197)) (fun _ hk => ⟨⟨hk.1.1, ⟨hk.1.2.1, ⟨hk.1.2.2.2.1, ⟨hk.1.2.2.2.2.1, ⟨hk.1.2.2.2.2.2.1, ⟨hk.1.2.2.2.2.2.2.1, hk.1.2.2.2.2.2.2.2⟩⟩⟩⟩⟩⟩, hk.1.2.2.1⟩)) hg hat); have n1_ := Aside0.mk (Kd.R_over' (by (with_reducible repeat (first | apply Kd.R_alloc | apply Kd.R_drewN | apply Kd.R_drew)); exact (Kd.R_mono (Kd.R_far (p := ⟨gb157, 3, none⟩) (Kd.R_far (p := ⟨gb157, 2, none⟩) (Kd.R_far (p := ⟨gb157, 1, none⟩) (Kd.R_far (p := ⟨gb157, 0, none⟩) (Kd.R_mono HO_12.out (fun k_ hk => (⟨hk, hk.2.2.1⟩ : _ ∧ k_ ≠ gb157))) (fun _ hk => hk.2) (.int .u64 t194)) (fun _ hk => hk.2) (.int .u64 t195)) (fun _ hk => hk.2) (.int .u64 t196)) (fun _ hk => hk.2) (.int .u64 t197)) (fun _ h_ => h_.1))) (Kd.R_typed (by (with_reducible repeat (first | apply Kd.R_alloc | apply Kd.R_drewN | apply Kd.R_drew)); exact (Kd.R_mono (Kd.R_far (p := ⟨gb157, 3, none⟩) (Kd.R_far (p := ⟨gb157, 2, none⟩) (Kd.R_far (p := ⟨gb157, 1, none⟩) (Kd.R_far (p := ⟨gb157, 0, none⟩) (Kd.R_types HO_13.out BK157.out (by decide)) (fun _ hk => hk.2) (.int .u64 t194)) (fun _ hk => hk.2) (.int .u64 t195)) (fun _ hk => hk.2) (.int .u64 t196)) (fun _ hk => hk.2) (.int .u64 t197)) (fun _ h_ => h_.1)))) (by decide) hg); have n2_ := Aside0.mk (Kd.R_over' (by (with_reducible repeat (first | apply Kd.R_alloc | apply Kd.R_drewN | apply Kd.R_drew)); exact (Kd.R_mono (Kd.R_far (p := ⟨gb157, 3, none⟩) (Kd.R_far (p := ⟨gb157, 2, none⟩) (Kd.R_far (p := ⟨gb157, 1, none⟩) (Kd.R_far (p := ⟨gb157, 0, none⟩) (Kd.R_mono HO_14.out (fun k_ hk => (⟨hk, hk.2.2.1⟩ : _ ∧ k_ ≠ gb157))) (fun _ hk => hk.2) (.int .u64 t194)) (fun _ hk => hk.2) (.int .u64 t195)) (fun _ hk => hk.2) (.int .u64 t196)) (fun _ hk => hk.2) (.int .u64 t197)) (fun _ h_ => h_.1))) (Kd.R_typed (by (with_reducible repeat (first | apply Kd.R_alloc | apply Kd.R_drewN | apply Kd.R_drew)); exact (Kd.R_mono (Kd.R_far (p := ⟨gb157, 3, none⟩) (Kd.R_far (p := ⟨gb157, 2, none⟩) (Kd.R_far (p := ⟨gb157, 1, none⟩) (Kd.R_far (p := ⟨gb157, 0, none⟩) (Kd.R_types HO_13.out BK157.out (by decide)) (fun _ hk => hk.2) (.int .u64 t194)) (fun _ hk => hk.2) (.int .u64 t195)) (fun _ hk => hk.2) (.int .u64 t196)) (fun _ hk => hk.2) (.int .u64 t197)) (fun _ h_ => h_.1)))) (by decide) hg); have n3_ := Aside0.mk (blk_grown (g := gb157) (o := .cells #[.int .u64 t194, .int .u64 t195, .int .u64 t196, .int .u64 t197] 24 (0, 0)) (by (with_reducible repeat (first | apply blN | apply blD | apply blA)); refine blk_put (cs := #[.int .u64 t194, .int .u64 t195, .int .u64 t196, .int .u64 y3]) ?_ 3 _ rfl; (with_reducible repeat (first | apply blN | apply blD | apply blA)); refine blk_put (cs := #[.int .u64 t194, .int .u64 t195, .int .u64 y2, .int .u64 y3]) ?_ 2 _ rfl; (with_reducible repeat (first | apply blN | apply blD | apply blA)); refine blk_put (cs := #[.int .u64 t194, .int .u64 y1, .int .u64 y2, .int .u64 y3]) ?_ 1 _ rfl; (with_reducible repeat (first | apply blN | apply blD | apply blA)); refine blk_put (cs := #[.int .u64 y0, .int .u64 y1, .int .u64 y2, .int .u64 y3]) ?_ 0 _ rfl; (with_reducible repeat (first | apply blN | apply blD | apply blA)); exact BK157.out) hg (Kd.R_ne HO_13.out BK157.out (by decide))); have n4_ := Aside0.mk (blk_grown (g := gb158) (o := .cells #[.int .u64 y5, .int .u64 y7, .int .u64 y9, .int .u64 yb] 24 (0, 0)) (by (with_reducible repeat (first | apply blN | apply blD | apply blA)); refine blk_far ?_ NB158_157.out _; (with_reducible repeat (first | apply blN | apply blD | apply blA)); refine blk_far ?_ NB158_157.out _; (with_reducible repeat (first | apply blN | apply blD | apply blA)); refine blk_far ?_ NB158_157.out _; (with_reducible repeat (first | apply blN | apply blD | apply blA)); refine blk_far ?_ NB158_157.out _; (with_reducible repeat (first | apply blN | apply blD | apply blA)); exact BK158.out) hg (Kd.R_ne HO_13.out BK158.out (by decide))); have n5_ := Aside0.mk (blk_grown (g := gb169) (o := .cells #[.string ((rd_T40 l1 x15_3).f0), .int .u64 t189, .int .u64 t190, .int .u64 t191, .int .u64 t192, .int .i64 ((rd_T40 l1 x15_3).f2), .string ((rd_T40 l1 x15_3).f3), .string ((rd_T40 l1 x15_3).f4)] 40 (0, 0)) (by (with_reducible repeat (first | apply blN | apply blD | apply blA)); refine blk_far ?_ NB169_157.out _; (with_reducible repeat (first | apply blN | apply blD | apply blA)); refine blk_far ?_ NB169_157.out _; (with_reducible repeat (first | apply blN | apply blD | apply blA)); refine blk_far ?_ NB169_157.out _; (with_reducible repeat (first | apply blN | apply blD | apply blA)); refine blk_far ?_ NB169_157.out _; (with_reducible repeat (first | apply blN | apply blD | apply blA)); exact BK169.out) hg (Kd.R_away HO_13.out (fun _ hk => hk.2))); have n6_ := Aside0.mk (blk_grown (g := gb170) (o := .cells #[.int .u64 0, .int .u64 0, .int .u64 0, .int .u64 0] 24 (0, 0)) (by (with_reducible repeat (first | apply blN | apply blD | apply blA)); refine blk_far ?_ NB170_157.out _; (with_reducible repeat (first | apply blN | apply blD | apply blA)); refine blk_far ?_ NB170_157.out _; (with_reducible repeat (first | apply blN | apply blD | apply blA)); refine blk_far ?_ NB170_157.out _; (with_reducible repeat (first | apply blN | apply blD | apply blA)); refine blk_far ?_ NB170_157.out _; (with_reducible repeat (first | apply blN | apply blD | apply blA)); exact BK170.out) hg (Kd.R_ne HO_13.out BK170.out (by decide))); have n7_ := Aside0.mk (hb); have n8_ := Aside0.mk (ho); clear HO_1; clear HO_12; clear HO_14; clear BK157; clear BK158; clear BK169; clear BK170; clear HB; clear HO_13; have HO_1 := n0_; have HO_12 := n1_; have HO_14 := n2_; have BK157 := n3_; have BK158 := n4_; have BK169 := n5_; have BK170 := n6_; have HB := n7_; have HO201 := n8_; clear n0_ n1_ n2_ n3_ n4_ n5_ n6_ n7_ n8_; clear ho hb hg hat; have hcz113_0 : w112.cell? ⟨gb170, 0, none⟩ = some (.int .u64 0) := (blk_cell BK170.out 0).trans rfl; have hcz113_1 : w112.cell? ⟨gb170, 1, none⟩ = some (.int .u64 0) := (blk_cell BK170.out 1).trans rfl; have hcz113_2 : w112.cell? ⟨gb170, 2, none⟩ = some (.int .u64 0) := (blk_cell BK170.out 2).trans rfl; have hcz113_3 : w112.cell? ⟨gb170, 3, none⟩ = some (.int .u64 0) := (blk_cell BK170.out 3).trans rfl; have hfz113_0 := blk_frozen BK170.out 0; have hfz113_1 := blk_frozen BK170.out 1; have hfz113_2 := blk_frozen BK170.out 2; have hfz113_3 := blk_frozen BK170.out 3) | ((with_reducible refine gate_builtin (b := .append) (xs := #[.tmp 117, .tmp 119]) rfl ?_); (try (refine gate_guard (by rfl) ?_; dsimp only)); at_builtin; refine Kd.R_append k24 (w0 := w) w.heap.size rfl (.tmp 117) (.tmp 119) 29 24 (.agg #[(.int .u64 0), (.int .u64 0), (.int .u64 0), (.int .u64 0)]) 32 rfl Try.underlying29 info24 rfl (by decide) (by omega) u14 x14_3 (⟨0, 0, 0, 0⟩ : S24) [.int .u64 0, .int .u64 0, .int .u64 0, .int .u64 0] (fun k_ => (w.heap.size ≤ k_) ∧ some k_ ≠ (v166 : Value).ownBlock ∧ k_ ≠ gb157 ∧ k_ ≠ gb158 ∧ k_ ≠ gb170) (fun _ => False) rfl rfl ?aP (fun _ hk => hk.elim) ?aF ?aO ?aB ?aS ?aL ?_; (case aP => exact k24_mkM _ _ _ (⟨0, 0, 0, 0⟩ : S24)); (case aB => exact (by repeat (first | (with_reducible first | exact HB.out | apply below_alloc | apply pw_below_drewN | apply below_drew1 | refine below_set ?_ GE157.out | refine below_set ?_ GE158.out | refine below_set ?_ GE169.out | refine below_set ?_ GE170.out) | exact HB.out))); (case aF => exact (fun k_ hk => ⟨(Nat.le_trans (below_size (by repeat (first | (with_reducible first | exact HB.out | apply below_alloc | apply pw_below_drewN | apply below_drew1 | refine below_set ?_ GE157.out | refine below_set ?_ GE158.out | refine below_set ?_ GE169.out | refine below_set ?_ GE170.out) | exact HB.out))) hk), Kd.fresh' (Kd.R_lt (by (with_reducible repeat (first | apply Kd.R_alloc | apply Kd.R_drewN | apply Kd.R_drew)); exact HO_12.out)) k_ hk, Kd.freshB (g := gb157) (o := .cells #[.int .u64 t194, .int .u64 t195, .int .u64 t196, .int .u64 t197] 24 (0, 0)) (by (with_reducible repeat (first | apply blN | apply blD | apply blA)); exact BK157.out) k_ hk, Kd.freshB (g := gb158) (o := .cells #[.int .u64 y5, .int .u64 y7, .int .u64 y9, .int .u64 yb] 24 (0, 0)) (by (with_reducible repeat (first | apply blN | apply blD | apply blA)); exact BK158.out) k_ hk, Kd.freshB (g := gb170) (o := .cells #[.int .u64 0, .int .u64 0, .int .u64 0, .int .u64 0] 24 (0, 0)) (by (with_reducible repeat (first | apply blN | apply blD | apply blA)); exact BK170.out) k_ hk⟩)); (case aO => exact (by (with_reducible repeat (first | apply Kd.R_alloc | apply Kd.R_drewN | apply Kd.R_drew)); exact HO_14.out)); (case aS => exact (below_size (by repeat (first | (with_reducible first | exact HB.out | apply below_alloc | apply pw_below_drewN | apply below_drew1 | refine below_set ?_ GE157.out | refine below_set ?_ GE158.out | refine below_set ?_ GE169.out | refine below_set ?_ GE170.out) | exact HB.out)))); (case aL => have := LMc96.out; omega); intro v203 w114 ho hb hg hat; rw [← Ny202.out] at ho; have n0_ := Aside0.mk (Kd.V_afterv (ok := (fun k_ => (P1_ k_ ∨ w.heap.size ≤ k_) ∧ some k_ ≠ (v166 : Value).ownBlock ∧ some k_ ≠ (v200 : Value).ownBlock ∧ k_ ≠ gb157 ∧ k_ ≠ gb158 ∧ k_ ≠ gb169 ∧ k_ ≠ gb170)) (by (with_reducible repeat (first | apply Kd.V_alloc | apply Kd.V_drewN | apply Kd.V_drew)); exact Kd.V_mono HO_1.out (fun _ hk => ⟨⟨hk.1.1, ⟨hk.1.2.1, ⟨hk.2, ⟨hk.1.2.2.2.1, ⟨hk.1.2.2.2.2.1, ⟨hk.1.2.2.2.2.2.1, hk.1.2.2.2.2.2.2⟩⟩⟩⟩⟩⟩, hk.1.2.2.1⟩)) hg hat); have n1_ := Aside0.mk (Kd.R_after (ok := (fun k_ => (w.heap.size ≤ k_) ∧ k_ ≠ gb157 ∧ k_ ≠ gb158 ∧ k_ ≠ gb170)) (by (with_reducible repeat (first | apply Kd.R_alloc | apply Kd.R_drewN | apply Kd.R_drew)); exact Kd.R_mono HO_12.out (fun _ hk => ⟨⟨hk.1, ⟨hk.2.2.1, ⟨hk.2.2.2.1, hk.2.2.2.2⟩⟩⟩, hk.2.1⟩)) hg hat); have n2_ := Aside0.mk (blk_grown (g := gb157) (o := .cells #[.int .u64 t194, .int .u64 t195, .int .u64 t196, .int .u64 t197] 24 (0, 0)) (by (with_reducible repeat (first | apply blN | apply blD | apply blA)); exact BK157.out) hg (Kd.R_away HO_14.out (fun _ hk => hk.2.2.1))); have n3_ := Aside0.mk (blk_grown (g := gb158) (o := .cells #[.int .u64 y5, .int .u64 y7, .int .u64 y9, .int .u64 yb] 24 (0, 0)) (by (with_reducible repeat (first | apply blN | apply blD | apply blA)); exact BK158.out) hg (Kd.R_away HO_14.out (fun _ hk => hk.2.2.2.1))); have n4_ := Aside0.mk (blk_grown (g := gb169) (o := .cells #[.string ((rd_T40 l1 x15_3).f0), .int .u64 t189, .int .u64 t190, .int .u64 t191, .int .u64 t192, .int .i64 ((rd_T40 l1 x15_3).f2), .string ((rd_T40 l1 x15_3).f3), .string ((rd_T40 l1 x15_3).f4)] 40 (0, 0)) (by (with_reducible repeat (first | apply blN | apply blD | apply blA)); exact BK169.out) hg (Kd.R_ne HO_14.out BK169.out (by decide))); have n5_ := Aside0.mk (blk_grown (g := gb170) (o := .cells #[.int .u64 0, .int .u64 0, .int .u64 0, .int .u64 0] 24 (0, 0)) (by (with_reducible repeat (first | apply blN | apply blD | apply blA)); exact BK170.out) hg (Kd.R_away HO_14.out (fun _ hk => hk.2.2.2.2))); have n6_ := Aside0.mk (Kd.R_over' (by (with_reducible repeat (first | apply Kd.R_alloc | apply Kd.R_drewN | apply Kd.R_drew)); exact HO201.out) (Kd.R_typed (by (with_reducible repeat (first | apply Kd.R_alloc | apply Kd.R_drewN | apply Kd.R_drew)); exact HO_14.out)) (by decide) hg); have n7_ := Aside0.mk (hb); have n8_ := Aside0.mk (ho); clear HO_1; clear HO_12; clear BK157; clear BK158; clear BK169; clear BK170; clear HO201; clear HB; clear HO_14; have HO_1 := n0_; have HO_12 := n1_; have BK157 := n2_; have BK158 := n3_; have BK169 := n4_; have BK170 := n5_; have HO201 := n6_; have HB := n7_; have HO204 := n8_; clear n0_ n1_ n2_ n3_ n4_ n5_ n6_ n7_ n8_; clear ho hb hg hat))
                go_roundg kj50
                case measure => have := HK1.out; have := HK2.out; have := HK3.out; have := HJ50.out; omega
                case rel => exact ⟨(y199), (y202), (wrap64 (x15_3 + 1)), (t194), (t195), (t196), (t197), (by first | rfl | (simp; done) | (simp [*]; done)), H', ⟨by have := HK1.out; have := HK2.out; have := HK3.out; have := HJ50.out; omega⟩, ⟨by (with_reducible repeat (first | apply Kd.V_alloc | apply Kd.V_drewN | apply Kd.V_drew)); exact Kd.V_mono HO_1.out (fun _ hk => ⟨hk.1.1, ⟨hk.1.2.1, ⟨hk.1.2.2.1, ⟨hk.2, ⟨hk.1.2.2.2.1, hk.1.2.2.2.2.1⟩⟩⟩⟩⟩)⟩, ⟨by (with_reducible repeat (first | apply Kd.R_alloc | apply Kd.R_drewN | apply Kd.R_drew)); exact Kd.R_mono HO_12.out (fun _ hk => ⟨hk.1.1, ⟨hk.2, ⟨hk.1.2.1, hk.1.2.2.1⟩⟩⟩)⟩, ⟨by (with_reducible repeat (first | apply Kd.R_alloc | apply Kd.R_drewN | apply Kd.R_drew)); exact Kd.R_mono HO201.out (fun _ hk => hk.1)⟩, ⟨by (with_reducible repeat (first | apply Kd.R_alloc | apply Kd.R_drewN | apply Kd.R_drew)); exact Kd.R_mono HO204.out (fun _ hk => ⟨hk.1, ⟨hk.2.1, ⟨hk.2.2.1, hk.2.2.2.1⟩⟩⟩)⟩, ⟨by (with_reducible repeat (first | apply blN | apply blD | apply blA)); exact BK157.out⟩, ⟨by (with_reducible repeat (first | apply blN | apply blD | apply blA)); exact BK158.out⟩, ⟨by repeat (first | (with_reducible first | exact HB.out | apply below_alloc | apply pw_below_drewN | apply below_drew1 | refine below_set ?_ GE157.out | refine below_set ?_ GE158.out | refine below_set ?_ GE169.out | refine below_set ?_ GE170.out) | exact HB.out)⟩⟩
               ·rw [if_neg c96] at H
                exact absurd H (by simp)
              ·rw [if_neg c95] at H
               exact absurd H (by simp)
          ·rw [if_neg c50] at H
           exact absurd H (by simp)
         ·rw [if_neg c49] at H
          have c49b0 : decide (x15_3 < (l1.length : Int)) = false := decide_eq_false c49
          clear c49
          simp only [Option.some.injEq, Prod.mk.injEq] at H
          obtain ⟨rfl, rfl, rfl, rfl, rfl, rfl, rfl⟩ := H
          try go_wp2
          have n0_ := Aside0.mk (Kd.V_drew HO_1.out)
          have n1_ := Aside0.mk (Kd.R_drew HO_12.out)
          have n2_ := Aside0.mk (Kd.R_drew HO_13.out)
          have n3_ := Aside0.mk (Kd.R_drew HO_14.out)
          have n4_ := Aside0.mk (blk_drew BK157.out)
          have n5_ := Aside0.mk (blk_drew BK158.out)
          have n6_ := Aside0.mk (below_drew1 HB.out)
          clear HO_1
          clear HO_12
          clear HO_13
          clear HO_14
          clear BK157
          clear BK158
          clear HB
          have HO_1 := n0_
          have HO_12 := n1_
          have HO_13 := n2_
          have HO_14 := n3_
          have BK157 := n4_
          have BK158 := n5_
          have HB := n6_
          clear n0_ n1_ n2_ n3_ n4_ n5_ n6_
          refine start_ (n := 7) (S := fun w' => w'.cell? ⟨gb157, 0, none⟩ = some (.int .u64 y0) ∧ w'.cell? ⟨gb157, 1, none⟩ = some (.int .u64 y1) ∧ w'.cell? ⟨gb157, 2, none⟩ = some (.int .u64 y2) ∧ w'.cell? ⟨gb157, 3, none⟩ = some (.int .u64 y3)) (ds := []) qT43 (by kernel_rfl) rfl rfl ⟨(blk_cell BK157.out 0).trans rfl, (blk_cell BK157.out 1).trans rfl, (blk_cell BK157.out 2).trans rfl, (blk_cell BK157.out 3).trans rfl⟩ (fun hHeld => ?_)
          generalize wr.drew = w115 at HO_1 HO_12 HO_13 HO_14 BK157 BK158 HB hHeld ⊢
          refine pure_ (i := 0) (N := some 121) (v := ?_) (a' := ?_) qT44 rfl rfl (by kernel_rfl) (fun _ _ _ h => h) (Or.inl ⟨by rfl, ?_⟩) ?_ ?_
          rotate_left
          ·intro w'
           go_simp
           with_reducible rfl
          rotate_left
          ·simp only [Act.put, List.setIfInBounds_toArray, List.set_cons_zero, List.set_cons_succ, i64_w, i32_w]
           rfl
          refine pure_ (i := 1) (N := some 122) (v := ?_) (a' := ?_) qT45 rfl rfl (by kernel_rfl) (fun _ _ _ h => h) (Or.inl ⟨by rfl, ?_⟩) ?_ ?_
          rotate_left
          ·intro w'
           go_simp
           with_reducible rfl
          rotate_left
          ·simp only [Act.put, List.setIfInBounds_toArray, List.set_cons_zero, List.set_cons_succ, i64_w, i32_w]
           rfl
          refine pure_ (i := 3) (N := some 6) (v := ?_) (a' := ?_) qT46 rfl rfl (by kernel_rfl) (fun _ _ _ h => h) (Or.inl ⟨by rfl, ?_⟩) ?_ ?_
          rotate_left
          ·intro w'
           go_simp
           with_reducible rfl
          rotate_left
          ·simp only [Act.put, List.setIfInBounds_toArray, List.set_cons_zero, List.set_cons_succ, i64_w, i32_w]
           rfl
          refine pure_ (i := 4) (N := some 7) (v := ?_) (a' := ?_) qT47 rfl rfl (by kernel_rfl) (fun _ _ _ h => h) (Or.inl ⟨by rfl, ?_⟩) ?_ ?_
          rotate_left
          ·intro w'
           go_simp
           with_reducible rfl
          rotate_left
          ·simp only [Act.put, List.setIfInBounds_toArray, List.set_cons_zero, List.set_cons_succ, i64_w, i32_w]
           rfl
          refine take_ (i := 2) (N := some 123) (v := ?_) (a' := ?_) qT48 rfl rfl (by kernel_rfl) (fun _ _ _ h => h) (Or.inl ⟨by rfl, ?_⟩) hHeld ?_ ?_
          rotate_left
          ·rintro w' ⟨s0, s1, s2, s3⟩
           go_simp
           with_reducible rfl
          rotate_left
          ·simp only [Act.put, List.setIfInBounds_toArray, List.set_cons_zero, List.set_cons_succ, i64_w, i32_w]
           rfl
          refine one_ (i := 5) (N := none) qT49 rfl rfl (by kernel_rfl) (by decide) (fun K hK => ?_)
          have hs116 : w115.cell? ⟨gb158, 0, none⟩ = some (.int .u64 y5) := (blk_cell BK158.out 0).trans rfl
          have hfs116 := blk_frozen BK158.out 0
          have hns116_0 := NB157_158.out
          have hms116_0 := NB158_157.out
          have hs117 : w115.cell? ⟨gb158, 1, none⟩ = some (.int .u64 y7) := (blk_cell BK158.out 1).trans rfl
          have hfs117 := blk_frozen BK158.out 1
          have hns117_0 := NB157_158.out
          have hms117_0 := NB158_157.out
          have hs118 : w115.cell? ⟨gb158, 2, none⟩ = some (.int .u64 y9) := (blk_cell BK158.out 2).trans rfl
          have hfs118 := blk_frozen BK158.out 2
          have hns118_0 := NB157_158.out
          have hms118_0 := NB158_157.out
          have hs119 : w115.cell? ⟨gb158, 3, none⟩ = some (.int .u64 yb) := (blk_cell BK158.out 3).trans rfl
          have hfs119 := blk_frozen BK158.out 3
          have hns119_0 := NB157_158.out
          have hms119_0 := NB158_157.out
          refine skip_ (w1 := ?_) (by rfl) rfl ?_ ?_
          rotate_left
          ·go_simp
           rfl
          refine hK.out _ _ ⟨((cell_far (p := ⟨gb158, _, none⟩) NB157_158.out _).trans (((cell_far (p := ⟨gb158, _, none⟩) NB157_158.out _).trans (((cell_far (p := ⟨gb158, _, none⟩) NB157_158.out _).trans (((cell_far (p := ⟨gb158, _, none⟩) NB157_158.out _).trans (hHeld.1)))))))), ((cell_far (p := ⟨gb158, _, none⟩) NB157_158.out _).trans (((cell_far (p := ⟨gb158, _, none⟩) NB157_158.out _).trans (((cell_far (p := ⟨gb158, _, none⟩) NB157_158.out _).trans (((cell_far (p := ⟨gb158, _, none⟩) NB157_158.out _).trans (hHeld.2.1)))))))), ((cell_far (p := ⟨gb158, _, none⟩) NB157_158.out _).trans (((cell_far (p := ⟨gb158, _, none⟩) NB157_158.out _).trans (((cell_far (p := ⟨gb158, _, none⟩) NB157_158.out _).trans (((cell_far (p := ⟨gb158, _, none⟩) NB157_158.out _).trans (hHeld.2.2.1)))))))), ((cell_far (p := ⟨gb158, _, none⟩) NB157_158.out _).trans (((cell_far (p := ⟨gb158, _, none⟩) NB157_158.out _).trans (((cell_far (p := ⟨gb158, _, none⟩) NB157_158.out _).trans (((cell_far (p := ⟨gb158, _, none⟩) NB157_158.out _).trans (hHeld.2.2.2))))))))⟩ (fun hHeld => ?_)
          clear hK K
          refine pure_ (i := 6) (N := some 9) (v := ?_) (a' := ?_) qT50 rfl rfl (by kernel_rfl) (fun _ _ _ h => h) (Or.inl ⟨by rfl, ?_⟩) ?_ ?_
          rotate_left
          ·intro w'
           go_simp
           with_reducible rfl
          rotate_left
          ·simp only [Act.put, List.setIfInBounds_toArray, List.set_cons_zero, List.set_cons_succ, i64_w, i32_w]
           rfl
          refine done_ (by kernel_rfl) ?_
          try go_wp2
          refine bodyPost_ret (results_list (rs := [.tmp 6, .tmp 7, .cell 8 24, .tmp 9]) rfl (by simp) (.tmp (.tmp (.cell gb158 24 #[.int .u64 y0, .int .u64 y1, .int .u64 y2, .int .u64 y3] (0, 0) _ rfl (by (with_reducible repeat (first | apply blN | apply blD | apply blA)); refine blk_put (cs := #[.int .u64 y0, .int .u64 y1, .int .u64 y2, .int .u64 yb]) ?_ 3 _ rfl; (with_reducible repeat (first | apply blN | apply blD | apply blA)); refine blk_put (cs := #[.int .u64 y0, .int .u64 y1, .int .u64 y9, .int .u64 yb]) ?_ 2 _ rfl; (with_reducible repeat (first | apply blN | apply blD | apply blA)); refine blk_put (cs := #[.int .u64 y0, .int .u64 y7, .int .u64 y9, .int .u64 yb]) ?_ 1 _ rfl; (with_reducible repeat (first | apply blN | apply blD | apply blA)); refine blk_put (cs := #[.int .u64 y5, .int .u64 y7, .int .u64 y9, .int .u64 yb]) ?_ 0 _ rfl; (with_reducible repeat (first | apply blN | apply blD | apply blA)); exact BK158.out) Try.underlying24 rfl (by kernel_rfl) (.tmp .nil))))) rfl ?_
          exact ⟨_, _, by first | rfl | (simp [errW_none, errW_some] <;> rfl) | (simp [*, errW_none, errW_some] <;> rfl), Kd.V_mono (Kd.R_V (by (with_reducible repeat (first | apply Kd.R_alloc | apply Kd.R_drewN | apply Kd.R_drew)); exact Kd.R_mono (Kd.R_far (p := ⟨gb158, 3, none⟩) (Kd.R_far (p := ⟨gb158, 2, none⟩) (Kd.R_far (p := ⟨gb158, 1, none⟩) (Kd.R_far (p := ⟨gb158, 0, none⟩) (Kd.R_types (Kd.R_apart' HO_13.out (Kd.R_typed HO_14.out) (by decide)) BK158.out (by decide)) (fun _ hk => hk.2) (.int .u64 y0)) (fun _ hk => hk.2) (.int .u64 y1)) (fun _ hk => hk.2) (.int .u64 y2)) (fun _ hk => hk.2) (.int .u64 y3)) (fun _ hk => hk.1))) (fun k_ hk => by first | exact ⟨(.inr (hk.1)), hk.2⟩ | exact ⟨(.inr (hk.1.1)), hk.2⟩ | exact ⟨.inr hk.1.1.1, hk.2⟩ | exact (.inr (hk))), by (with_reducible repeat (first | apply Kd.R_alloc | apply Kd.R_drewN | apply Kd.R_drew)); exact Kd.R_mono (Kd.R_far (p := ⟨gb158, 3, none⟩) (Kd.R_far (p := ⟨gb158, 2, none⟩) (Kd.R_far (p := ⟨gb158, 1, none⟩) (Kd.R_far (p := ⟨gb158, 0, none⟩) (Kd.R_mono HO_14.out (fun k_ hk => (⟨hk, hk.2.2.2⟩ : _ ∧ k_ ≠ gb158))) (fun _ hk => hk.2) (.int .u64 y0)) (fun _ hk => hk.2) (.int .u64 y1)) (fun _ hk => hk.2) (.int .u64 y2)) (fun _ hk => hk.2) (.int .u64 y3)) (fun _ hk => hk.1.1), by repeat (first | (with_reducible first | exact HB.out | apply below_alloc | apply pw_below_drewN | apply below_drew1 | refine below_set ?_ GE157.out | refine below_set ?_ GE158.out) | exact HB.out)⟩

end Go.Proofs.Ytmnphdgghjdkmaa.P
