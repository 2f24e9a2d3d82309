/- A function of the program as a Lean function, and the proof that the code comes to its answers; written by a program of this session, a changed copy of the print of the kit. -/
import Derived.Test.YtmnphdgghjdkmaaP0
import Derived.Test.YtmnphdgghjdkmaaPeqA24
import Derived.Test.YtmnphdgghjdkmaaPtrucelaw17few
import Derived.Test.YtmnphdgghjdkmaaPtrucelaw17awake
import Derived.Test.YtmnphdgghjdkmaaGNumF
import Derived.Test.YtmnphdgghjdkmaaGTransfer
namespace Go.Proofs.Ytmnphdgghjdkmaa.P
open Go.RowKit Go.Proofs.YtmnphdgghjdkmaaW.PrintWords Go.Proofs.YtmnphdgghjdkmaaW.PrintLast Go.Proofs.YtmnphdgghjdkmaaW.PrintMore
attribute [local go_sem] max2_int min2_int max_two min_two max_three min_three max_four min_four   -- for this text's walks alone
set_option linter.unusedVariables false
set_option linter.unusedSimpArgs false

attribute [local go_sem high] eqA24
/-! ### trucelaw17_PayAll: function 6 -/
mutual
def trucelaw17_PayAll.l0 : Nat → List (S40) → List (S40) → Int → Int → Int → Int → Int → Int → Int → Int → Int → Int → Option (Bool)
  | 0, _, _, _, _, _, _, _, _, _, _, _, _ => none
  | k + 1, x0, x25, x26, x27, x326000, x326001, x326002, x326003, x329000, x329001, x329002, x329003 => if x27 < x26 then (if 0 ≤ x27 then (if x27 < (x25.length : Int) then ((truceref01_Add.f x329000 x329001 x329002 x329003 ((rd_T40 x25 x27).f1.f0) ((rd_T40 x25 x27).f1.f1) ((rd_T40 x25 x27).f1.f2) ((rd_T40 x25 x27).f1.f3)).bind fun bt331 => (if bt331.2.2.2.2 = true then ((trucelaw17_awake.f k).bind fun t336 => (some t336)) else (if ((rd_T40 x25 x27).f2) = 0 then (trucelaw17_PayAll.l0 k x0 x25 x26 (wrap64 (x27 + 1)) x326000 x326001 x326002 x326003 bt331.1 bt331.2.1 bt331.2.2.1 bt331.2.2.2.1) else ((trucelaw17_awake.f k).bind fun t337 => (some t337))))) else (none)) else (none)) else ((pay_Transfer.f x329000 x329001 x329002 x329003 x0 ([] : List Int)).bind fun bt338 => (if bt338.2.2.2.2.2.2 = 0 then (if (!(bt338.2.2.1 == x326000) || (!(bt338.2.2.2.1 == x326001) || (!(bt338.2.2.2.2.1 == x326002) || (!(bt338.2.2.2.2.2.1 == x326003))))) = true then (trucelaw17_PayAll.j1 k x0 bt338.1 bt338.2.1 true bt338.2.2.1 bt338.2.2.2.1 bt338.2.2.2.2.1 bt338.2.2.2.2.2.1) else (if (bt338.1.length : Int) = (x0.length : Int) then (trucelaw17_PayAll.j1 k x0 bt338.1 bt338.2.1 ((bt338.2.1.length : Int) != (x0.length : Int)) bt338.2.2.1 bt338.2.2.2.1 bt338.2.2.2.2.1 bt338.2.2.2.2.2.1) else (trucelaw17_PayAll.j1 k x0 bt338.1 bt338.2.1 true bt338.2.2.1 bt338.2.2.2.1 bt338.2.2.2.2.1 bt338.2.2.2.2.2.1))) else (trucelaw17_PayAll.j1 k x0 bt338.1 bt338.2.1 true bt338.2.2.1 bt338.2.2.2.1 bt338.2.2.2.2.1 bt338.2.2.2.2.2.1)))
def trucelaw17_PayAll.j1 : Nat → List (S40) → List (S40) → List (S24) → Bool → Int → Int → Int → Int → Option (Bool)
  | 0, _, _, _, _, _, _, _, _ => none
  | k + 1, x0, x9, x10, x74, x350000, x350001, x350002, x350003 => if x74 = true then (some false) else (trucelaw17_PayAll.l1 k x0 x9 x10 (x0.length : Int) 0 x350000 x350001 x350002 x350003)
def trucelaw17_PayAll.l1 : Nat → List (S40) → List (S40) → List (S24) → Int → Int → Int → Int → Int → Int → Option (Bool)
  | 0, _, _, _, _, _, _, _, _, _ => none
  | k + 1, x0, x9, x10, x76, x77, x350000, x350001, x350002, x350003 => if x77 < x76 then (if 0 ≤ x77 then (if x77 < (x9.length : Int) then (if (!(((rd_T40 x9 x77).f1.f0) == 0) || (!(((rd_T40 x9 x77).f1.f1) == 0) || (!(((rd_T40 x9 x77).f1.f2) == 0) || (!(((rd_T40 x9 x77).f1.f3) == 0))))) = true then (some false) else (if x77 < (x10.length : Int) then (if x77 < (x0.length : Int) then (if (!(((rd_T24 x10 x77).f0) == ((rd_T40 x0 x77).f1.f0)) || (!(((rd_T24 x10 x77).f1) == ((rd_T40 x0 x77).f1.f1)) || (!(((rd_T24 x10 x77).f2) == ((rd_T40 x0 x77).f1.f2)) || (!(((rd_T24 x10 x77).f3) == ((rd_T40 x0 x77).f1.f3)))))) = true then (some false) else (if ((rd_T40 x9 x77).f0).toList = ((rd_T40 x0 x77).f0).toList then (trucelaw17_PayAll.l1 k x0 x9 x10 x76 (wrap64 (x77 + 1)) x350000 x350001 x350002 x350003) else (some false))) else (none)) else (none))) else (none)) else (none)) else ((pay_Transfer.f x350000 x350001 x350002 x350003 x9 ([] : List Int)).bind fun bt355 => (trucelaw17_PayAll.l2 k bt355.2.2.2.2.2.2 bt355.2.1 (bt355.2.1.length : Int) 0 x350000 x350001 x350002 x350003 bt355.2.2.1 bt355.2.2.2.1 bt355.2.2.2.2.1 bt355.2.2.2.2.2.1))
def trucelaw17_PayAll.l2 : Nat → Int → List (S24) → Int → Int → Int → Int → Int → Int → Int → Int → Int → Int → Option (Bool)
  | 0, _, _, _, _, _, _, _, _, _, _, _, _ => none
  | k + 1, x17, x121, x122, x123, x350000, x350001, x350002, x350003, x367000, x367001, x367002, x367003 => if x123 < x122 then (if 0 ≤ x123 then (if x123 < (x121.length : Int) then (if (!(((rd_T24 x121 x123).f0) == 0) || (!(((rd_T24 x121 x123).f1) == 0) || (!(((rd_T24 x121 x123).f2) == 0) || (!(((rd_T24 x121 x123).f3) == 0))))) = true then (some false) else (trucelaw17_PayAll.l2 k x17 x121 x122 (wrap64 (x123 + 1)) x350000 x350001 x350002 x350003 x367000 x367001 x367002 x367003)) else (none)) else (none)) else (if x17 = 0 then (if (x367000 == x350000 && (x367001 == x350001 && (x367002 == x350002 && (x367003 == x350003)))) = true then ((trucelaw17_awake.f k).bind fun t369 => (some t369)) else (some false)) else (some false))
end
def trucelaw17_PayAll.f (k : Nat) (l0 : List (S40)) (a1_0 : Int) (a1_1 : Int) (a1_2 : Int) (a1_3 : Int) : Option (Bool) := (trucelaw17_few.f l0 ([] : List Int)).bind fun t326 => (if t326 = true then (trucelaw17_PayAll.l0 k l0 l0 (l0.length : Int) 0 a1_0 a1_1 a1_2 a1_3 a1_0 a1_1 a1_2 a1_3) else ((trucelaw17_awake.f k).bind fun t327 => (some t327)))
theorem trucelaw17_PayAll.mono_l : ∀ k, (∀ y0 y1 y2 y3 y4 y5 y6 y7 y8 y9 y10 y11, LeO (trucelaw17_PayAll.l0 k y0 y1 y2 y3 y4 y5 y6 y7 y8 y9 y10 y11) (trucelaw17_PayAll.l0 (k + 1) y0 y1 y2 y3 y4 y5 y6 y7 y8 y9 y10 y11)) ∧ (∀ y0 y1 y2 y3 y4 y5 y6 y7, LeO (trucelaw17_PayAll.j1 k y0 y1 y2 y3 y4 y5 y6 y7) (trucelaw17_PayAll.j1 (k + 1) y0 y1 y2 y3 y4 y5 y6 y7)) ∧ (∀ y0 y1 y2 y3 y4 y5 y6 y7 y8, LeO (trucelaw17_PayAll.l1 k y0 y1 y2 y3 y4 y5 y6 y7 y8) (trucelaw17_PayAll.l1 (k + 1) y0 y1 y2 y3 y4 y5 y6 y7 y8)) ∧ (∀ y0 y1 y2 y3 y4 y5 y6 y7 y8 y9 y10 y11, LeO (trucelaw17_PayAll.l2 k y0 y1 y2 y3 y4 y5 y6 y7 y8 y9 y10 y11) (trucelaw17_PayAll.l2 (k + 1) y0 y1 y2 y3 y4 y5 y6 y7 y8 y9 y10 y11))
  | 0 => ⟨fun _ _ _ _ _ _ _ _ _ _ _ _ r h => by simp [trucelaw17_PayAll.l0] at h, fun _ _ _ _ _ _ _ _ r h => by simp [trucelaw17_PayAll.j1] at h, fun _ _ _ _ _ _ _ _ _ r h => by simp [trucelaw17_PayAll.l1] at h, fun _ _ _ _ _ _ _ _ _ _ _ _ r h => by simp [trucelaw17_PayAll.l2] at h⟩
  | k + 1 => by
    obtain ⟨ih0, ih1, ih2, ih3⟩ := trucelaw17_PayAll.mono_l k
    refine ⟨?_, ?_, ?_, ?_⟩
    · intro y0 y1 y2 y3 y4 y5 y6 y7 y8 y9 y10 y11
      unfold trucelaw17_PayAll.l0
      repeat' first
      | (with_reducible exact ih0 _ _ _ _ _ _ _ _ _ _ _ _)
      | (with_reducible exact ih1 _ _ _ _ _ _ _ _)
      | (with_reducible exact ih2 _ _ _ _ _ _ _ _ _)
      | (with_reducible exact ih3 _ _ _ _ _ _ _ _ _ _ _ _)
      | (with_reducible exact trucelaw17_awake.mono _)
      | (with_reducible exact LeO.refl _)
      | (with_reducible exact LeO.none _)
      | (with_reducible refine LeO.ite ?_ ?_)
      | (with_reducible refine LeO.bind ?_ (fun _ => ?_))
      | exact ih0 _ _ _ _ _ _ _ _ _ _ _ _
      | exact ih1 _ _ _ _ _ _ _ _
      | exact ih2 _ _ _ _ _ _ _ _ _
      | exact ih3 _ _ _ _ _ _ _ _ _ _ _ _
      | exact trucelaw17_awake.mono _
      | exact LeO.none _
      | refine LeO.ite ?_ ?_
      | refine LeO.bind ?_ (fun _ => ?_)
    · intro y0 y1 y2 y3 y4 y5 y6 y7
      unfold trucelaw17_PayAll.j1
      repeat' first
      | (with_reducible exact ih0 _ _ _ _ _ _ _ _ _ _ _ _)
      | (with_reducible exact ih1 _ _ _ _ _ _ _ _)
      | (with_reducible exact ih2 _ _ _ _ _ _ _ _ _)
      | (with_reducible exact ih3 _ _ _ _ _ _ _ _ _ _ _ _)
      | (with_reducible exact trucelaw17_awake.mono _)
      | (with_reducible exact LeO.refl _)
      | (with_reducible exact LeO.none _)
      | (with_reducible refine LeO.ite ?_ ?_)
      | (with_reducible refine LeO.bind ?_ (fun _ => ?_))
      | exact ih0 _ _ _ _ _ _ _ _ _ _ _ _
      | exact ih1 _ _ _ _ _ _ _ _
      | exact ih2 _ _ _ _ _ _ _ _ _
      | exact ih3 _ _ _ _ _ _ _ _ _ _ _ _
      | exact trucelaw17_awake.mono _
      | exact LeO.none _
      | refine LeO.ite ?_ ?_
      | refine LeO.bind ?_ (fun _ => ?_)
    · intro y0 y1 y2 y3 y4 y5 y6 y7 y8
      unfold trucelaw17_PayAll.l1
      repeat' first
      | (with_reducible exact ih0 _ _ _ _ _ _ _ _ _ _ _ _)
      | (with_reducible exact ih1 _ _ _ _ _ _ _ _)
      | (with_reducible exact ih2 _ _ _ _ _ _ _ _ _)
      | (with_reducible exact ih3 _ _ _ _ _ _ _ _ _ _ _ _)
      | (with_reducible exact trucelaw17_awake.mono _)
      | (with_reducible exact LeO.refl _)
      | (with_reducible exact LeO.none _)
      | (with_reducible refine LeO.ite ?_ ?_)
      | (with_reducible refine LeO.bind ?_ (fun _ => ?_))
      | exact ih0 _ _ _ _ _ _ _ _ _ _ _ _
      | exact ih1 _ _ _ _ _ _ _ _
      | exact ih2 _ _ _ _ _ _ _ _ _
      | exact ih3 _ _ _ _ _ _ _ _ _ _ _ _
      | exact trucelaw17_awake.mono _
      | exact LeO.none _
      | refine LeO.ite ?_ ?_
      | refine LeO.bind ?_ (fun _ => ?_)
    · intro y0 y1 y2 y3 y4 y5 y6 y7 y8 y9 y10 y11
      unfold trucelaw17_PayAll.l2
      repeat' first
      | (with_reducible exact ih0 _ _ _ _ _ _ _ _ _ _ _ _)
      | (with_reducible exact ih1 _ _ _ _ _ _ _ _)
      | (with_reducible exact ih2 _ _ _ _ _ _ _ _ _)
      | (with_reducible exact ih3 _ _ _ _ _ _ _ _ _ _ _ _)
      | (with_reducible exact trucelaw17_awake.mono _)
      | (with_reducible exact LeO.refl _)
      | (with_reducible exact LeO.none _)
      | (with_reducible refine LeO.ite ?_ ?_)
      | (with_reducible refine LeO.bind ?_ (fun _ => ?_))
      | exact ih0 _ _ _ _ _ _ _ _ _ _ _ _
      | exact ih1 _ _ _ _ _ _ _ _
      | exact ih2 _ _ _ _ _ _ _ _ _
      | exact ih3 _ _ _ _ _ _ _ _ _ _ _ _
      | exact trucelaw17_awake.mono _
      | exact LeO.none _
      | refine LeO.ite ?_ ?_
      | refine LeO.bind ?_ (fun _ => ?_)
theorem trucelaw17_PayAll.mono : ∀ a0 a1 a2 a3 a4 k, LeO (trucelaw17_PayAll.f k a0 a1 a2 a3 a4) (trucelaw17_PayAll.f (k + 1) a0 a1 a2 a3 a4) := by
  intro a0 a1 a2 a3 a4 k
  obtain ⟨ih0, ih1, ih2, ih3⟩ := trucelaw17_PayAll.mono_l k
  unfold trucelaw17_PayAll.f
  repeat' first
      | (with_reducible exact ih0 _ _ _ _ _ _ _ _ _ _ _ _)
      | (with_reducible exact ih1 _ _ _ _ _ _ _ _)
      | (with_reducible exact ih2 _ _ _ _ _ _ _ _ _)
      | (with_reducible exact ih3 _ _ _ _ _ _ _ _ _ _ _ _)
      | (with_reducible exact trucelaw17_awake.mono _)
      | (with_reducible exact LeO.refl _)
      | (with_reducible exact LeO.none _)
      | (with_reducible refine LeO.ite ?_ ?_)
      | (with_reducible refine LeO.bind ?_ (fun _ => ?_))
      | exact ih0 _ _ _ _ _ _ _ _ _ _ _ _
      | exact ih1 _ _ _ _ _ _ _ _
      | exact ih2 _ _ _ _ _ _ _ _ _
      | exact ih3 _ _ _ _ _ _ _ _ _ _ _ _
      | exact trucelaw17_awake.mono _
      | exact LeO.none _
      | refine LeO.ite ?_ ?_
      | refine LeO.bind ?_ (fun _ => ?_)
set_option maxHeartbeats 8000000 in
set_option maxRecDepth 100000 in
theorem trucelaw17_PayAll.callsT (k : Nat) (A0 : Option Addr) (c0 : Nat) (l0 : List (S40)) (a1_0 : Int) (a1_1 : Int) (a1_2 : Int) (a1_3 : Int) (r : Bool) (w : World) (hr0 : Kd.C k40 w A0 l0.length l0) (hc0 : l0.length ≤ c0) (hr_ : Aside0 (r = true)) (h : trucelaw17_PayAll.f k l0 a1_0 a1_1 a1_2 a1_3 = some r) :
    Calls Try.prog 6 #[.slice A0 l0.length c0, .agg #[.int .u64 a1_0, .int .u64 a1_1, .int .u64 a1_2, .int .u64 a1_3]] w fun e w' => e = .returned (.bool r) ∧ Below w.heap.size w w' := by
  have hu24 := Try.underlying24
  have hu40 := Try.underlying40
  have HR0 := Aside0.mk hr0
  have HC0 := Aside0.mk hc0
  clear hr0 hc0
  have HB := Aside0.mk (Below.refl w.heap.size w)
  have H : ((trucelaw17_few.f l0 ([] : List Int)).bind fun t326 => (if t326 = true then (trucelaw17_PayAll.l0 k l0 l0 (l0.length : Int) 0 a1_0 a1_1 a1_2 a1_3 a1_0 a1_1 a1_2 a1_3) else ((trucelaw17_awake.f k).bind fun t327 => (some t327)))) = some r := h
  clear h
  replace H := Option.bind_eq_some_iff.mp H
  obtain ⟨t326, A30, H⟩ := H
  replace H : (if t326 = true then (trucelaw17_PayAll.l0 k l0 l0 (l0.length : Int) 0 a1_0 a1_1 a1_2 a1_3 a1_0 a1_1 a1_2 a1_3) else ((trucelaw17_awake.f k).bind fun t327 => (some t327))) = some r := H
  have A3 := Aside0.mk A30
  clear A30
  by_cases c4 : t326 = true
  · subst c4
    have H1 : (trucelaw17_PayAll.l0 k l0 l0 (l0.length : Int) 0 a1_0 a1_1 a1_2 a1_3 a1_0 a1_1 a1_2 a1_3) = some r := by rw [if_pos rfl] at H; exact H
    clear H
    have H := H1
    clear H1
    have H' := Aside0.mk H
    clear H
    go_enter Try.func6, Try.ntmps6
    go_wp2_with (first | ((with_reducible refine gate_dst (N := 3) rfl ?_); (try (refine gate_guard (by rfl) ?_; dsimp only)); refine box_event ?hg (N := 3) ?hd (cs := #[.int .u64 a1_0, .int .u64 a1_1, .int .u64 a1_2, .int .u64 a1_3]) (t := 24) ?hr ?_; (case hd => rfl); (case hg => rfl); (case hr => first | (go_simp; done) | (go_simp; rfl)); intro gb325 hg w5 hbox hb; have n0_ := Aside0.mk (below_step (by repeat (first | (with_reducible first | exact HB.out | apply below_alloc | apply pw_below_drewN | apply below_drew1) | exact HB.out)) hb); have n1_ := Aside0.mk (hbox); have n2_ := Aside0.mk ((by rw [hg]; exact (below_size (by repeat (first | (with_reducible first | exact HB.out | apply below_alloc | apply pw_below_drewN | apply below_drew1) | exact HB.out))) : w.heap.size ≤ gb325)); have n3_ := Aside0.mk ((by rw [hg]; exact (below_size (by repeat (first | (with_reducible first | exact HB.out | apply below_alloc | apply pw_below_drewN | apply below_drew1) | exact HB.out))) : w.heap.size ≤ gb325)); clear HB; have HB := n0_; have BK325 := n1_; have GW325 := n2_; have GE325 := n3_; clear n0_ n1_ n2_ n3_; clear hb hbox hg) | (go_at_call 7; (refine (trucelaw17_few.calls _ _ l0 _ _ ([] : List Int) true _ ?side1 ?side2 ?side3 ?side4 A3.out).mono ?_); (case side1 => repeat (first | exact (Kd.C_below HR0.out HB.out) | (with_reducible refine Kd.C_alloc ?_ _) | (with_reducible refine Kd.C_drewN ?_ _) | (with_reducible refine Kd.C_drew ?_))); (case side2 => exact HC0.out); (case side3 => exact Kd.C_nil _ _); (case side4 => exact Nat.le_refl _); rintro e w' ⟨rfl, ⟨nd, rfl⟩⟩; (try first | exact ⟨rfl, _, World.drewN_drewN _ _ _⟩ | exact ⟨rfl, _, Eq.trans (World.drewN_drewN _ _ _) (congrArg (World.drewN _) (Nat.add_assoc _ _ _))⟩); have hcz6_0 : w5.cell? ⟨gb325, 0, none⟩ = some (.int .u64 a1_0) := (blk_cell BK325.out 0).trans rfl; have hcz6_1 : w5.cell? ⟨gb325, 1, none⟩ = some (.int .u64 a1_1) := (blk_cell BK325.out 1).trans rfl; have hcz6_2 : w5.cell? ⟨gb325, 2, none⟩ = some (.int .u64 a1_2) := (blk_cell BK325.out 2).trans rfl; have hcz6_3 : w5.cell? ⟨gb325, 3, none⟩ = some (.int .u64 a1_3) := (blk_cell BK325.out 3).trans rfl; have hfz6_0 := blk_frozen BK325.out 0; have hfz6_1 := blk_frozen BK325.out 1; have hfz6_2 := blk_frozen BK325.out 2; have hfz6_3 := blk_frozen BK325.out 3) | ((with_reducible refine gate_dst (N := 5) rfl ?_); (try (refine gate_guard (by rfl) ?_; dsimp only)); refine box_event ?hg (N := 5) ?hd (cs := #[.int .u64 0, .int .u64 0, .int .u64 0, .int .u64 0]) (t := 24) ?hr ?_; (case hd => rfl); (case hg => rfl); (case hr => first | (go_simp; done) | (go_simp; rfl)); intro gb328 hg w7 hbox hb; have n0_ := Aside0.mk (blk_below (g := gb325) (o := .cells #[.int .u64 a1_0, .int .u64 a1_1, .int .u64 a1_2, .int .u64 a1_3] 24 (0, 0)) (by (with_reducible repeat (first | refine blk_drewN ?_ _ | refine blk_drew ?_ | refine blk_alloc ?_ _)); exact BK325.out) hb); have n1_ := Aside0.mk (below_step (by repeat (first | (with_reducible first | exact HB.out | apply below_alloc | apply pw_below_drewN | apply below_drew1 | refine below_set ?_ GE325.out) | exact HB.out)) hb); have n2_ := Aside0.mk (hbox); have n3_ := Aside0.mk ((by rw [hg]; exact (below_size (by repeat (first | (with_reducible first | exact HB.out | apply below_alloc | apply pw_below_drewN | apply below_drew1 | refine below_set ?_ GE325.out) | exact HB.out))) : w.heap.size ≤ gb328)); have n4_ := Aside0.mk ((by rw [hg]; exact (below_size (by repeat (first | (with_reducible first | exact HB.out | apply below_alloc | apply pw_below_drewN | apply below_drew1 | refine below_set ?_ GE325.out) | exact HB.out))) : w.heap.size ≤ gb328)); have n5_ := Aside0.mk ((by rw [hg]; exact Nat.ne_of_lt (blk_lt (g := gb325) (o := .cells #[.int .u64 a1_0, .int .u64 a1_1, .int .u64 a1_2, .int .u64 a1_3] 24 (0, 0)) (by (with_reducible repeat (first | refine blk_drewN ?_ _ | refine blk_drew ?_ | refine blk_alloc ?_ _)); exact BK325.out)) : gb325 ≠ gb328)); have n6_ := Aside0.mk ((by rw [hg]; exact Nat.ne_of_gt (blk_lt (g := gb325) (o := .cells #[.int .u64 a1_0, .int .u64 a1_1, .int .u64 a1_2, .int .u64 a1_3] 24 (0, 0)) (by (with_reducible repeat (first | refine blk_drewN ?_ _ | refine blk_drew ?_ | refine blk_alloc ?_ _)); exact BK325.out)) : gb328 ≠ gb325)); clear BK325; clear HB; have BK325 := n0_; have HB := n1_; have BK328 := n2_; have GW328 := n3_; have GE328 := n4_; have NB325_328 := n5_; have NB328_325 := n6_; clear n0_ n1_ n2_ n3_ n4_ n5_ n6_; clear hb hbox hg; have hnb8 := NB328_325.out; have hnc8 := NB325_328.out; have hcz9_0 : w7.cell? ⟨gb328, 0, none⟩ = some (.int .u64 0) := (blk_cell BK328.out 0).trans rfl; have hcz9_1 : w7.cell? ⟨gb328, 1, none⟩ = some (.int .u64 0) := (blk_cell BK328.out 1).trans rfl; have hcz9_2 : w7.cell? ⟨gb328, 2, none⟩ = some (.int .u64 0) := (blk_cell BK328.out 2).trans rfl; have hcz9_3 : w7.cell? ⟨gb328, 3, none⟩ = some (.int .u64 0) := (blk_cell BK328.out 3).trans rfl; have hfz9_0 := blk_frozen BK328.out 0; have hfz9_1 := blk_frozen BK328.out 1; have hfz9_2 := blk_frozen BK328.out 2; have hfz9_3 := blk_frozen BK328.out 3))
    repeat (go_quiet (fail))
    go_loopg [27] k (fun kq v27 w' => ∃ (x27_1 : Int) (x329000_1 : Int) (x329001_1 : Int) (x329002_1 : Int) (x329003_1 : Int), v27 = .int .i64 x27_1 ∧ Aside0 (trucelaw17_PayAll.l0 kq l0 l0 (l0.length : Int) x27_1 a1_0 a1_1 a1_2 a1_3 x329000_1 x329001_1 x329002_1 x329003_1 = some r) ∧ Aside0 (kq ≤ k) ∧ Aside0 (w'.heap[gb325]? = some (.cells #[.int .u64 a1_0, .int .u64 a1_1, .int .u64 a1_2, .int .u64 a1_3] 24 (0, 0))) ∧ Aside0 (w'.heap[gb328]? = some (.cells #[.int .u64 x329000_1, .int .u64 x329001_1, .int .u64 x329002_1, .int .u64 x329003_1] 24 (0, 0))) ∧ Aside0 (Below w.heap.size w w'))
    case atStart => exact ⟨(0), (a1_0), (a1_1), (a1_2), (a1_3), (by first | rfl | (simp; done) | (simp [*]; done)), H', ⟨Nat.le_refl _⟩, ⟨by (with_reducible repeat (first | refine blk_drewN ?_ _ | refine blk_drew ?_ | refine blk_alloc ?_ _)); refine blk_far ?_ NB325_328.out _; (with_reducible repeat (first | refine blk_drewN ?_ _ | refine blk_drew ?_ | refine blk_alloc ?_ _)); refine blk_far ?_ NB325_328.out _; (with_reducible repeat (first | refine blk_drewN ?_ _ | refine blk_drew ?_ | refine blk_alloc ?_ _)); refine blk_far ?_ NB325_328.out _; (with_reducible repeat (first | refine blk_drewN ?_ _ | refine blk_drew ?_ | refine blk_alloc ?_ _)); refine blk_far ?_ NB325_328.out _; (with_reducible repeat (first | refine blk_drewN ?_ _ | refine blk_drew ?_ | refine blk_alloc ?_ _)); exact BK325.out⟩, ⟨by (with_reducible repeat (first | refine blk_drewN ?_ _ | refine blk_drew ?_ | refine blk_alloc ?_ _)); refine blk_put (cs := #[.int .u64 a1_0, .int .u64 a1_1, .int .u64 a1_2, .int .u64 0]) ?_ 3 _ rfl; (with_reducible repeat (first | refine blk_drewN ?_ _ | refine blk_drew ?_ | refine blk_alloc ?_ _)); refine blk_put (cs := #[.int .u64 a1_0, .int .u64 a1_1, .int .u64 0, .int .u64 0]) ?_ 2 _ rfl; (with_reducible repeat (first | refine blk_drewN ?_ _ | refine blk_drew ?_ | refine blk_alloc ?_ _)); refine blk_put (cs := #[.int .u64 a1_0, .int .u64 0, .int .u64 0, .int .u64 0]) ?_ 1 _ rfl; (with_reducible repeat (first | refine blk_drewN ?_ _ | refine blk_drew ?_ | refine blk_alloc ?_ _)); refine blk_put (cs := #[.int .u64 0, .int .u64 0, .int .u64 0, .int .u64 0]) ?_ 0 _ rfl; (with_reducible repeat (first | refine blk_drewN ?_ _ | refine blk_drew ?_ | refine blk_alloc ?_ _)); exact BK328.out⟩, ⟨by repeat (first | (with_reducible first | exact HB.out | apply below_alloc | apply pw_below_drewN | apply below_drew1 | refine below_set ?_ GE325.out | refine below_set ?_ GE328.out) | exact HB.out)⟩⟩
    case round =>
      clear H'
      try clear p2
      try clear c4
      try clear c6
      try clear c8
      try clear hcz6_0
      try clear hcz6_1
      try clear hcz6_2
      try clear hcz6_3
      try clear hcz9_0
      try clear hcz9_1
      try clear hcz9_2
      try clear hcz9_3
      try clear hfz6_0
      try clear hfz6_1
      try clear hfz6_2
      try clear hfz6_3
      try clear hfz9_0
      try clear hfz9_1
      try clear hfz9_2
      try clear hfz9_3
      obtain ⟨x27_1, x329000_1, x329001_1, x329002_1, x329003_1, rfl, HA, HK1, BK325, BK328, HB⟩ := hrel
      cases gk with
      | zero => exact absurd HA.out (by simp [trucelaw17_PayAll.l0])
      | succ k1 =>
        have H := HA.out
        clear HA
        simp only [trucelaw17_PayAll.l0] at H
        by_cases c10 : x27_1 < (l0.length : Int)
        · rw [if_pos c10] at H
          have c10b0 : decide (x27_1 < (l0.length : Int)) = true := decide_eq_true c10
          clear c10
          by_cases c11 : 0 ≤ x27_1
          · rw [if_pos c11] at H
            have c11b0 : decide (0 ≤ x27_1) = true := decide_eq_true c11
            clear c11
            by_cases c12 : x27_1 < (l0.length : Int)
            · rw [if_pos c12] at H
              have c12b0 : decide (x27_1 < (l0.length : Int)) = true := decide_eq_true c12
              clear c12
              replace H := Option.bind_eq_some_iff.mp H
              obtain ⟨⟨t331, t332, t333, t334, t335⟩, A130, H⟩ := H
              replace H : (if t335 = true then ((trucelaw17_awake.f k1).bind fun t336 => (some t336)) else (if ((rd_T40 l0 x27_1).f2) = 0 then (trucelaw17_PayAll.l0 k1 l0 l0 (l0.length : Int) (wrap64 (x27_1 + 1)) a1_0 a1_1 a1_2 a1_3 t331 t332 t333 t334) else ((trucelaw17_awake.f k1).bind fun t337 => (some t337)))) = some r := H
              have A13 := Aside0.mk A130
              clear A130
              by_cases c14 : t335 = true
              · subst c14
                have H1 : ((trucelaw17_awake.f k1).bind fun t336 => (some t336)) = some r := by rw [if_pos rfl] at H; exact H
                clear H
                have H := H1
                clear H1
                replace H := Option.bind_eq_some_iff.mp H
                obtain ⟨t336, A150, H⟩ := H
                replace H : (some t336) = some r := H
                have A15 := Aside0.mk A150
                clear A150
                obtain rfl := Option.some.inj H
                have p329 : 0 ≤ (x27_1 : Int) := of_decide_eq_true (by first | (with_reducible assumption) | assumption)
                have q329 : x27_1 < (l0.length : Int) := of_decide_eq_true (by first | (with_reducible assumption) | assumption)
                obtain ⟨ad329, e329, hx329_0, hx329_1, hx329_2, hx329_3, hx329_4, hx329_5, hx329_6, hx329_7⟩ := at_T40 HR0.out x27_1 p329 q329
                cases e329
                replace hx329_0 := (HB.out.cell (World.block_lt_of_cell? w _ hx329_0)).trans hx329_0
                replace hx329_1 := (HB.out.cell (World.block_lt_of_cell? w _ hx329_1)).trans hx329_1
                replace hx329_2 := (HB.out.cell (World.block_lt_of_cell? w _ hx329_2)).trans hx329_2
                replace hx329_3 := (HB.out.cell (World.block_lt_of_cell? w _ hx329_3)).trans hx329_3
                replace hx329_4 := (HB.out.cell (World.block_lt_of_cell? w _ hx329_4)).trans hx329_4
                replace hx329_5 := (HB.out.cell (World.block_lt_of_cell? w _ hx329_5)).trans hx329_5
                replace hx329_6 := (HB.out.cell (World.block_lt_of_cell? w _ hx329_6)).trans hx329_6
                replace hx329_7 := (HB.out.cell (World.block_lt_of_cell? w _ hx329_7)).trans hx329_7
                replace p329 := eq_true p329
                replace q329 := eq_true q329
                go_wp2_with (first | ((with_reducible refine gate_dst (N := 7) rfl ?_); (try (refine gate_guard (by rfl) ?_; dsimp only)); refine box_event ?hg (N := 7) ?hd (cs := #[.string (⟨#[]⟩ : ByteArray), .int .u64 0, .int .u64 0, .int .u64 0, .int .u64 0, .int .i64 0, .string (⟨#[]⟩ : ByteArray), .string (⟨#[]⟩ : ByteArray)]) (t := 40) ?hr ?_; (case hd => rfl); (case hg => rfl); (case hr => first | (go_simp; done) | (go_simp; rfl)); intro gb330 hg w16 hbox hb; have n0_ := Aside0.mk (blk_below (g := gb325) (o := .cells #[.int .u64 a1_0, .int .u64 a1_1, .int .u64 a1_2, .int .u64 a1_3] 24 (0, 0)) (by (with_reducible repeat (first | refine blk_drewN ?_ _ | refine blk_drew ?_ | refine blk_alloc ?_ _)); exact BK325.out) hb); have n1_ := Aside0.mk (blk_below (g := gb328) (o := .cells #[.int .u64 x329000_1, .int .u64 x329001_1, .int .u64 x329002_1, .int .u64 x329003_1] 24 (0, 0)) (by (with_reducible repeat (first | refine blk_drewN ?_ _ | refine blk_drew ?_ | refine blk_alloc ?_ _)); exact BK328.out) hb); have n2_ := Aside0.mk (below_step (by repeat (first | (with_reducible first | exact HB.out | apply below_alloc | apply pw_below_drewN | apply below_drew1 | refine below_set ?_ GE325.out | refine below_set ?_ GE328.out) | exact HB.out)) hb); have n3_ := Aside0.mk (hbox); have n4_ := Aside0.mk ((by rw [hg]; exact (below_size (by repeat (first | (with_reducible first | exact HB.out | apply below_alloc | apply pw_below_drewN | apply below_drew1 | refine below_set ?_ GE325.out | refine below_set ?_ GE328.out) | exact HB.out))) : w.heap.size ≤ gb330)); have n5_ := Aside0.mk ((by rw [hg]; exact (below_size (by repeat (first | (with_reducible first | exact HB.out | apply below_alloc | apply pw_below_drewN | apply below_drew1 | refine below_set ?_ GE325.out | refine below_set ?_ GE328.out) | exact HB.out))) : w.heap.size ≤ gb330)); have n6_ := Aside0.mk ((by rw [hg]; exact Nat.ne_of_lt (blk_lt (g := gb325) (o := .cells #[.int .u64 a1_0, .int .u64 a1_1, .int .u64 a1_2, .int .u64 a1_3] 24 (0, 0)) (by (with_reducible repeat (first | refine blk_drewN ?_ _ | refine blk_drew ?_ | refine blk_alloc ?_ _)); exact BK325.out)) : gb325 ≠ gb330)); have n7_ := Aside0.mk ((by rw [hg]; exact Nat.ne_of_gt (blk_lt (g := gb325) (o := .cells #[.int .u64 a1_0, .int .u64 a1_1, .int .u64 a1_2, .int .u64 a1_3] 24 (0, 0)) (by (with_reducible repeat (first | refine blk_drewN ?_ _ | refine blk_drew ?_ | refine blk_alloc ?_ _)); exact BK325.out)) : gb330 ≠ gb325)); have n8_ := Aside0.mk ((by rw [hg]; exact Nat.ne_of_lt (blk_lt (g := gb328) (o := .cells #[.int .u64 x329000_1, .int .u64 x329001_1, .int .u64 x329002_1, .int .u64 x329003_1] 24 (0, 0)) (by (with_reducible repeat (first | refine blk_drewN ?_ _ | refine blk_drew ?_ | refine blk_alloc ?_ _)); exact BK328.out)) : gb328 ≠ gb330)); have n9_ := Aside0.mk ((by rw [hg]; exact Nat.ne_of_gt (blk_lt (g := gb328) (o := .cells #[.int .u64 x329000_1, .int .u64 x329001_1, .int .u64 x329002_1, .int .u64 x329003_1] 24 (0, 0)) (by (with_reducible repeat (first | refine blk_drewN ?_ _ | refine blk_drew ?_ | refine blk_alloc ?_ _)); exact BK328.out)) : gb330 ≠ gb328)); clear BK325; clear BK328; clear HB; have BK325 := n0_; have BK328 := n1_; have HB := n2_; have BK330 := n3_; have GW330 := n4_; have GE330 := n5_; have NB325_330 := n6_; have NB330_325 := n7_; have NB328_330 := n8_; have NB330_328 := n9_; clear n0_ n1_ n2_ n3_ n4_ n5_ n6_ n7_ n8_ n9_; clear hb hbox hg; have hnb17 := NB330_325.out; have hnc17 := NB325_330.out; have hnb18 := NB330_328.out; have hnc18 := NB328_330.out; have hcz19_0 : w16.cell? ⟨gb330, 0, none⟩ = some (.string (⟨#[]⟩ : ByteArray)) := (blk_cell BK330.out 0).trans rfl; have hcz19_1 : w16.cell? ⟨gb330, 1, none⟩ = some (.int .u64 0) := (blk_cell BK330.out 1).trans rfl; have hcz19_2 : w16.cell? ⟨gb330, 2, none⟩ = some (.int .u64 0) := (blk_cell BK330.out 2).trans rfl; have hcz19_3 : w16.cell? ⟨gb330, 3, none⟩ = some (.int .u64 0) := (blk_cell BK330.out 3).trans rfl; have hcz19_4 : w16.cell? ⟨gb330, 4, none⟩ = some (.int .u64 0) := (blk_cell BK330.out 4).trans rfl; have hcz19_5 : w16.cell? ⟨gb330, 5, none⟩ = some (.int .i64 0) := (blk_cell BK330.out 5).trans rfl; have hcz19_6 : w16.cell? ⟨gb330, 6, none⟩ = some (.string (⟨#[]⟩ : ByteArray)) := (blk_cell BK330.out 6).trans rfl; have hcz19_7 : w16.cell? ⟨gb330, 7, none⟩ = some (.string (⟨#[]⟩ : ByteArray)) := (blk_cell BK330.out 7).trans rfl; have hfz19_0 := blk_frozen BK330.out 0; have hfz19_1 := blk_frozen BK330.out 1; have hfz19_2 := blk_frozen BK330.out 2; have hfz19_3 := blk_frozen BK330.out 3; have hfz19_4 := blk_frozen BK330.out 4; have hfz19_5 := blk_frozen BK330.out 5; have hfz19_6 := blk_frozen BK330.out 6; have hfz19_7 := blk_frozen BK330.out 7; have hnb20 := NB328_325.out; have hnc20 := NB325_328.out; have hcz21_0 : w16.cell? ⟨gb328, 0, none⟩ = some (.int .u64 x329000_1) := (blk_cell BK328.out 0).trans rfl; have hcz21_1 : w16.cell? ⟨gb328, 1, none⟩ = some (.int .u64 x329001_1) := (blk_cell BK328.out 1).trans rfl; have hcz21_2 : w16.cell? ⟨gb328, 2, none⟩ = some (.int .u64 x329002_1) := (blk_cell BK328.out 2).trans rfl; have hcz21_3 : w16.cell? ⟨gb328, 3, none⟩ = some (.int .u64 x329003_1) := (blk_cell BK328.out 3).trans rfl; have hfz21_0 := blk_frozen BK328.out 0; have hfz21_1 := blk_frozen BK328.out 1; have hfz21_2 := blk_frozen BK328.out 2; have hfz21_3 := blk_frozen BK328.out 3) | (go_at_call 15; (with_reducible refine (truceref01_Add.calls x329000_1 x329001_1 x329002_1 x329003_1 ((rd_T40 l0 x27_1).f1.f0) ((rd_T40 l0 x27_1).f1.f1) ((rd_T40 l0 x27_1).f1.f2) ((rd_T40 l0 x27_1).f1.f3) t331 t332 t333 t334 true _ A13.out).mono ?_); rintro e w22 ⟨rfl, hb⟩; have n0_ := Aside0.mk (blk_below (g := gb325) (o := .cells #[.int .u64 a1_0, .int .u64 a1_1, .int .u64 a1_2, .int .u64 a1_3] 24 (0, 0)) (by (with_reducible repeat (first | refine blk_drewN ?_ _ | refine blk_drew ?_ | refine blk_alloc ?_ _)); refine blk_far ?_ NB325_330.out _; (with_reducible repeat (first | refine blk_drewN ?_ _ | refine blk_drew ?_ | refine blk_alloc ?_ _)); refine blk_far ?_ NB325_330.out _; (with_reducible repeat (first | refine blk_drewN ?_ _ | refine blk_drew ?_ | refine blk_alloc ?_ _)); refine blk_far ?_ NB325_330.out _; (with_reducible repeat (first | refine blk_drewN ?_ _ | refine blk_drew ?_ | refine blk_alloc ?_ _)); refine blk_far ?_ NB325_330.out _; (with_reducible repeat (first | refine blk_drewN ?_ _ | refine blk_drew ?_ | refine blk_alloc ?_ _)); refine blk_far ?_ NB325_330.out _; (with_reducible repeat (first | refine blk_drewN ?_ _ | refine blk_drew ?_ | refine blk_alloc ?_ _)); refine blk_far ?_ NB325_330.out _; (with_reducible repeat (first | refine blk_drewN ?_ _ | refine blk_drew ?_ | refine blk_alloc ?_ _)); refine blk_far ?_ NB325_330.out _; (with_reducible repeat (first | refine blk_drewN ?_ _ | refine blk_drew ?_ | refine blk_alloc ?_ _)); refine blk_far ?_ NB325_330.out _; (with_reducible repeat (first | refine blk_drewN ?_ _ | refine blk_drew ?_ | refine blk_alloc ?_ _)); exact BK325.out) hb); have n1_ := Aside0.mk (blk_below (g := gb328) (o := .cells #[.int .u64 x329000_1, .int .u64 x329001_1, .int .u64 x329002_1, .int .u64 x329003_1] 24 (0, 0)) (by (with_reducible repeat (first | refine blk_drewN ?_ _ | refine blk_drew ?_ | refine blk_alloc ?_ _)); refine blk_far ?_ NB328_330.out _; (with_reducible repeat (first | refine blk_drewN ?_ _ | refine blk_drew ?_ | refine blk_alloc ?_ _)); refine blk_far ?_ NB328_330.out _; (with_reducible repeat (first | refine blk_drewN ?_ _ | refine blk_drew ?_ | refine blk_alloc ?_ _)); refine blk_far ?_ NB328_330.out _; (with_reducible repeat (first | refine blk_drewN ?_ _ | refine blk_drew ?_ | refine blk_alloc ?_ _)); refine blk_far ?_ NB328_330.out _; (with_reducible repeat (first | refine blk_drewN ?_ _ | refine blk_drew ?_ | refine blk_alloc ?_ _)); refine blk_far ?_ NB328_330.out _; (with_reducible repeat (first | refine blk_drewN ?_ _ | refine blk_drew ?_ | refine blk_alloc ?_ _)); refine blk_far ?_ NB328_330.out _; (with_reducible repeat (first | refine blk_drewN ?_ _ | refine blk_drew ?_ | refine blk_alloc ?_ _)); refine blk_far ?_ NB328_330.out _; (with_reducible repeat (first | refine blk_drewN ?_ _ | refine blk_drew ?_ | refine blk_alloc ?_ _)); refine blk_far ?_ NB328_330.out _; (with_reducible repeat (first | refine blk_drewN ?_ _ | refine blk_drew ?_ | refine blk_alloc ?_ _)); exact BK328.out) hb); have n2_ := Aside0.mk (blk_below (g := gb330) (o := .cells #[.string ((rd_T40 l0 x27_1).f0), .int .u64 ((rd_T40 l0 x27_1).f1.f0), .int .u64 ((rd_T40 l0 x27_1).f1.f1), .int .u64 ((rd_T40 l0 x27_1).f1.f2), .int .u64 ((rd_T40 l0 x27_1).f1.f3), .int .i64 ((rd_T40 l0 x27_1).f2), .string ((rd_T40 l0 x27_1).f3), .string ((rd_T40 l0 x27_1).f4)] 40 (0, 0)) (by (with_reducible repeat (first | refine blk_drewN ?_ _ | refine blk_drew ?_ | refine blk_alloc ?_ _)); refine blk_put (cs := #[.string ((rd_T40 l0 x27_1).f0), .int .u64 ((rd_T40 l0 x27_1).f1.f0), .int .u64 ((rd_T40 l0 x27_1).f1.f1), .int .u64 ((rd_T40 l0 x27_1).f1.f2), .int .u64 ((rd_T40 l0 x27_1).f1.f3), .int .i64 ((rd_T40 l0 x27_1).f2), .string ((rd_T40 l0 x27_1).f3), .string (⟨#[]⟩ : ByteArray)]) ?_ 7 _ rfl; (with_reducible repeat (first | refine blk_drewN ?_ _ | refine blk_drew ?_ | refine blk_alloc ?_ _)); refine blk_put (cs := #[.string ((rd_T40 l0 x27_1).f0), .int .u64 ((rd_T40 l0 x27_1).f1.f0), .int .u64 ((rd_T40 l0 x27_1).f1.f1), .int .u64 ((rd_T40 l0 x27_1).f1.f2), .int .u64 ((rd_T40 l0 x27_1).f1.f3), .int .i64 ((rd_T40 l0 x27_1).f2), .string (⟨#[]⟩ : ByteArray), .string (⟨#[]⟩ : ByteArray)]) ?_ 6 _ rfl; (with_reducible repeat (first | refine blk_drewN ?_ _ | refine blk_drew ?_ | refine blk_alloc ?_ _)); refine blk_put (cs := #[.string ((rd_T40 l0 x27_1).f0), .int .u64 ((rd_T40 l0 x27_1).f1.f0), .int .u64 ((rd_T40 l0 x27_1).f1.f1), .int .u64 ((rd_T40 l0 x27_1).f1.f2), .int .u64 ((rd_T40 l0 x27_1).f1.f3), .int .i64 0, .string (⟨#[]⟩ : ByteArray), .string (⟨#[]⟩ : ByteArray)]) ?_ 5 _ rfl; (with_reducible repeat (first | refine blk_drewN ?_ _ | refine blk_drew ?_ | refine blk_alloc ?_ _)); refine blk_put (cs := #[.string ((rd_T40 l0 x27_1).f0), .int .u64 ((rd_T40 l0 x27_1).f1.f0), .int .u64 ((rd_T40 l0 x27_1).f1.f1), .int .u64 ((rd_T40 l0 x27_1).f1.f2), .int .u64 0, .int .i64 0, .string (⟨#[]⟩ : ByteArray), .string (⟨#[]⟩ : ByteArray)]) ?_ 4 _ rfl; (with_reducible repeat (first | refine blk_drewN ?_ _ | refine blk_drew ?_ | refine blk_alloc ?_ _)); refine blk_put (cs := #[.string ((rd_T40 l0 x27_1).f0), .int .u64 ((rd_T40 l0 x27_1).f1.f0), .int .u64 ((rd_T40 l0 x27_1).f1.f1), .int .u64 0, .int .u64 0, .int .i64 0, .string (⟨#[]⟩ : ByteArray), .string (⟨#[]⟩ : ByteArray)]) ?_ 3 _ rfl; (with_reducible repeat (first | refine blk_drewN ?_ _ | refine blk_drew ?_ | refine blk_alloc ?_ _)); refine blk_put (cs := #[.string ((rd_T40 l0 x27_1).f0), .int .u64 ((rd_T40 l0 x27_1).f1.f0), .int .u64 0, .int .u64 0, .int .u64 0, .int .i64 0, .string (⟨#[]⟩ : ByteArray), .string (⟨#[]⟩ : ByteArray)]) ?_ 2 _ rfl; (with_reducible repeat (first | refine blk_drewN ?_ _ | refine blk_drew ?_ | refine blk_alloc ?_ _)); refine blk_put (cs := #[.string ((rd_T40 l0 x27_1).f0), .int .u64 0, .int .u64 0, .int .u64 0, .int .u64 0, .int .i64 0, .string (⟨#[]⟩ : ByteArray), .string (⟨#[]⟩ : ByteArray)]) ?_ 1 _ rfl; (with_reducible repeat (first | refine blk_drewN ?_ _ | refine blk_drew ?_ | refine blk_alloc ?_ _)); refine blk_put (cs := #[.string (⟨#[]⟩ : ByteArray), .int .u64 0, .int .u64 0, .int .u64 0, .int .u64 0, .int .i64 0, .string (⟨#[]⟩ : ByteArray), .string (⟨#[]⟩ : ByteArray)]) ?_ 0 _ rfl; (with_reducible repeat (first | refine blk_drewN ?_ _ | refine blk_drew ?_ | refine blk_alloc ?_ _)); exact BK330.out) hb); have n3_ := Aside0.mk (below_step (by repeat (first | (with_reducible first | exact HB.out | apply below_alloc | apply pw_below_drewN | apply below_drew1 | refine below_set ?_ GE325.out | refine below_set ?_ GE328.out | refine below_set ?_ GE330.out) | exact HB.out)) hb); clear BK325; clear BK328; clear BK330; clear HB; have BK325 := n0_; have BK328 := n1_; have BK330 := n2_; have HB := n3_; clear n0_ n1_ n2_ n3_; (try clear hb); (try clear hb2); (try clear hk); (try clear hi); have hcz23_0 : w22.cell? ⟨gb328, 0, none⟩ = some (.int .u64 x329000_1) := (blk_cell BK328.out 0).trans rfl; have hcz23_1 : w22.cell? ⟨gb328, 1, none⟩ = some (.int .u64 x329001_1) := (blk_cell BK328.out 1).trans rfl; have hcz23_2 : w22.cell? ⟨gb328, 2, none⟩ = some (.int .u64 x329002_1) := (blk_cell BK328.out 2).trans rfl; have hcz23_3 : w22.cell? ⟨gb328, 3, none⟩ = some (.int .u64 x329003_1) := (blk_cell BK328.out 3).trans rfl; have hfz23_0 := blk_frozen BK328.out 0; have hfz23_1 := blk_frozen BK328.out 1; have hfz23_2 := blk_frozen BK328.out 2; have hfz23_3 := blk_frozen BK328.out 3) | (go_at_call 8; (with_reducible refine (trucelaw17_awake.calls k1  t336 _ A15.out).mono ?_); rintro e w24 ⟨rfl, hb⟩; have n0_ := Aside0.mk (blk_below (g := gb325) (o := .cells #[.int .u64 a1_0, .int .u64 a1_1, .int .u64 a1_2, .int .u64 a1_3] 24 (0, 0)) (by (with_reducible repeat (first | refine blk_drewN ?_ _ | refine blk_drew ?_ | refine blk_alloc ?_ _)); refine blk_far ?_ NB325_328.out _; (with_reducible repeat (first | refine blk_drewN ?_ _ | refine blk_drew ?_ | refine blk_alloc ?_ _)); refine blk_far ?_ NB325_328.out _; (with_reducible repeat (first | refine blk_drewN ?_ _ | refine blk_drew ?_ | refine blk_alloc ?_ _)); refine blk_far ?_ NB325_328.out _; (with_reducible repeat (first | refine blk_drewN ?_ _ | refine blk_drew ?_ | refine blk_alloc ?_ _)); refine blk_far ?_ NB325_328.out _; (with_reducible repeat (first | refine blk_drewN ?_ _ | refine blk_drew ?_ | refine blk_alloc ?_ _)); exact BK325.out) hb); have n1_ := Aside0.mk (blk_below (g := gb328) (o := .cells #[.int .u64 t331, .int .u64 t332, .int .u64 t333, .int .u64 t334] 24 (0, 0)) (by (with_reducible repeat (first | refine blk_drewN ?_ _ | refine blk_drew ?_ | refine blk_alloc ?_ _)); refine blk_put (cs := #[.int .u64 t331, .int .u64 t332, .int .u64 t333, .int .u64 x329003_1]) ?_ 3 _ rfl; (with_reducible repeat (first | refine blk_drewN ?_ _ | refine blk_drew ?_ | refine blk_alloc ?_ _)); refine blk_put (cs := #[.int .u64 t331, .int .u64 t332, .int .u64 x329002_1, .int .u64 x329003_1]) ?_ 2 _ rfl; (with_reducible repeat (first | refine blk_drewN ?_ _ | refine blk_drew ?_ | refine blk_alloc ?_ _)); refine blk_put (cs := #[.int .u64 t331, .int .u64 x329001_1, .int .u64 x329002_1, .int .u64 x329003_1]) ?_ 1 _ rfl; (with_reducible repeat (first | refine blk_drewN ?_ _ | refine blk_drew ?_ | refine blk_alloc ?_ _)); refine blk_put (cs := #[.int .u64 x329000_1, .int .u64 x329001_1, .int .u64 x329002_1, .int .u64 x329003_1]) ?_ 0 _ rfl; (with_reducible repeat (first | refine blk_drewN ?_ _ | refine blk_drew ?_ | refine blk_alloc ?_ _)); exact BK328.out) hb); have n2_ := Aside0.mk (blk_below (g := gb330) (o := .cells #[.string ((rd_T40 l0 x27_1).f0), .int .u64 ((rd_T40 l0 x27_1).f1.f0), .int .u64 ((rd_T40 l0 x27_1).f1.f1), .int .u64 ((rd_T40 l0 x27_1).f1.f2), .int .u64 ((rd_T40 l0 x27_1).f1.f3), .int .i64 ((rd_T40 l0 x27_1).f2), .string ((rd_T40 l0 x27_1).f3), .string ((rd_T40 l0 x27_1).f4)] 40 (0, 0)) (by (with_reducible repeat (first | refine blk_drewN ?_ _ | refine blk_drew ?_ | refine blk_alloc ?_ _)); refine blk_far ?_ NB330_328.out _; (with_reducible repeat (first | refine blk_drewN ?_ _ | refine blk_drew ?_ | refine blk_alloc ?_ _)); refine blk_far ?_ NB330_328.out _; (with_reducible repeat (first | refine blk_drewN ?_ _ | refine blk_drew ?_ | refine blk_alloc ?_ _)); refine blk_far ?_ NB330_328.out _; (with_reducible repeat (first | refine blk_drewN ?_ _ | refine blk_drew ?_ | refine blk_alloc ?_ _)); refine blk_far ?_ NB330_328.out _; (with_reducible repeat (first | refine blk_drewN ?_ _ | refine blk_drew ?_ | refine blk_alloc ?_ _)); exact BK330.out) hb); have n3_ := Aside0.mk (below_step (by repeat (first | (with_reducible first | exact HB.out | apply below_alloc | apply pw_below_drewN | apply below_drew1 | refine below_set ?_ GE325.out | refine below_set ?_ GE328.out | refine below_set ?_ GE330.out) | exact HB.out)) hb); clear BK325; clear BK328; clear BK330; clear HB; have BK325 := n0_; have BK328 := n1_; have BK330 := n2_; have HB := n3_; clear n0_ n1_ n2_ n3_; (try clear hb); (try clear hb2); (try clear hk); (try clear hi)))
                repeat (go_quiet (fail))
                go_ret
                exact ⟨by first | rfl | (simp [errW_none, errW_some] <;> rfl) | (simp [*, errW_none, errW_some] <;> rfl), by repeat (first | (with_reducible first | exact HB.out | apply below_alloc | apply pw_below_drewN | apply below_drew1 | refine below_set ?_ GE325.out | refine below_set ?_ GE328.out | refine below_set ?_ GE330.out) | exact HB.out)⟩
              · replace c14 := Bool.eq_false_iff.mpr c14
                subst c14
                have H1 : (if ((rd_T40 l0 x27_1).f2) = 0 then (trucelaw17_PayAll.l0 k1 l0 l0 (l0.length : Int) (wrap64 (x27_1 + 1)) a1_0 a1_1 a1_2 a1_3 t331 t332 t333 t334) else ((trucelaw17_awake.f k1).bind fun t337 => (some t337))) = some r := by rw [if_neg (show ¬ (false = true) by decide)] at H; exact H
                clear H
                have H := H1
                clear H1
                by_cases c25 : ((rd_T40 l0 x27_1).f2) = 0
                · rw [if_pos c25] at H
                  have c25b0 : (((rd_T40 l0 x27_1).f2) == 0) = true := beq_iff_eq.mpr c25
                  have c25b1 : (((rd_T40 l0 x27_1).f2) != 0) = false := bne_eq_false_iff_eq.mpr c25
                  clear c25
                  have H' := Aside0.mk H
                  clear H
                  have p329 : 0 ≤ (x27_1 : Int) := of_decide_eq_true (by first | (with_reducible assumption) | assumption)
                  have q329 : x27_1 < (l0.length : Int) := of_decide_eq_true (by first | (with_reducible assumption) | assumption)
                  obtain ⟨ad329, e329, hx329_0, hx329_1, hx329_2, hx329_3, hx329_4, hx329_5, hx329_6, hx329_7⟩ := at_T40 HR0.out x27_1 p329 q329
                  cases e329
                  replace hx329_0 := (HB.out.cell (World.block_lt_of_cell? w _ hx329_0)).trans hx329_0
                  replace hx329_1 := (HB.out.cell (World.block_lt_of_cell? w _ hx329_1)).trans hx329_1
                  replace hx329_2 := (HB.out.cell (World.block_lt_of_cell? w _ hx329_2)).trans hx329_2
                  replace hx329_3 := (HB.out.cell (World.block_lt_of_cell? w _ hx329_3)).trans hx329_3
                  replace hx329_4 := (HB.out.cell (World.block_lt_of_cell? w _ hx329_4)).trans hx329_4
                  replace hx329_5 := (HB.out.cell (World.block_lt_of_cell? w _ hx329_5)).trans hx329_5
                  replace hx329_6 := (HB.out.cell (World.block_lt_of_cell? w _ hx329_6)).trans hx329_6
                  replace hx329_7 := (HB.out.cell (World.block_lt_of_cell? w _ hx329_7)).trans hx329_7
                  replace p329 := eq_true p329
                  replace q329 := eq_true q329
                  go_wp2_with (first | ((with_reducible refine gate_dst (N := 7) rfl ?_); (try (refine gate_guard (by rfl) ?_; dsimp only)); refine box_event ?hg (N := 7) ?hd (cs := #[.string (⟨#[]⟩ : ByteArray), .int .u64 0, .int .u64 0, .int .u64 0, .int .u64 0, .int .i64 0, .string (⟨#[]⟩ : ByteArray), .string (⟨#[]⟩ : ByteArray)]) (t := 40) ?hr ?_; (case hd => rfl); (case hg => rfl); (case hr => first | (go_simp; done) | (go_simp; rfl)); intro gb330 hg w26 hbox hb; have n0_ := Aside0.mk (blk_below (g := gb325) (o := .cells #[.int .u64 a1_0, .int .u64 a1_1, .int .u64 a1_2, .int .u64 a1_3] 24 (0, 0)) (by (with_reducible repeat (first | refine blk_drewN ?_ _ | refine blk_drew ?_ | refine blk_alloc ?_ _)); exact BK325.out) hb); have n1_ := Aside0.mk (blk_below (g := gb328) (o := .cells #[.int .u64 x329000_1, .int .u64 x329001_1, .int .u64 x329002_1, .int .u64 x329003_1] 24 (0, 0)) (by (with_reducible repeat (first | refine blk_drewN ?_ _ | refine blk_drew ?_ | refine blk_alloc ?_ _)); exact BK328.out) hb); have n2_ := Aside0.mk (below_step (by repeat (first | (with_reducible first | exact HB.out | apply below_alloc | apply pw_below_drewN | apply below_drew1 | refine below_set ?_ GE325.out | refine below_set ?_ GE328.out) | exact HB.out)) hb); have n3_ := Aside0.mk (hbox); have n4_ := Aside0.mk ((by rw [hg]; exact (below_size (by repeat (first | (with_reducible first | exact HB.out | apply below_alloc | apply pw_below_drewN | apply below_drew1 | refine below_set ?_ GE325.out | refine below_set ?_ GE328.out) | exact HB.out))) : w.heap.size ≤ gb330)); have n5_ := Aside0.mk ((by rw [hg]; exact (below_size (by repeat (first | (with_reducible first | exact HB.out | apply below_alloc | apply pw_below_drewN | apply below_drew1 | refine below_set ?_ GE325.out | refine below_set ?_ GE328.out) | exact HB.out))) : w.heap.size ≤ gb330)); have n6_ := Aside0.mk ((by rw [hg]; exact Nat.ne_of_lt (blk_lt (g := gb325) (o := .cells #[.int .u64 a1_0, .int .u64 a1_1, .int .u64 a1_2, .int .u64 a1_3] 24 (0, 0)) (by (with_reducible repeat (first | refine blk_drewN ?_ _ | refine blk_drew ?_ | refine blk_alloc ?_ _)); exact BK325.out)) : gb325 ≠ gb330)); have n7_ := Aside0.mk ((by rw [hg]; exact Nat.ne_of_gt (blk_lt (g := gb325) (o := .cells #[.int .u64 a1_0, .int .u64 a1_1, .int .u64 a1_2, .int .u64 a1_3] 24 (0, 0)) (by (with_reducible repeat (first | refine blk_drewN ?_ _ | refine blk_drew ?_ | refine blk_alloc ?_ _)); exact BK325.out)) : gb330 ≠ gb325)); have n8_ := Aside0.mk ((by rw [hg]; exact Nat.ne_of_lt (blk_lt (g := gb328) (o := .cells #[.int .u64 x329000_1, .int .u64 x329001_1, .int .u64 x329002_1, .int .u64 x329003_1] 24 (0, 0)) (by (with_reducible repeat (first | refine blk_drewN ?_ _ | refine blk_drew ?_ | refine blk_alloc ?_ _)); exact BK328.out)) : gb328 ≠ gb330)); have n9_ := Aside0.mk ((by rw [hg]; exact Nat.ne_of_gt (blk_lt (g := gb328) (o := .cells #[.int .u64 x329000_1, .int .u64 x329001_1, .int .u64 x329002_1, .int .u64 x329003_1] 24 (0, 0)) (by (with_reducible repeat (first | refine blk_drewN ?_ _ | refine blk_drew ?_ | refine blk_alloc ?_ _)); exact BK328.out)) : gb330 ≠ gb328)); clear BK325; clear BK328; clear HB; have BK325 := n0_; have BK328 := n1_; have HB := n2_; have BK330 := n3_; have GW330 := n4_; have GE330 := n5_; have NB325_330 := n6_; have NB330_325 := n7_; have NB328_330 := n8_; have NB330_328 := n9_; clear n0_ n1_ n2_ n3_ n4_ n5_ n6_ n7_ n8_ n9_; clear hb hbox hg; have hnb27 := NB330_325.out; have hnc27 := NB325_330.out; have hnb28 := NB330_328.out; have hnc28 := NB328_330.out; have hcz29_0 : w26.cell? ⟨gb330, 0, none⟩ = some (.string (⟨#[]⟩ : ByteArray)) := (blk_cell BK330.out 0).trans rfl; have hcz29_1 : w26.cell? ⟨gb330, 1, none⟩ = some (.int .u64 0) := (blk_cell BK330.out 1).trans rfl; have hcz29_2 : w26.cell? ⟨gb330, 2, none⟩ = some (.int .u64 0) := (blk_cell BK330.out 2).trans rfl; have hcz29_3 : w26.cell? ⟨gb330, 3, none⟩ = some (.int .u64 0) := (blk_cell BK330.out 3).trans rfl; have hcz29_4 : w26.cell? ⟨gb330, 4, none⟩ = some (.int .u64 0) := (blk_cell BK330.out 4).trans rfl; have hcz29_5 : w26.cell? ⟨gb330, 5, none⟩ = some (.int .i64 0) := (blk_cell BK330.out 5).trans rfl; have hcz29_6 : w26.cell? ⟨gb330, 6, none⟩ = some (.string (⟨#[]⟩ : ByteArray)) := (blk_cell BK330.out 6).trans rfl; have hcz29_7 : w26.cell? ⟨gb330, 7, none⟩ = some (.string (⟨#[]⟩ : ByteArray)) := (blk_cell BK330.out 7).trans rfl; have hfz29_0 := blk_frozen BK330.out 0; have hfz29_1 := blk_frozen BK330.out 1; have hfz29_2 := blk_frozen BK330.out 2; have hfz29_3 := blk_frozen BK330.out 3; have hfz29_4 := blk_frozen BK330.out 4; have hfz29_5 := blk_frozen BK330.out 5; have hfz29_6 := blk_frozen BK330.out 6; have hfz29_7 := blk_frozen BK330.out 7; have hnb30 := NB328_325.out; have hnc30 := NB325_328.out; have hcz31_0 : w26.cell? ⟨gb328, 0, none⟩ = some (.int .u64 x329000_1) := (blk_cell BK328.out 0).trans rfl; have hcz31_1 : w26.cell? ⟨gb328, 1, none⟩ = some (.int .u64 x329001_1) := (blk_cell BK328.out 1).trans rfl; have hcz31_2 : w26.cell? ⟨gb328, 2, none⟩ = some (.int .u64 x329002_1) := (blk_cell BK328.out 2).trans rfl; have hcz31_3 : w26.cell? ⟨gb328, 3, none⟩ = some (.int .u64 x329003_1) := (blk_cell BK328.out 3).trans rfl; have hfz31_0 := blk_frozen BK328.out 0; have hfz31_1 := blk_frozen BK328.out 1; have hfz31_2 := blk_frozen BK328.out 2; have hfz31_3 := blk_frozen BK328.out 3) | (go_at_call 15; (with_reducible refine (truceref01_Add.calls x329000_1 x329001_1 x329002_1 x329003_1 ((rd_T40 l0 x27_1).f1.f0) ((rd_T40 l0 x27_1).f1.f1) ((rd_T40 l0 x27_1).f1.f2) ((rd_T40 l0 x27_1).f1.f3) t331 t332 t333 t334 false _ A13.out).mono ?_); rintro e w32 ⟨rfl, hb⟩; have n0_ := Aside0.mk (blk_below (g := gb325) (o := .cells #[.int .u64 a1_0, .int .u64 a1_1, .int .u64 a1_2, .int .u64 a1_3] 24 (0, 0)) (by (with_reducible repeat (first | refine blk_drewN ?_ _ | refine blk_drew ?_ | refine blk_alloc ?_ _)); refine blk_far ?_ NB325_330.out _; (with_reducible repeat (first | refine blk_drewN ?_ _ | refine blk_drew ?_ | refine blk_alloc ?_ _)); refine blk_far ?_ NB325_330.out _; (with_reducible repeat (first | refine blk_drewN ?_ _ | refine blk_drew ?_ | refine blk_alloc ?_ _)); refine blk_far ?_ NB325_330.out _; (with_reducible repeat (first | refine blk_drewN ?_ _ | refine blk_drew ?_ | refine blk_alloc ?_ _)); refine blk_far ?_ NB325_330.out _; (with_reducible repeat (first | refine blk_drewN ?_ _ | refine blk_drew ?_ | refine blk_alloc ?_ _)); refine blk_far ?_ NB325_330.out _; (with_reducible repeat (first | refine blk_drewN ?_ _ | refine blk_drew ?_ | refine blk_alloc ?_ _)); refine blk_far ?_ NB325_330.out _; (with_reducible repeat (first | refine blk_drewN ?_ _ | refine blk_drew ?_ | refine blk_alloc ?_ _)); refine blk_far ?_ NB325_330.out _; (with_reducible repeat (first | refine blk_drewN ?_ _ | refine blk_drew ?_ | refine blk_alloc ?_ _)); refine blk_far ?_ NB325_330.out _; (with_reducible repeat (first | refine blk_drewN ?_ _ | refine blk_drew ?_ | refine blk_alloc ?_ _)); exact BK325.out) hb); have n1_ := Aside0.mk (blk_below (g := gb328) (o := .cells #[.int .u64 x329000_1, .int .u64 x329001_1, .int .u64 x329002_1, .int .u64 x329003_1] 24 (0, 0)) (by (with_reducible repeat (first | refine blk_drewN ?_ _ | refine blk_drew ?_ | refine blk_alloc ?_ _)); refine blk_far ?_ NB328_330.out _; (with_reducible repeat (first | refine blk_drewN ?_ _ | refine blk_drew ?_ | refine blk_alloc ?_ _)); refine blk_far ?_ NB328_330.out _; (with_reducible repeat (first | refine blk_drewN ?_ _ | refine blk_drew ?_ | refine blk_alloc ?_ _)); refine blk_far ?_ NB328_330.out _; (with_reducible repeat (first | refine blk_drewN ?_ _ | refine blk_drew ?_ | refine blk_alloc ?_ _)); refine blk_far ?_ NB328_330.out _; (with_reducible repeat (first | refine blk_drewN ?_ _ | refine blk_drew ?_ | refine blk_alloc ?_ _)); refine blk_far ?_ NB328_330.out _; (with_reducible repeat (first | refine blk_drewN ?_ _ | refine blk_drew ?_ | refine blk_alloc ?_ _)); refine blk_far ?_ NB328_330.out _; (with_reducible repeat (first | refine blk_drewN ?_ _ | refine blk_drew ?_ | refine blk_alloc ?_ _)); refine blk_far ?_ NB328_330.out _; (with_reducible repeat (first | refine blk_drewN ?_ _ | refine blk_drew ?_ | refine blk_alloc ?_ _)); refine blk_far ?_ NB328_330.out _; (with_reducible repeat (first | refine blk_drewN ?_ _ | refine blk_drew ?_ | refine blk_alloc ?_ _)); exact BK328.out) hb); have n2_ := Aside0.mk (blk_below (g := gb330) (o := .cells #[.string ((rd_T40 l0 x27_1).f0), .int .u64 ((rd_T40 l0 x27_1).f1.f0), .int .u64 ((rd_T40 l0 x27_1).f1.f1), .int .u64 ((rd_T40 l0 x27_1).f1.f2), .int .u64 ((rd_T40 l0 x27_1).f1.f3), .int .i64 ((rd_T40 l0 x27_1).f2), .string ((rd_T40 l0 x27_1).f3), .string ((rd_T40 l0 x27_1).f4)] 40 (0, 0)) (by (with_reducible repeat (first | refine blk_drewN ?_ _ | refine blk_drew ?_ | refine blk_alloc ?_ _)); refine blk_put (cs := #[.string ((rd_T40 l0 x27_1).f0), .int .u64 ((rd_T40 l0 x27_1).f1.f0), .int .u64 ((rd_T40 l0 x27_1).f1.f1), .int .u64 ((rd_T40 l0 x27_1).f1.f2), .int .u64 ((rd_T40 l0 x27_1).f1.f3), .int .i64 ((rd_T40 l0 x27_1).f2), .string ((rd_T40 l0 x27_1).f3), .string (⟨#[]⟩ : ByteArray)]) ?_ 7 _ rfl; (with_reducible repeat (first | refine blk_drewN ?_ _ | refine blk_drew ?_ | refine blk_alloc ?_ _)); refine blk_put (cs := #[.string ((rd_T40 l0 x27_1).f0), .int .u64 ((rd_T40 l0 x27_1).f1.f0), .int .u64 ((rd_T40 l0 x27_1).f1.f1), .int .u64 ((rd_T40 l0 x27_1).f1.f2), .int .u64 ((rd_T40 l0 x27_1).f1.f3), .int .i64 ((rd_T40 l0 x27_1).f2), .string (⟨#[]⟩ : ByteArray), .string (⟨#[]⟩ : ByteArray)]) ?_ 6 _ rfl; (with_reducible repeat (first | refine blk_drewN ?_ _ | refine blk_drew ?_ | refine blk_alloc ?_ _)); refine blk_put (cs := #[.string ((rd_T40 l0 x27_1).f0), .int .u64 ((rd_T40 l0 x27_1).f1.f0), .int .u64 ((rd_T40 l0 x27_1).f1.f1), .int .u64 ((rd_T40 l0 x27_1).f1.f2), .int .u64 ((rd_T40 l0 x27_1).f1.f3), .int .i64 0, .string (⟨#[]⟩ : ByteArray), .string (⟨#[]⟩ : ByteArray)]) ?_ 5 _ rfl; (with_reducible repeat (first | refine blk_drewN ?_ _ | refine blk_drew ?_ | refine blk_alloc ?_ _)); refine blk_put (cs := #[.string ((rd_T40 l0 x27_1).f0), .int .u64 ((rd_T40 l0 x27_1).f1.f0), .int .u64 ((rd_T40 l0 x27_1).f1.f1), .int .u64 ((rd_T40 l0 x27_1).f1.f2), .int .u64 0, .int .i64 0, .string (⟨#[]⟩ : ByteArray), .string (⟨#[]⟩ : ByteArray)]) ?_ 4 _ rfl; (with_reducible repeat (first | refine blk_drewN ?_ _ | refine blk_drew ?_ | refine blk_alloc ?_ _)); refine blk_put (cs := #[.string ((rd_T40 l0 x27_1).f0), .int .u64 ((rd_T40 l0 x27_1).f1.f0), .int .u64 ((rd_T40 l0 x27_1).f1.f1), .int .u64 0, .int .u64 0, .int .i64 0, .string (⟨#[]⟩ : ByteArray), .string (⟨#[]⟩ : ByteArray)]) ?_ 3 _ rfl; (with_reducible repeat (first | refine blk_drewN ?_ _ | refine blk_drew ?_ | refine blk_alloc ?_ _)); refine blk_put (cs := #[.string ((rd_T40 l0 x27_1).f0), .int .u64 ((rd_T40 l0 x27_1).f1.f0), .int .u64 0, .int .u64 0, .int .u64 0, .int .i64 0, .string (⟨#[]⟩ : ByteArray), .string (⟨#[]⟩ : ByteArray)]) ?_ 2 _ rfl; (with_reducible repeat (first | refine blk_drewN ?_ _ | refine blk_drew ?_ | refine blk_alloc ?_ _)); refine blk_put (cs := #[.string ((rd_T40 l0 x27_1).f0), .int .u64 0, .int .u64 0, .int .u64 0, .int .u64 0, .int .i64 0, .string (⟨#[]⟩ : ByteArray), .string (⟨#[]⟩ : ByteArray)]) ?_ 1 _ rfl; (with_reducible repeat (first | refine blk_drewN ?_ _ | refine blk_drew ?_ | refine blk_alloc ?_ _)); refine blk_put (cs := #[.string (⟨#[]⟩ : ByteArray), .int .u64 0, .int .u64 0, .int .u64 0, .int .u64 0, .int .i64 0, .string (⟨#[]⟩ : ByteArray), .string (⟨#[]⟩ : ByteArray)]) ?_ 0 _ rfl; (with_reducible repeat (first | refine blk_drewN ?_ _ | refine blk_drew ?_ | refine blk_alloc ?_ _)); exact BK330.out) hb); have n3_ := Aside0.mk (below_step (by repeat (first | (with_reducible first | exact HB.out | apply below_alloc | apply pw_below_drewN | apply below_drew1 | refine below_set ?_ GE325.out | refine below_set ?_ GE328.out | refine below_set ?_ GE330.out) | exact HB.out)) hb); clear BK325; clear BK328; clear BK330; clear HB; have BK325 := n0_; have BK328 := n1_; have BK330 := n2_; have HB := n3_; clear n0_ n1_ n2_ n3_; (try clear hb); (try clear hb2); (try clear hk); (try clear hi); have hcz33_0 : w32.cell? ⟨gb328, 0, none⟩ = some (.int .u64 x329000_1) := (blk_cell BK328.out 0).trans rfl; have hcz33_1 : w32.cell? ⟨gb328, 1, none⟩ = some (.int .u64 x329001_1) := (blk_cell BK328.out 1).trans rfl; have hcz33_2 : w32.cell? ⟨gb328, 2, none⟩ = some (.int .u64 x329002_1) := (blk_cell BK328.out 2).trans rfl; have hcz33_3 : w32.cell? ⟨gb328, 3, none⟩ = some (.int .u64 x329003_1) := (blk_cell BK328.out 3).trans rfl; have hfz33_0 := blk_frozen BK328.out 0; have hfz33_1 := blk_frozen BK328.out 1; have hfz33_2 := blk_frozen BK328.out 2; have hfz33_3 := blk_frozen BK328.out 3; have hcz34_0 : w32.cell? ⟨gb330, 0, none⟩ = some (.string ((rd_T40 l0 x27_1).f0)) := (blk_cell BK330.out 0).trans rfl; have hcz34_1 : w32.cell? ⟨gb330, 1, none⟩ = some (.int .u64 ((rd_T40 l0 x27_1).f1.f0)) := (blk_cell BK330.out 1).trans rfl; have hcz34_2 : w32.cell? ⟨gb330, 2, none⟩ = some (.int .u64 ((rd_T40 l0 x27_1).f1.f1)) := (blk_cell BK330.out 2).trans rfl; have hcz34_3 : w32.cell? ⟨gb330, 3, none⟩ = some (.int .u64 ((rd_T40 l0 x27_1).f1.f2)) := (blk_cell BK330.out 3).trans rfl; have hcz34_4 : w32.cell? ⟨gb330, 4, none⟩ = some (.int .u64 ((rd_T40 l0 x27_1).f1.f3)) := (blk_cell BK330.out 4).trans rfl; have hcz34_5 : w32.cell? ⟨gb330, 5, none⟩ = some (.int .i64 ((rd_T40 l0 x27_1).f2)) := (blk_cell BK330.out 5).trans rfl; have hcz34_6 : w32.cell? ⟨gb330, 6, none⟩ = some (.string ((rd_T40 l0 x27_1).f3)) := (blk_cell BK330.out 6).trans rfl; have hcz34_7 : w32.cell? ⟨gb330, 7, none⟩ = some (.string ((rd_T40 l0 x27_1).f4)) := (blk_cell BK330.out 7).trans rfl; have hfz34_0 := blk_frozen BK330.out 0; have hfz34_1 := blk_frozen BK330.out 1; have hfz34_2 := blk_frozen BK330.out 2; have hfz34_3 := blk_frozen BK330.out 3; have hfz34_4 := blk_frozen BK330.out 4; have hfz34_5 := blk_frozen BK330.out 5; have hfz34_6 := blk_frozen BK330.out 6; have hfz34_7 := blk_frozen BK330.out 7))
                  repeat (go_quiet (fail))
                  go_roundg k1
                  case measure => have := HK1.out; omega
                  case rel => exact ⟨(wrap64 (x27_1 + 1)), (t331), (t332), (t333), (t334), (by first | rfl | (simp; done) | (simp [*]; done)), H', ⟨by have := HK1.out; omega⟩, ⟨by (with_reducible repeat (first | refine blk_drewN ?_ _ | refine blk_drew ?_ | refine blk_alloc ?_ _)); refine blk_far ?_ NB325_328.out _; (with_reducible repeat (first | refine blk_drewN ?_ _ | refine blk_drew ?_ | refine blk_alloc ?_ _)); refine blk_far ?_ NB325_328.out _; (with_reducible repeat (first | refine blk_drewN ?_ _ | refine blk_drew ?_ | refine blk_alloc ?_ _)); refine blk_far ?_ NB325_328.out _; (with_reducible repeat (first | refine blk_drewN ?_ _ | refine blk_drew ?_ | refine blk_alloc ?_ _)); refine blk_far ?_ NB325_328.out _; (with_reducible repeat (first | refine blk_drewN ?_ _ | refine blk_drew ?_ | refine blk_alloc ?_ _)); exact BK325.out⟩, ⟨by (with_reducible repeat (first | refine blk_drewN ?_ _ | refine blk_drew ?_ | refine blk_alloc ?_ _)); refine blk_put (cs := #[.int .u64 t331, .int .u64 t332, .int .u64 t333, .int .u64 x329003_1]) ?_ 3 _ rfl; (with_reducible repeat (first | refine blk_drewN ?_ _ | refine blk_drew ?_ | refine blk_alloc ?_ _)); refine blk_put (cs := #[.int .u64 t331, .int .u64 t332, .int .u64 x329002_1, .int .u64 x329003_1]) ?_ 2 _ rfl; (with_reducible repeat (first | refine blk_drewN ?_ _ | refine blk_drew ?_ | refine blk_alloc ?_ _)); refine blk_put (cs := #[.int .u64 t331, .int .u64 x329001_1, .int .u64 x329002_1, .int .u64 x329003_1]) ?_ 1 _ rfl; (with_reducible repeat (first | refine blk_drewN ?_ _ | refine blk_drew ?_ | refine blk_alloc ?_ _)); refine blk_put (cs := #[.int .u64 x329000_1, .int .u64 x329001_1, .int .u64 x329002_1, .int .u64 x329003_1]) ?_ 0 _ rfl; (with_reducible repeat (first | refine blk_drewN ?_ _ | refine blk_drew ?_ | refine blk_alloc ?_ _)); exact BK328.out⟩, ⟨by repeat (first | (with_reducible first | exact HB.out | apply below_alloc | apply pw_below_drewN | apply below_drew1 | refine below_set ?_ GE325.out | refine below_set ?_ GE328.out | refine below_set ?_ GE330.out) | exact HB.out)⟩⟩
                · rw [if_neg c25] at H
                  have c25b0 : (((rd_T40 l0 x27_1).f2) == 0) = false := beq_eq_false_iff_ne.mpr c25
                  have c25b1 : (((rd_T40 l0 x27_1).f2) != 0) = true := bne_iff_ne.mpr c25
                  replace H := Option.bind_eq_some_iff.mp H
                  obtain ⟨t337, A350, H⟩ := H
                  replace H : (some t337) = some r := H
                  have A35 := Aside0.mk A350
                  clear A350
                  obtain rfl := Option.some.inj H
                  have p329 : 0 ≤ (x27_1 : Int) := of_decide_eq_true (by first | (with_reducible assumption) | assumption)
                  have q329 : x27_1 < (l0.length : Int) := of_decide_eq_true (by first | (with_reducible assumption) | assumption)
                  obtain ⟨ad329, e329, hx329_0, hx329_1, hx329_2, hx329_3, hx329_4, hx329_5, hx329_6, hx329_7⟩ := at_T40 HR0.out x27_1 p329 q329
                  cases e329
                  replace hx329_0 := (HB.out.cell (World.block_lt_of_cell? w _ hx329_0)).trans hx329_0
                  replace hx329_1 := (HB.out.cell (World.block_lt_of_cell? w _ hx329_1)).trans hx329_1
                  replace hx329_2 := (HB.out.cell (World.block_lt_of_cell? w _ hx329_2)).trans hx329_2
                  replace hx329_3 := (HB.out.cell (World.block_lt_of_cell? w _ hx329_3)).trans hx329_3
                  replace hx329_4 := (HB.out.cell (World.block_lt_of_cell? w _ hx329_4)).trans hx329_4
                  replace hx329_5 := (HB.out.cell (World.block_lt_of_cell? w _ hx329_5)).trans hx329_5
                  replace hx329_6 := (HB.out.cell (World.block_lt_of_cell? w _ hx329_6)).trans hx329_6
                  replace hx329_7 := (HB.out.cell (World.block_lt_of_cell? w _ hx329_7)).trans hx329_7
                  replace p329 := eq_true p329
                  replace q329 := eq_true q329
                  go_wp2_with (first | ((with_reducible refine gate_dst (N := 7) rfl ?_); (try (refine gate_guard (by rfl) ?_; dsimp only)); refine box_event ?hg (N := 7) ?hd (cs := #[.string (⟨#[]⟩ : ByteArray), .int .u64 0, .int .u64 0, .int .u64 0, .int .u64 0, .int .i64 0, .string (⟨#[]⟩ : ByteArray), .string (⟨#[]⟩ : ByteArray)]) (t := 40) ?hr ?_; (case hd => rfl); (case hg => rfl); (case hr => first | (go_simp; done) | (go_simp; rfl)); intro gb330 hg w36 hbox hb; have n0_ := Aside0.mk (blk_below (g := gb325) (o := .cells #[.int .u64 a1_0, .int .u64 a1_1, .int .u64 a1_2, .int .u64 a1_3] 24 (0, 0)) (by (with_reducible repeat (first | refine blk_drewN ?_ _ | refine blk_drew ?_ | refine blk_alloc ?_ _)); exact BK325.out) hb); have n1_ := Aside0.mk (blk_below (g := gb328) (o := .cells #[.int .u64 x329000_1, .int .u64 x329001_1, .int .u64 x329002_1, .int .u64 x329003_1] 24 (0, 0)) (by (with_reducible repeat (first | refine blk_drewN ?_ _ | refine blk_drew ?_ | refine blk_alloc ?_ _)); exact BK328.out) hb); have n2_ := Aside0.mk (below_step (by repeat (first | (with_reducible first | exact HB.out | apply below_alloc | apply pw_below_drewN | apply below_drew1 | refine below_set ?_ GE325.out | refine below_set ?_ GE328.out) | exact HB.out)) hb); have n3_ := Aside0.mk (hbox); have n4_ := Aside0.mk ((by rw [hg]; exact (below_size (by repeat (first | (with_reducible first | exact HB.out | apply below_alloc | apply pw_below_drewN | apply below_drew1 | refine below_set ?_ GE325.out | refine below_set ?_ GE328.out) | exact HB.out))) : w.heap.size ≤ gb330)); have n5_ := Aside0.mk ((by rw [hg]; exact (below_size (by repeat (first | (with_reducible first | exact HB.out | apply below_alloc | apply pw_below_drewN | apply below_drew1 | refine below_set ?_ GE325.out | refine below_set ?_ GE328.out) | exact HB.out))) : w.heap.size ≤ gb330)); have n6_ := Aside0.mk ((by rw [hg]; exact Nat.ne_of_lt (blk_lt (g := gb325) (o := .cells #[.int .u64 a1_0, .int .u64 a1_1, .int .u64 a1_2, .int .u64 a1_3] 24 (0, 0)) (by (with_reducible repeat (first | refine blk_drewN ?_ _ | refine blk_drew ?_ | refine blk_alloc ?_ _)); exact BK325.out)) : gb325 ≠ gb330)); have n7_ := Aside0.mk ((by rw [hg]; exact Nat.ne_of_gt (blk_lt (g := gb325) (o := .cells #[.int .u64 a1_0, .int .u64 a1_1, .int .u64 a1_2, .int .u64 a1_3] 24 (0, 0)) (by (with_reducible repeat (first | refine blk_drewN ?_ _ | refine blk_drew ?_ | refine blk_alloc ?_ _)); exact BK325.out)) : gb330 ≠ gb325)); have n8_ := Aside0.mk ((by rw [hg]; exact Nat.ne_of_lt (blk_lt (g := gb328) (o := .cells #[.int .u64 x329000_1, .int .u64 x329001_1, .int .u64 x329002_1, .int .u64 x329003_1] 24 (0, 0)) (by (with_reducible repeat (first | refine blk_drewN ?_ _ | refine blk_drew ?_ | refine blk_alloc ?_ _)); exact BK328.out)) : gb328 ≠ gb330)); have n9_ := Aside0.mk ((by rw [hg]; exact Nat.ne_of_gt (blk_lt (g := gb328) (o := .cells #[.int .u64 x329000_1, .int .u64 x329001_1, .int .u64 x329002_1, .int .u64 x329003_1] 24 (0, 0)) (by (with_reducible repeat (first | refine blk_drewN ?_ _ | refine blk_drew ?_ | refine blk_alloc ?_ _)); exact BK328.out)) : gb330 ≠ gb328)); clear BK325; clear BK328; clear HB; have BK325 := n0_; have BK328 := n1_; have HB := n2_; have BK330 := n3_; have GW330 := n4_; have GE330 := n5_; have NB325_330 := n6_; have NB330_325 := n7_; have NB328_330 := n8_; have NB330_328 := n9_; clear n0_ n1_ n2_ n3_ n4_ n5_ n6_ n7_ n8_ n9_; clear hb hbox hg; have hnb37 := NB330_325.out; have hnc37 := NB325_330.out; have hnb38 := NB330_328.out; have hnc38 := NB328_330.out; have hcz39_0 : w36.cell? ⟨gb330, 0, none⟩ = some (.string (⟨#[]⟩ : ByteArray)) := (blk_cell BK330.out 0).trans rfl; have hcz39_1 : w36.cell? ⟨gb330, 1, none⟩ = some (.int .u64 0) := (blk_cell BK330.out 1).trans rfl; have hcz39_2 : w36.cell? ⟨gb330, 2, none⟩ = some (.int .u64 0) := (blk_cell BK330.out 2).trans rfl; have hcz39_3 : w36.cell? ⟨gb330, 3, none⟩ = some (.int .u64 0) := (blk_cell BK330.out 3).trans rfl; have hcz39_4 : w36.cell? ⟨gb330, 4, none⟩ = some (.int .u64 0) := (blk_cell BK330.out 4).trans rfl; have hcz39_5 : w36.cell? ⟨gb330, 5, none⟩ = some (.int .i64 0) := (blk_cell BK330.out 5).trans rfl; have hcz39_6 : w36.cell? ⟨gb330, 6, none⟩ = some (.string (⟨#[]⟩ : ByteArray)) := (blk_cell BK330.out 6).trans rfl; have hcz39_7 : w36.cell? ⟨gb330, 7, none⟩ = some (.string (⟨#[]⟩ : ByteArray)) := (blk_cell BK330.out 7).trans rfl; have hfz39_0 := blk_frozen BK330.out 0; have hfz39_1 := blk_frozen BK330.out 1; have hfz39_2 := blk_frozen BK330.out 2; have hfz39_3 := blk_frozen BK330.out 3; have hfz39_4 := blk_frozen BK330.out 4; have hfz39_5 := blk_frozen BK330.out 5; have hfz39_6 := blk_frozen BK330.out 6; have hfz39_7 := blk_frozen BK330.out 7; have hnb40 := NB328_325.out; have hnc40 := NB325_328.out; have hcz41_0 : w36.cell? ⟨gb328, 0, none⟩ = some (.int .u64 x329000_1) := (blk_cell BK328.out 0).trans rfl; have hcz41_1 : w36.cell? ⟨gb328, 1, none⟩ = some (.int .u64 x329001_1) := (blk_cell BK328.out 1).trans rfl; have hcz41_2 : w36.cell? ⟨gb328, 2, none⟩ = some (.int .u64 x329002_1) := (blk_cell BK328.out 2).trans rfl; have hcz41_3 : w36.cell? ⟨gb328, 3, none⟩ = some (.int .u64 x329003_1) := (blk_cell BK328.out 3).trans rfl; have hfz41_0 := blk_frozen BK328.out 0; have hfz41_1 := blk_frozen BK328.out 1; have hfz41_2 := blk_frozen BK328.out 2; have hfz41_3 := blk_frozen BK328.out 3) | (go_at_call 15; (with_reducible refine (truceref01_Add.calls x329000_1 x329001_1 x329002_1 x329003_1 ((rd_T40 l0 x27_1).f1.f0) ((rd_T40 l0 x27_1).f1.f1) ((rd_T40 l0 x27_1).f1.f2) ((rd_T40 l0 x27_1).f1.f3) t331 t332 t333 t334 false _ A13.out).mono ?_); rintro e w42 ⟨rfl, hb⟩; have n0_ := Aside0.mk (blk_below (g := gb325) (o := .cells #[.int .u64 a1_0, .int .u64 a1_1, .int .u64 a1_2, .int .u64 a1_3] 24 (0, 0)) (by (with_reducible repeat (first | refine blk_drewN ?_ _ | refine blk_drew ?_ | refine blk_alloc ?_ _)); refine blk_far ?_ NB325_330.out _; (with_reducible repeat (first | refine blk_drewN ?_ _ | refine blk_drew ?_ | refine blk_alloc ?_ _)); refine blk_far ?_ NB325_330.out _; (with_reducible repeat (first | refine blk_drewN ?_ _ | refine blk_drew ?_ | refine blk_alloc ?_ _)); refine blk_far ?_ NB325_330.out _; (with_reducible repeat (first | refine blk_drewN ?_ _ | refine blk_drew ?_ | refine blk_alloc ?_ _)); refine blk_far ?_ NB325_330.out _; (with_reducible repeat (first | refine blk_drewN ?_ _ | refine blk_drew ?_ | refine blk_alloc ?_ _)); refine blk_far ?_ NB325_330.out _; (with_reducible repeat (first | refine blk_drewN ?_ _ | refine blk_drew ?_ | refine blk_alloc ?_ _)); refine blk_far ?_ NB325_330.out _; (with_reducible repeat (first | refine blk_drewN ?_ _ | refine blk_drew ?_ | refine blk_alloc ?_ _)); refine blk_far ?_ NB325_330.out _; (with_reducible repeat (first | refine blk_drewN ?_ _ | refine blk_drew ?_ | refine blk_alloc ?_ _)); refine blk_far ?_ NB325_330.out _; (with_reducible repeat (first | refine blk_drewN ?_ _ | refine blk_drew ?_ | refine blk_alloc ?_ _)); exact BK325.out) hb); have n1_ := Aside0.mk (blk_below (g := gb328) (o := .cells #[.int .u64 x329000_1, .int .u64 x329001_1, .int .u64 x329002_1, .int .u64 x329003_1] 24 (0, 0)) (by (with_reducible repeat (first | refine blk_drewN ?_ _ | refine blk_drew ?_ | refine blk_alloc ?_ _)); refine blk_far ?_ NB328_330.out _; (with_reducible repeat (first | refine blk_drewN ?_ _ | refine blk_drew ?_ | refine blk_alloc ?_ _)); refine blk_far ?_ NB328_330.out _; (with_reducible repeat (first | refine blk_drewN ?_ _ | refine blk_drew ?_ | refine blk_alloc ?_ _)); refine blk_far ?_ NB328_330.out _; (with_reducible repeat (first | refine blk_drewN ?_ _ | refine blk_drew ?_ | refine blk_alloc ?_ _)); refine blk_far ?_ NB328_330.out _; (with_reducible repeat (first | refine blk_drewN ?_ _ | refine blk_drew ?_ | refine blk_alloc ?_ _)); refine blk_far ?_ NB328_330.out _; (with_reducible repeat (first | refine blk_drewN ?_ _ | refine blk_drew ?_ | refine blk_alloc ?_ _)); refine blk_far ?_ NB328_330.out _; (with_reducible repeat (first | refine blk_drewN ?_ _ | refine blk_drew ?_ | refine blk_alloc ?_ _)); refine blk_far ?_ NB328_330.out _; (with_reducible repeat (first | refine blk_drewN ?_ _ | refine blk_drew ?_ | refine blk_alloc ?_ _)); refine blk_far ?_ NB328_330.out _; (with_reducible repeat (first | refine blk_drewN ?_ _ | refine blk_drew ?_ | refine blk_alloc ?_ _)); exact BK328.out) hb); have n2_ := Aside0.mk (blk_below (g := gb330) (o := .cells #[.string ((rd_T40 l0 x27_1).f0), .int .u64 ((rd_T40 l0 x27_1).f1.f0), .int .u64 ((rd_T40 l0 x27_1).f1.f1), .int .u64 ((rd_T40 l0 x27_1).f1.f2), .int .u64 ((rd_T40 l0 x27_1).f1.f3), .int .i64 ((rd_T40 l0 x27_1).f2), .string ((rd_T40 l0 x27_1).f3), .string ((rd_T40 l0 x27_1).f4)] 40 (0, 0)) (by (with_reducible repeat (first | refine blk_drewN ?_ _ | refine blk_drew ?_ | refine blk_alloc ?_ _)); refine blk_put (cs := #[.string ((rd_T40 l0 x27_1).f0), .int .u64 ((rd_T40 l0 x27_1).f1.f0), .int .u64 ((rd_T40 l0 x27_1).f1.f1), .int .u64 ((rd_T40 l0 x27_1).f1.f2), .int .u64 ((rd_T40 l0 x27_1).f1.f3), .int .i64 ((rd_T40 l0 x27_1).f2), .string ((rd_T40 l0 x27_1).f3), .string (⟨#[]⟩ : ByteArray)]) ?_ 7 _ rfl; (with_reducible repeat (first | refine blk_drewN ?_ _ | refine blk_drew ?_ | refine blk_alloc ?_ _)); refine blk_put (cs := #[.string ((rd_T40 l0 x27_1).f0), .int .u64 ((rd_T40 l0 x27_1).f1.f0), .int .u64 ((rd_T40 l0 x27_1).f1.f1), .int .u64 ((rd_T40 l0 x27_1).f1.f2), .int .u64 ((rd_T40 l0 x27_1).f1.f3), .int .i64 ((rd_T40 l0 x27_1).f2), .string (⟨#[]⟩ : ByteArray), .string (⟨#[]⟩ : ByteArray)]) ?_ 6 _ rfl; (with_reducible repeat (first | refine blk_drewN ?_ _ | refine blk_drew ?_ | refine blk_alloc ?_ _)); refine blk_put (cs := #[.string ((rd_T40 l0 x27_1).f0), .int .u64 ((rd_T40 l0 x27_1).f1.f0), .int .u64 ((rd_T40 l0 x27_1).f1.f1), .int .u64 ((rd_T40 l0 x27_1).f1.f2), .int .u64 ((rd_T40 l0 x27_1).f1.f3), .int .i64 0, .string (⟨#[]⟩ : ByteArray), .string (⟨#[]⟩ : ByteArray)]) ?_ 5 _ rfl; (with_reducible repeat (first | refine blk_drewN ?_ _ | refine blk_drew ?_ | refine blk_alloc ?_ _)); refine blk_put (cs := #[.string ((rd_T40 l0 x27_1).f0), .int .u64 ((rd_T40 l0 x27_1).f1.f0), .int .u64 ((rd_T40 l0 x27_1).f1.f1), .int .u64 ((rd_T40 l0 x27_1).f1.f2), .int .u64 0, .int .i64 0, .string (⟨#[]⟩ : ByteArray), .string (⟨#[]⟩ : ByteArray)]) ?_ 4 _ rfl; (with_reducible repeat (first | refine blk_drewN ?_ _ | refine blk_drew ?_ | refine blk_alloc ?_ _)); refine blk_put (cs := #[.string ((rd_T40 l0 x27_1).f0), .int .u64 ((rd_T40 l0 x27_1).f1.f0), .int .u64 ((rd_T40 l0 x27_1).f1.f1), .int .u64 0, .int .u64 0, .int .i64 0, .string (⟨#[]⟩ : ByteArray), .string (⟨#[]⟩ : ByteArray)]) ?_ 3 _ rfl; (with_reducible repeat (first | refine blk_drewN ?_ _ | refine blk_drew ?_ | refine blk_alloc ?_ _)); refine blk_put (cs := #[.string ((rd_T40 l0 x27_1).f0), .int .u64 ((rd_T40 l0 x27_1).f1.f0), .int .u64 0, .int .u64 0, .int .u64 0, .int .i64 0, .string (⟨#[]⟩ : ByteArray), .string (⟨#[]⟩ : ByteArray)]) ?_ 2 _ rfl; (with_reducible repeat (first | refine blk_drewN ?_ _ | refine blk_drew ?_ | refine blk_alloc ?_ _)); refine blk_put (cs := #[.string ((rd_T40 l0 x27_1).f0), .int .u64 0, .int .u64 0, .int .u64 0, .int .u64 0, .int .i64 0, .string (⟨#[]⟩ : ByteArray), .string (⟨#[]⟩ : ByteArray)]) ?_ 1 _ rfl; (with_reducible repeat (first | refine blk_drewN ?_ _ | refine blk_drew ?_ | refine blk_alloc ?_ _)); refine blk_put (cs := #[.string (⟨#[]⟩ : ByteArray), .int .u64 0, .int .u64 0, .int .u64 0, .int .u64 0, .int .i64 0, .string (⟨#[]⟩ : ByteArray), .string (⟨#[]⟩ : ByteArray)]) ?_ 0 _ rfl; (with_reducible repeat (first | refine blk_drewN ?_ _ | refine blk_drew ?_ | refine blk_alloc ?_ _)); exact BK330.out) hb); have n3_ := Aside0.mk (below_step (by repeat (first | (with_reducible first | exact HB.out | apply below_alloc | apply pw_below_drewN | apply below_drew1 | refine below_set ?_ GE325.out | refine below_set ?_ GE328.out | refine below_set ?_ GE330.out) | exact HB.out)) hb); clear BK325; clear BK328; clear BK330; clear HB; have BK325 := n0_; have BK328 := n1_; have BK330 := n2_; have HB := n3_; clear n0_ n1_ n2_ n3_; (try clear hb); (try clear hb2); (try clear hk); (try clear hi); have hcz43_0 : w42.cell? ⟨gb328, 0, none⟩ = some (.int .u64 x329000_1) := (blk_cell BK328.out 0).trans rfl; have hcz43_1 : w42.cell? ⟨gb328, 1, none⟩ = some (.int .u64 x329001_1) := (blk_cell BK328.out 1).trans rfl; have hcz43_2 : w42.cell? ⟨gb328, 2, none⟩ = some (.int .u64 x329002_1) := (blk_cell BK328.out 2).trans rfl; have hcz43_3 : w42.cell? ⟨gb328, 3, none⟩ = some (.int .u64 x329003_1) := (blk_cell BK328.out 3).trans rfl; have hfz43_0 := blk_frozen BK328.out 0; have hfz43_1 := blk_frozen BK328.out 1; have hfz43_2 := blk_frozen BK328.out 2; have hfz43_3 := blk_frozen BK328.out 3; have hcz44_0 : w42.cell? ⟨gb330, 0, none⟩ = some (.string ((rd_T40 l0 x27_1).f0)) := (blk_cell BK330.out 0).trans rfl; have hcz44_1 : w42.cell? ⟨gb330, 1, none⟩ = some (.int .u64 ((rd_T40 l0 x27_1).f1.f0)) := (blk_cell BK330.out 1).trans rfl; have hcz44_2 : w42.cell? ⟨gb330, 2, none⟩ = some (.int .u64 ((rd_T40 l0 x27_1).f1.f1)) := (blk_cell BK330.out 2).trans rfl; have hcz44_3 : w42.cell? ⟨gb330, 3, none⟩ = some (.int .u64 ((rd_T40 l0 x27_1).f1.f2)) := (blk_cell BK330.out 3).trans rfl; have hcz44_4 : w42.cell? ⟨gb330, 4, none⟩ = some (.int .u64 ((rd_T40 l0 x27_1).f1.f3)) := (blk_cell BK330.out 4).trans rfl; have hcz44_5 : w42.cell? ⟨gb330, 5, none⟩ = some (.int .i64 ((rd_T40 l0 x27_1).f2)) := (blk_cell BK330.out 5).trans rfl; have hcz44_6 : w42.cell? ⟨gb330, 6, none⟩ = some (.string ((rd_T40 l0 x27_1).f3)) := (blk_cell BK330.out 6).trans rfl; have hcz44_7 : w42.cell? ⟨gb330, 7, none⟩ = some (.string ((rd_T40 l0 x27_1).f4)) := (blk_cell BK330.out 7).trans rfl; have hfz44_0 := blk_frozen BK330.out 0; have hfz44_1 := blk_frozen BK330.out 1; have hfz44_2 := blk_frozen BK330.out 2; have hfz44_3 := blk_frozen BK330.out 3; have hfz44_4 := blk_frozen BK330.out 4; have hfz44_5 := blk_frozen BK330.out 5; have hfz44_6 := blk_frozen BK330.out 6; have hfz44_7 := blk_frozen BK330.out 7) | (go_at_call 8; (with_reducible refine (trucelaw17_awake.calls k1  t337 _ A35.out).mono ?_); rintro e w45 ⟨rfl, hb⟩; have n0_ := Aside0.mk (blk_below (g := gb325) (o := .cells #[.int .u64 a1_0, .int .u64 a1_1, .int .u64 a1_2, .int .u64 a1_3] 24 (0, 0)) (by (with_reducible repeat (first | refine blk_drewN ?_ _ | refine blk_drew ?_ | refine blk_alloc ?_ _)); refine blk_far ?_ NB325_328.out _; (with_reducible repeat (first | refine blk_drewN ?_ _ | refine blk_drew ?_ | refine blk_alloc ?_ _)); refine blk_far ?_ NB325_328.out _; (with_reducible repeat (first | refine blk_drewN ?_ _ | refine blk_drew ?_ | refine blk_alloc ?_ _)); refine blk_far ?_ NB325_328.out _; (with_reducible repeat (first | refine blk_drewN ?_ _ | refine blk_drew ?_ | refine blk_alloc ?_ _)); refine blk_far ?_ NB325_328.out _; (with_reducible repeat (first | refine blk_drewN ?_ _ | refine blk_drew ?_ | refine blk_alloc ?_ _)); exact BK325.out) hb); have n1_ := Aside0.mk (blk_below (g := gb328) (o := .cells #[.int .u64 t331, .int .u64 t332, .int .u64 t333, .int .u64 t334] 24 (0, 0)) (by (with_reducible repeat (first | refine blk_drewN ?_ _ | refine blk_drew ?_ | refine blk_alloc ?_ _)); refine blk_put (cs := #[.int .u64 t331, .int .u64 t332, .int .u64 t333, .int .u64 x329003_1]) ?_ 3 _ rfl; (with_reducible repeat (first | refine blk_drewN ?_ _ | refine blk_drew ?_ | refine blk_alloc ?_ _)); refine blk_put (cs := #[.int .u64 t331, .int .u64 t332, .int .u64 x329002_1, .int .u64 x329003_1]) ?_ 2 _ rfl; (with_reducible repeat (first | refine blk_drewN ?_ _ | refine blk_drew ?_ | refine blk_alloc ?_ _)); refine blk_put (cs := #[.int .u64 t331, .int .u64 x329001_1, .int .u64 x329002_1, .int .u64 x329003_1]) ?_ 1 _ rfl; (with_reducible repeat (first | refine blk_drewN ?_ _ | refine blk_drew ?_ | refine blk_alloc ?_ _)); refine blk_put (cs := #[.int .u64 x329000_1, .int .u64 x329001_1, .int .u64 x329002_1, .int .u64 x329003_1]) ?_ 0 _ rfl; (with_reducible repeat (first | refine blk_drewN ?_ _ | refine blk_drew ?_ | refine blk_alloc ?_ _)); exact BK328.out) hb); have n2_ := Aside0.mk (blk_below (g := gb330) (o := .cells #[.string ((rd_T40 l0 x27_1).f0), .int .u64 ((rd_T40 l0 x27_1).f1.f0), .int .u64 ((rd_T40 l0 x27_1).f1.f1), .int .u64 ((rd_T40 l0 x27_1).f1.f2), .int .u64 ((rd_T40 l0 x27_1).f1.f3), .int .i64 ((rd_T40 l0 x27_1).f2), .string ((rd_T40 l0 x27_1).f3), .string ((rd_T40 l0 x27_1).f4)] 40 (0, 0)) (by (with_reducible repeat (first | refine blk_drewN ?_ _ | refine blk_drew ?_ | refine blk_alloc ?_ _)); refine blk_far ?_ NB330_328.out _; (with_reducible repeat (first | refine blk_drewN ?_ _ | refine blk_drew ?_ | refine blk_alloc ?_ _)); refine blk_far ?_ NB330_328.out _; (with_reducible repeat (first | refine blk_drewN ?_ _ | refine blk_drew ?_ | refine blk_alloc ?_ _)); refine blk_far ?_ NB330_328.out _; (with_reducible repeat (first | refine blk_drewN ?_ _ | refine blk_drew ?_ | refine blk_alloc ?_ _)); refine blk_far ?_ NB330_328.out _; (with_reducible repeat (first | refine blk_drewN ?_ _ | refine blk_drew ?_ | refine blk_alloc ?_ _)); exact BK330.out) hb); have n3_ := Aside0.mk (below_step (by repeat (first | (with_reducible first | exact HB.out | apply below_alloc | apply pw_below_drewN | apply below_drew1 | refine below_set ?_ GE325.out | refine below_set ?_ GE328.out | refine below_set ?_ GE330.out) | exact HB.out)) hb); clear BK325; clear BK328; clear BK330; clear HB; have BK325 := n0_; have BK328 := n1_; have BK330 := n2_; have HB := n3_; clear n0_ n1_ n2_ n3_; (try clear hb); (try clear hb2); (try clear hk); (try clear hi)))
                  repeat (go_quiet (fail))
                  go_ret
                  exact ⟨by first | rfl | (simp [errW_none, errW_some] <;> rfl) | (simp [*, errW_none, errW_some] <;> rfl), by repeat (first | (with_reducible first | exact HB.out | apply below_alloc | apply pw_below_drewN | apply below_drew1 | refine below_set ?_ GE325.out | refine below_set ?_ GE328.out | refine below_set ?_ GE330.out) | exact HB.out)⟩
            · rw [if_neg c12] at H
              exact absurd H (by simp)
          · rw [if_neg c11] at H
            exact absurd H (by simp)
        · rw [if_neg c10] at H
          have c10b0 : decide (x27_1 < (l0.length : Int)) = false := decide_eq_false c10
          clear c10
          replace H := Option.bind_eq_some_iff.mp H
          obtain ⟨⟨t338, t341, t344, t345, t346, t347, t348⟩, A460, H⟩ := H
          replace H : (if t348 = 0 then (if (!(t344 == a1_0) || (!(t345 == a1_1) || (!(t346 == a1_2) || (!(t347 == a1_3))))) = true then (trucelaw17_PayAll.j1 k1 l0 t338 t341 true t344 t345 t346 t347) else (if (t338.length : Int) = (l0.length : Int) then (trucelaw17_PayAll.j1 k1 l0 t338 t341 ((t341.length : Int) != (l0.length : Int)) t344 t345 t346 t347) else (trucelaw17_PayAll.j1 k1 l0 t338 t341 true t344 t345 t346 t347))) else (trucelaw17_PayAll.j1 k1 l0 t338 t341 true t344 t345 t346 t347)) = some r := H
          have A46 := Aside0.mk A460
          clear A460
          have HC47 := Aside0.mk H
          clear H
          have hnb48 := NB328_325.out
          have hnc48 := NB325_328.out
          have hcz49_0 : wr.cell? ⟨gb328, 0, none⟩ = some (.int .u64 x329000_1) := (blk_cell BK328.out 0).trans rfl
          have hcz49_1 : wr.cell? ⟨gb328, 1, none⟩ = some (.int .u64 x329001_1) := (blk_cell BK328.out 1).trans rfl
          have hcz49_2 : wr.cell? ⟨gb328, 2, none⟩ = some (.int .u64 x329002_1) := (blk_cell BK328.out 2).trans rfl
          have hcz49_3 : wr.cell? ⟨gb328, 3, none⟩ = some (.int .u64 x329003_1) := (blk_cell BK328.out 3).trans rfl
          have hfz49_0 := blk_frozen BK328.out 0
          have hfz49_1 := blk_frozen BK328.out 1
          have hfz49_2 := blk_frozen BK328.out 2
          have hfz49_3 := blk_frozen BK328.out 3
          go_upto_region 13 with (first | (go_at_call 9; (refine (pay_Transfer.calls x329000_1 x329001_1 x329002_1 x329003_1 (fun k_ => k_ < w.heap.size) _ _ l0 _ _ ([] : List Int) t338 t341 t344 t345 t346 t347 t348 _ ?side1 ?side2 ?side3 A46.out).mono ?_); (case side1 => exact Kd.V_mk HC0.out (Kd.F_below (Kd.C_F k40_heap HR0.out) (by repeat (first | (with_reducible first | exact HB.out | apply below_alloc | apply pw_below_drewN | apply below_drew1 | refine below_set ?_ GE325.out | refine below_set ?_ GE328.out) | exact HB.out)))); (case side2 => exact Kd.C_nil _ _); (case side3 => exact Nat.le_refl _); rintro e w50 ⟨v339, v342, rfl, ho0, ho1, hb⟩; have n0_ := Aside0.mk (Kd.V_lower (Kd.V_mono (ok' := fun k_ => some k_ ≠ (v342 : Value).ownBlock ∧ k_ ≠ gb325 ∧ k_ ≠ gb328) ho0 (fun k_ hk_ => ⟨hk_.2, Or.elim hk_.1 (fun hs_ => fun e_ => Nat.not_le.2 hs_ (by rw [e_]; exact GW325.out)) (fun hn_ => (Kd.freshB (g := gb325) (o := .cells #[.int .u64 a1_0, .int .u64 a1_1, .int .u64 a1_2, .int .u64 a1_3] 24 (0, 0)) (by (with_reducible repeat (first | refine blk_drewN ?_ _ | refine blk_drew ?_ | refine blk_alloc ?_ _)); exact BK325.out) k_ hn_)), Or.elim hk_.1 (fun hs_ => fun e_ => Nat.not_le.2 hs_ (by rw [e_]; exact GW328.out)) (fun hn_ => (Kd.freshB (g := gb328) (o := .cells #[.int .u64 x329000_1, .int .u64 x329001_1, .int .u64 x329002_1, .int .u64 x329003_1] 24 (0, 0)) (by (with_reducible repeat (first | refine blk_drewN ?_ _ | refine blk_drew ?_ | refine blk_alloc ?_ _)); exact BK328.out) k_ hn_))⟩)) (below_size (by repeat (first | (with_reducible first | exact HB.out | apply below_alloc | apply pw_below_drewN | apply below_drew1 | refine below_set ?_ GE325.out | refine below_set ?_ GE328.out) | exact HB.out)))); have n1_ := Aside0.mk (Kd.R_lower (Kd.R_newB (Kd.R_newB (Kd.R_mono (ok' := fun k_ => True) ho1 (fun _ hk_ => trivial)) (g := gb325) (o := .cells #[.int .u64 a1_0, .int .u64 a1_1, .int .u64 a1_2, .int .u64 a1_3] 24 (0, 0)) (by (with_reducible repeat (first | refine blk_drewN ?_ _ | refine blk_drew ?_ | refine blk_alloc ?_ _)); exact BK325.out)) (g := gb328) (o := .cells #[.int .u64 x329000_1, .int .u64 x329001_1, .int .u64 x329002_1, .int .u64 x329003_1] 24 (0, 0)) (by (with_reducible repeat (first | refine blk_drewN ?_ _ | refine blk_drew ?_ | refine blk_alloc ?_ _)); exact BK328.out)) (below_size (by repeat (first | (with_reducible first | exact HB.out | apply below_alloc | apply pw_below_drewN | apply below_drew1 | refine below_set ?_ GE325.out | refine below_set ?_ GE328.out) | exact HB.out)))); have n2_ := Aside0.mk (blk_below (g := gb325) (o := .cells #[.int .u64 a1_0, .int .u64 a1_1, .int .u64 a1_2, .int .u64 a1_3] 24 (0, 0)) (by (with_reducible repeat (first | refine blk_drewN ?_ _ | refine blk_drew ?_ | refine blk_alloc ?_ _)); exact BK325.out) hb); have n3_ := Aside0.mk (blk_below (g := gb328) (o := .cells #[.int .u64 x329000_1, .int .u64 x329001_1, .int .u64 x329002_1, .int .u64 x329003_1] 24 (0, 0)) (by (with_reducible repeat (first | refine blk_drewN ?_ _ | refine blk_drew ?_ | refine blk_alloc ?_ _)); exact BK328.out) hb); have n4_ := Aside0.mk (below_step (by repeat (first | (with_reducible first | exact HB.out | apply below_alloc | apply pw_below_drewN | apply below_drew1 | refine below_set ?_ GE325.out | refine below_set ?_ GE328.out) | exact HB.out)) hb); clear BK325; clear BK328; clear HB; have HO340 := n0_; have HO343 := n1_; have BK325 := n2_; have BK328 := n3_; have HB := n4_; clear n0_ n1_ n2_ n3_ n4_; (try clear hb); (try clear hb2); (try clear hk); (try clear hi); (try clear ho0); (try clear ho1)) | ((with_reducible refine gate_dst (N := 11) rfl ?_); (try (refine gate_guard (by rfl) ?_; dsimp only)); refine box_event ?hg (N := 11) ?hd (cs := #[.int .u64 0, .int .u64 0, .int .u64 0, .int .u64 0]) (t := 24) ?hr ?_; (case hd => rfl); (case hg => rfl); (case hr => first | (go_simp; done) | (go_simp; rfl)); intro gb349 hg w51 hbox hb; have n0_ := Aside0.mk (Kd.V_below (Kd.V_elderB (by (with_reducible repeat (first | apply Kd.V_alloc | apply Kd.V_drewN | apply Kd.V_drew)); exact HO340.out) gb349 (Nat.le_of_eq hg.symm)) hb); have n1_ := Aside0.mk (Kd.R_below (Kd.R_elderB (by (with_reducible repeat (first | apply Kd.R_alloc | apply Kd.R_drewN | apply Kd.R_drew)); exact HO343.out) gb349 (Nat.le_of_eq hg.symm)) hb); have n2_ := Aside0.mk (blk_below (g := gb325) (o := .cells #[.int .u64 a1_0, .int .u64 a1_1, .int .u64 a1_2, .int .u64 a1_3] 24 (0, 0)) (by (with_reducible repeat (first | refine blk_drewN ?_ _ | refine blk_drew ?_ | refine blk_alloc ?_ _)); exact BK325.out) hb); have n3_ := Aside0.mk (blk_below (g := gb328) (o := .cells #[.int .u64 x329000_1, .int .u64 x329001_1, .int .u64 x329002_1, .int .u64 x329003_1] 24 (0, 0)) (by (with_reducible repeat (first | refine blk_drewN ?_ _ | refine blk_drew ?_ | refine blk_alloc ?_ _)); exact BK328.out) hb); have n4_ := Aside0.mk (below_step (by repeat (first | (with_reducible first | exact HB.out | apply below_alloc | apply pw_below_drewN | apply below_drew1 | refine below_set ?_ GE325.out | refine below_set ?_ GE328.out) | exact HB.out)) hb); have n5_ := Aside0.mk (hbox); have n6_ := Aside0.mk ((by rw [hg]; exact (below_size (by repeat (first | (with_reducible first | exact HB.out | apply below_alloc | apply pw_below_drewN | apply below_drew1 | refine below_set ?_ GE325.out | refine below_set ?_ GE328.out) | exact HB.out))) : w.heap.size ≤ gb349)); have n7_ := Aside0.mk ((by rw [hg]; exact (below_size (by repeat (first | (with_reducible first | exact HB.out | apply below_alloc | apply pw_below_drewN | apply below_drew1 | refine below_set ?_ GE325.out | refine below_set ?_ GE328.out) | exact HB.out))) : w.heap.size ≤ gb349)); have n8_ := Aside0.mk ((by rw [hg]; exact Nat.ne_of_lt (blk_lt (g := gb325) (o := .cells #[.int .u64 a1_0, .int .u64 a1_1, .int .u64 a1_2, .int .u64 a1_3] 24 (0, 0)) (by (with_reducible repeat (first | refine blk_drewN ?_ _ | refine blk_drew ?_ | refine blk_alloc ?_ _)); exact BK325.out)) : gb325 ≠ gb349)); have n9_ := Aside0.mk ((by rw [hg]; exact Nat.ne_of_gt (blk_lt (g := gb325) (o := .cells #[.int .u64 a1_0, .int .u64 a1_1, .int .u64 a1_2, .int .u64 a1_3] 24 (0, 0)) (by (with_reducible repeat (first | refine blk_drewN ?_ _ | refine blk_drew ?_ | refine blk_alloc ?_ _)); exact BK325.out)) : gb349 ≠ gb325)); have n10_ := Aside0.mk ((by rw [hg]; exact Nat.ne_of_lt (blk_lt (g := gb328) (o := .cells #[.int .u64 x329000_1, .int .u64 x329001_1, .int .u64 x329002_1, .int .u64 x329003_1] 24 (0, 0)) (by (with_reducible repeat (first | refine blk_drewN ?_ _ | refine blk_drew ?_ | refine blk_alloc ?_ _)); exact BK328.out)) : gb328 ≠ gb349)); have n11_ := Aside0.mk ((by rw [hg]; exact Nat.ne_of_gt (blk_lt (g := gb328) (o := .cells #[.int .u64 x329000_1, .int .u64 x329001_1, .int .u64 x329002_1, .int .u64 x329003_1] 24 (0, 0)) (by (with_reducible repeat (first | refine blk_drewN ?_ _ | refine blk_drew ?_ | refine blk_alloc ?_ _)); exact BK328.out)) : gb349 ≠ gb328)); clear HO340; clear HO343; clear BK325; clear BK328; clear HB; have HO340 := n0_; have HO343 := n1_; have BK325 := n2_; have BK328 := n3_; have HB := n4_; have BK349 := n5_; have GW349 := n6_; have GE349 := n7_; have NB325_349 := n8_; have NB349_325 := n9_; have NB328_349 := n10_; have NB349_328 := n11_; clear n0_ n1_ n2_ n3_ n4_ n5_ n6_ n7_ n8_ n9_ n10_ n11_; clear hb hbox hg; have hnb52 := NB349_325.out; have hnc52 := NB325_349.out; have hnb53 := NB349_328.out; have hnc53 := NB328_349.out; have hcz54_0 : w51.cell? ⟨gb349, 0, none⟩ = some (.int .u64 0) := (blk_cell BK349.out 0).trans rfl; have hcz54_1 : w51.cell? ⟨gb349, 1, none⟩ = some (.int .u64 0) := (blk_cell BK349.out 1).trans rfl; have hcz54_2 : w51.cell? ⟨gb349, 2, none⟩ = some (.int .u64 0) := (blk_cell BK349.out 2).trans rfl; have hcz54_3 : w51.cell? ⟨gb349, 3, none⟩ = some (.int .u64 0) := (blk_cell BK349.out 3).trans rfl; have hfz54_0 := blk_frozen BK349.out 0; have hfz54_1 := blk_frozen BK349.out 1; have hfz54_2 := blk_frozen BK349.out 2; have hfz54_3 := blk_frozen BK349.out 3))
          repeat (go_quiet (fail))
          (try simp only [Act.put, List.setIfInBounds_toArray, List.set_cons_zero, List.set_cons_succ])
          go_cut [74] (fun v74 wc => ∃ (kq : Nat) (x74_46 : Bool), v74 = .bool x74_46 ∧ Aside0 (trucelaw17_PayAll.j1 kq l0 t338 t341 x74_46 t344 t345 t346 t347 = some r) ∧ Aside0 (kq ≤ k1) ∧ Aside0 (Kd.V k40 40 wc w.heap.size (fun k_ => some k_ ≠ (v342 : Value).ownBlock ∧ k_ ≠ gb325 ∧ k_ ≠ gb328 ∧ k_ ≠ gb349) v339 t338) ∧ Aside0 (Kd.R k24 24 wc w.heap.size (fun k_ => k_ ≠ gb325 ∧ k_ ≠ gb328 ∧ k_ ≠ gb349) v342 t341) ∧ Aside0 (wc.heap[gb325]? = some (.cells #[.int .u64 a1_0, .int .u64 a1_1, .int .u64 a1_2, .int .u64 a1_3] 24 (0, 0))) ∧ Aside0 (wc.heap[gb328]? = some (.cells #[.int .u64 x329000_1, .int .u64 x329001_1, .int .u64 x329002_1, .int .u64 x329003_1] 24 (0, 0))) ∧ Aside0 (wc.heap[gb349]? = some (.cells #[.int .u64 t344, .int .u64 t345, .int .u64 t346, .int .u64 t347] 24 (0, 0))) ∧ Aside0 (Below w.heap.size w wc))
          case first =>
            have H := HC47.out
            clear HC47
            by_cases c55 : t348 = 0
            · rw [if_pos c55] at H
              have c55b0 : (t348 == 0) = true := beq_iff_eq.mpr c55
              have c55b1 : (t348 != 0) = false := bne_eq_false_iff_eq.mpr c55
              clear c55
              (first | rw [c55b0] | (simp only [i64_w, i32_w]; rw [c55b0]) | skip)
              by_cases c56 : (!(t344 == a1_0) || (!(t345 == a1_1) || (!(t346 == a1_2) || (!(t347 == a1_3))))) = true
              · rw [if_pos c56] at H
                have c56b0 : (!(t344 == a1_0) || (!(t345 == a1_1) || (!(t346 == a1_2) || (!(t347 == a1_3))))) = true := c56
                clear c56
                have H' := Aside0.mk H
                clear H
                have hnb57 := NB349_325.out
                have hnc57 := NB325_349.out
                have hnb58 := NB349_328.out
                have hnc58 := NB328_349.out
                have hcz59_0 : w51.cell? ⟨gb349, 0, none⟩ = some (.int .u64 0) := (blk_cell BK349.out 0).trans rfl
                have hcz59_1 : w51.cell? ⟨gb349, 1, none⟩ = some (.int .u64 0) := (blk_cell BK349.out 1).trans rfl
                have hcz59_2 : w51.cell? ⟨gb349, 2, none⟩ = some (.int .u64 0) := (blk_cell BK349.out 2).trans rfl
                have hcz59_3 : w51.cell? ⟨gb349, 3, none⟩ = some (.int .u64 0) := (blk_cell BK349.out 3).trans rfl
                have hfz59_0 := blk_frozen BK349.out 0
                have hfz59_1 := blk_frozen BK349.out 1
                have hfz59_2 := blk_frozen BK349.out 2
                have hfz59_3 := blk_frozen BK349.out 3
                have hnb60 := NB325_328.out
                have hnc60 := NB328_325.out
                have hcz61_0 : w51.cell? ⟨gb325, 0, none⟩ = some (.int .u64 a1_0) := (blk_cell BK325.out 0).trans rfl
                have hcz61_1 : w51.cell? ⟨gb325, 1, none⟩ = some (.int .u64 a1_1) := (blk_cell BK325.out 1).trans rfl
                have hcz61_2 : w51.cell? ⟨gb325, 2, none⟩ = some (.int .u64 a1_2) := (blk_cell BK325.out 2).trans rfl
                have hcz61_3 : w51.cell? ⟨gb325, 3, none⟩ = some (.int .u64 a1_3) := (blk_cell BK325.out 3).trans rfl
                have hfz61_0 := blk_frozen BK325.out 0
                have hfz61_1 := blk_frozen BK325.out 1
                have hfz61_2 := blk_frozen BK325.out 2
                have hfz61_3 := blk_frozen BK325.out 3
                go_wp2
                repeat (go_quiet (fail); try go_wp2)
                go_meet
                case rel => exact ⟨_, (true), (by first | rfl | (simp; done) | (simp [*]; done)), H', ⟨by have := HK1.out; first | omega | exact Nat.le_refl _⟩, ⟨by (with_reducible repeat (first | apply Kd.V_alloc | apply Kd.V_drewN | apply Kd.V_drew)); exact Kd.V_mono (Kd.V_far (p := ⟨gb349, 3, none⟩) (Kd.V_far (p := ⟨gb349, 2, none⟩) (Kd.V_far (p := ⟨gb349, 1, none⟩) (Kd.V_far (p := ⟨gb349, 0, none⟩) (Kd.V_mono HO340.out (fun k_ hk => (⟨hk, hk.2⟩ : _ ∧ k_ ≠ gb349))) (fun _ hk => hk.2) (.int .u64 t344)) (fun _ hk => hk.2) (.int .u64 t345)) (fun _ hk => hk.2) (.int .u64 t346)) (fun _ hk => hk.2) (.int .u64 t347)) (fun _ hk => ⟨hk.1.1.1, ⟨hk.1.1.2.1, ⟨hk.1.1.2.2, hk.1.2⟩⟩⟩)⟩, ⟨by (with_reducible repeat (first | apply Kd.R_alloc | apply Kd.R_drewN | apply Kd.R_drew)); exact Kd.R_mono (Kd.R_far (p := ⟨gb349, 3, none⟩) (Kd.R_far (p := ⟨gb349, 2, none⟩) (Kd.R_far (p := ⟨gb349, 1, none⟩) (Kd.R_far (p := ⟨gb349, 0, none⟩) (Kd.R_mono HO343.out (fun k_ hk => (⟨hk, hk.2⟩ : _ ∧ k_ ≠ gb349))) (fun _ hk => hk.2) (.int .u64 t344)) (fun _ hk => hk.2) (.int .u64 t345)) (fun _ hk => hk.2) (.int .u64 t346)) (fun _ hk => hk.2) (.int .u64 t347)) (fun _ hk => ⟨hk.1.1.1.2, ⟨hk.1.1.2, hk.1.2⟩⟩)⟩, ⟨by (with_reducible repeat (first | refine blk_drewN ?_ _ | refine blk_drew ?_ | refine blk_alloc ?_ _)); refine blk_far ?_ NB325_349.out _; (with_reducible repeat (first | refine blk_drewN ?_ _ | refine blk_drew ?_ | refine blk_alloc ?_ _)); refine blk_far ?_ NB325_349.out _; (with_reducible repeat (first | refine blk_drewN ?_ _ | refine blk_drew ?_ | refine blk_alloc ?_ _)); refine blk_far ?_ NB325_349.out _; (with_reducible repeat (first | refine blk_drewN ?_ _ | refine blk_drew ?_ | refine blk_alloc ?_ _)); refine blk_far ?_ NB325_349.out _; (with_reducible repeat (first | refine blk_drewN ?_ _ | refine blk_drew ?_ | refine blk_alloc ?_ _)); exact BK325.out⟩, ⟨by (with_reducible repeat (first | refine blk_drewN ?_ _ | refine blk_drew ?_ | refine blk_alloc ?_ _)); refine blk_far ?_ NB328_349.out _; (with_reducible repeat (first | refine blk_drewN ?_ _ | refine blk_drew ?_ | refine blk_alloc ?_ _)); refine blk_far ?_ NB328_349.out _; (with_reducible repeat (first | refine blk_drewN ?_ _ | refine blk_drew ?_ | refine blk_alloc ?_ _)); refine blk_far ?_ NB328_349.out _; (with_reducible repeat (first | refine blk_drewN ?_ _ | refine blk_drew ?_ | refine blk_alloc ?_ _)); refine blk_far ?_ NB328_349.out _; (with_reducible repeat (first | refine blk_drewN ?_ _ | refine blk_drew ?_ | refine blk_alloc ?_ _)); exact BK328.out⟩, ⟨by (with_reducible repeat (first | refine blk_drewN ?_ _ | refine blk_drew ?_ | refine blk_alloc ?_ _)); refine blk_put (cs := #[.int .u64 t344, .int .u64 t345, .int .u64 t346, .int .u64 0]) ?_ 3 _ rfl; (with_reducible repeat (first | refine blk_drewN ?_ _ | refine blk_drew ?_ | refine blk_alloc ?_ _)); refine blk_put (cs := #[.int .u64 t344, .int .u64 t345, .int .u64 0, .int .u64 0]) ?_ 2 _ rfl; (with_reducible repeat (first | refine blk_drewN ?_ _ | refine blk_drew ?_ | refine blk_alloc ?_ _)); refine blk_put (cs := #[.int .u64 t344, .int .u64 0, .int .u64 0, .int .u64 0]) ?_ 1 _ rfl; (with_reducible repeat (first | refine blk_drewN ?_ _ | refine blk_drew ?_ | refine blk_alloc ?_ _)); refine blk_put (cs := #[.int .u64 0, .int .u64 0, .int .u64 0, .int .u64 0]) ?_ 0 _ rfl; (with_reducible repeat (first | refine blk_drewN ?_ _ | refine blk_drew ?_ | refine blk_alloc ?_ _)); exact BK349.out⟩, ⟨by repeat (first | (with_reducible first | exact HB.out | apply below_alloc | apply pw_below_drewN | apply below_drew1 | refine below_set ?_ GE325.out | refine below_set ?_ GE328.out | refine below_set ?_ GE349.out) | exact HB.out)⟩⟩
              · rw [if_neg c56] at H
                have c56b0 : (!(t344 == a1_0) || (!(t345 == a1_1) || (!(t346 == a1_2) || (!(t347 == a1_3))))) = false := by simpa using c56
                clear c56
                by_cases c62 : (t338.length : Int) = (l0.length : Int)
                · rw [if_pos c62] at H
                  have c62b0 : ((t338.length : Int) == (l0.length : Int)) = true := beq_iff_eq.mpr c62
                  have c62b1 : ((t338.length : Int) != (l0.length : Int)) = false := bne_eq_false_iff_eq.mpr c62
                  have c62b2 : (t338.length == l0.length) = true := by first | simpa using c62 | (simp at c62 ⊢; omega)
                  clear c62
                  have H' := Aside0.mk H
                  clear H
                  have hnb63 := NB349_325.out
                  have hnc63 := NB325_349.out
                  have hnb64 := NB349_328.out
                  have hnc64 := NB328_349.out
                  have hcz65_0 : w51.cell? ⟨gb349, 0, none⟩ = some (.int .u64 0) := (blk_cell BK349.out 0).trans rfl
                  have hcz65_1 : w51.cell? ⟨gb349, 1, none⟩ = some (.int .u64 0) := (blk_cell BK349.out 1).trans rfl
                  have hcz65_2 : w51.cell? ⟨gb349, 2, none⟩ = some (.int .u64 0) := (blk_cell BK349.out 2).trans rfl
                  have hcz65_3 : w51.cell? ⟨gb349, 3, none⟩ = some (.int .u64 0) := (blk_cell BK349.out 3).trans rfl
                  have hfz65_0 := blk_frozen BK349.out 0
                  have hfz65_1 := blk_frozen BK349.out 1
                  have hfz65_2 := blk_frozen BK349.out 2
                  have hfz65_3 := blk_frozen BK349.out 3
                  have hnb66 := NB325_328.out
                  have hnc66 := NB328_325.out
                  have hcz67_0 : w51.cell? ⟨gb325, 0, none⟩ = some (.int .u64 a1_0) := (blk_cell BK325.out 0).trans rfl
                  have hcz67_1 : w51.cell? ⟨gb325, 1, none⟩ = some (.int .u64 a1_1) := (blk_cell BK325.out 1).trans rfl
                  have hcz67_2 : w51.cell? ⟨gb325, 2, none⟩ = some (.int .u64 a1_2) := (blk_cell BK325.out 2).trans rfl
                  have hcz67_3 : w51.cell? ⟨gb325, 3, none⟩ = some (.int .u64 a1_3) := (blk_cell BK325.out 3).trans rfl
                  have hfz67_0 := blk_frozen BK325.out 0
                  have hfz67_1 := blk_frozen BK325.out 1
                  have hfz67_2 := blk_frozen BK325.out 2
                  have hfz67_3 := blk_frozen BK325.out 3
                  obtain ⟨Ao68, co68, eo68⟩ := Kd.V_slice HO340.out
                  subst eo68
                  obtain ⟨Ao69, co69, eo69⟩ := Kd.R_slice HO343.out
                  subst eo69
                  go_wp2
                  repeat (go_quiet (fail); try go_wp2)
                  go_meet
                  case rel => exact ⟨_, (((t341.length : Int) != (l0.length : Int))), (by first | rfl | (simp; done) | (simp [*]; done)), H', ⟨by have := HK1.out; first | omega | exact Nat.le_refl _⟩, ⟨by (with_reducible repeat (first | apply Kd.V_alloc | apply Kd.V_drewN | apply Kd.V_drew)); exact Kd.V_mono (Kd.V_far (p := ⟨gb349, 3, none⟩) (Kd.V_far (p := ⟨gb349, 2, none⟩) (Kd.V_far (p := ⟨gb349, 1, none⟩) (Kd.V_far (p := ⟨gb349, 0, none⟩) (Kd.V_mono HO340.out (fun k_ hk => (⟨hk, hk.2⟩ : _ ∧ k_ ≠ gb349))) (fun _ hk => hk.2) (.int .u64 t344)) (fun _ hk => hk.2) (.int .u64 t345)) (fun _ hk => hk.2) (.int .u64 t346)) (fun _ hk => hk.2) (.int .u64 t347)) (fun _ hk => ⟨hk.1.1.1, ⟨hk.1.1.2.1, ⟨hk.1.1.2.2, hk.1.2⟩⟩⟩)⟩, ⟨by (with_reducible repeat (first | apply Kd.R_alloc | apply Kd.R_drewN | apply Kd.R_drew)); exact Kd.R_mono (Kd.R_far (p := ⟨gb349, 3, none⟩) (Kd.R_far (p := ⟨gb349, 2, none⟩) (Kd.R_far (p := ⟨gb349, 1, none⟩) (Kd.R_far (p := ⟨gb349, 0, none⟩) (Kd.R_mono HO343.out (fun k_ hk => (⟨hk, hk.2⟩ : _ ∧ k_ ≠ gb349))) (fun _ hk => hk.2) (.int .u64 t344)) (fun _ hk => hk.2) (.int .u64 t345)) (fun _ hk => hk.2) (.int .u64 t346)) (fun _ hk => hk.2) (.int .u64 t347)) (fun _ hk => ⟨hk.1.1.1.2, ⟨hk.1.1.2, hk.1.2⟩⟩)⟩, ⟨by (with_reducible repeat (first | refine blk_drewN ?_ _ | refine blk_drew ?_ | refine blk_alloc ?_ _)); refine blk_far ?_ NB325_349.out _; (with_reducible repeat (first | refine blk_drewN ?_ _ | refine blk_drew ?_ | refine blk_alloc ?_ _)); refine blk_far ?_ NB325_349.out _; (with_reducible repeat (first | refine blk_drewN ?_ _ | refine blk_drew ?_ | refine blk_alloc ?_ _)); refine blk_far ?_ NB325_349.out _; (with_reducible repeat (first | refine blk_drewN ?_ _ | refine blk_drew ?_ | refine blk_alloc ?_ _)); refine blk_far ?_ NB325_349.out _; (with_reducible repeat (first | refine blk_drewN ?_ _ | refine blk_drew ?_ | refine blk_alloc ?_ _)); exact BK325.out⟩, ⟨by (with_reducible repeat (first | refine blk_drewN ?_ _ | refine blk_drew ?_ | refine blk_alloc ?_ _)); refine blk_far ?_ NB328_349.out _; (with_reducible repeat (first | refine blk_drewN ?_ _ | refine blk_drew ?_ | refine blk_alloc ?_ _)); refine blk_far ?_ NB328_349.out _; (with_reducible repeat (first | refine blk_drewN ?_ _ | refine blk_drew ?_ | refine blk_alloc ?_ _)); refine blk_far ?_ NB328_349.out _; (with_reducible repeat (first | refine blk_drewN ?_ _ | refine blk_drew ?_ | refine blk_alloc ?_ _)); refine blk_far ?_ NB328_349.out _; (with_reducible repeat (first | refine blk_drewN ?_ _ | refine blk_drew ?_ | refine blk_alloc ?_ _)); exact BK328.out⟩, ⟨by (with_reducible repeat (first | refine blk_drewN ?_ _ | refine blk_drew ?_ | refine blk_alloc ?_ _)); refine blk_put (cs := #[.int .u64 t344, .int .u64 t345, .int .u64 t346, .int .u64 0]) ?_ 3 _ rfl; (with_reducible repeat (first | refine blk_drewN ?_ _ | refine blk_drew ?_ | refine blk_alloc ?_ _)); refine blk_put (cs := #[.int .u64 t344, .int .u64 t345, .int .u64 0, .int .u64 0]) ?_ 2 _ rfl; (with_reducible repeat (first | refine blk_drewN ?_ _ | refine blk_drew ?_ | refine blk_alloc ?_ _)); refine blk_put (cs := #[.int .u64 t344, .int .u64 0, .int .u64 0, .int .u64 0]) ?_ 1 _ rfl; (with_reducible repeat (first | refine blk_drewN ?_ _ | refine blk_drew ?_ | refine blk_alloc ?_ _)); refine blk_put (cs := #[.int .u64 0, .int .u64 0, .int .u64 0, .int .u64 0]) ?_ 0 _ rfl; (with_reducible repeat (first | refine blk_drewN ?_ _ | refine blk_drew ?_ | refine blk_alloc ?_ _)); exact BK349.out⟩, ⟨by repeat (first | (with_reducible first | exact HB.out | apply below_alloc | apply pw_below_drewN | apply below_drew1 | refine below_set ?_ GE325.out | refine below_set ?_ GE328.out | refine below_set ?_ GE349.out) | exact HB.out)⟩⟩
                · rw [if_neg c62] at H
                  have c62b0 : ((t338.length : Int) == (l0.length : Int)) = false := beq_eq_false_iff_ne.mpr c62
                  have c62b1 : ((t338.length : Int) != (l0.length : Int)) = true := bne_iff_ne.mpr c62
                  have c62b2 : (t338.length == l0.length) = false := by first | simpa using c62 | (simp at c62 ⊢; omega)
                  have H' := Aside0.mk H
                  clear H
                  have hnb70 := NB349_325.out
                  have hnc70 := NB325_349.out
                  have hnb71 := NB349_328.out
                  have hnc71 := NB328_349.out
                  have hcz72_0 : w51.cell? ⟨gb349, 0, none⟩ = some (.int .u64 0) := (blk_cell BK349.out 0).trans rfl
                  have hcz72_1 : w51.cell? ⟨gb349, 1, none⟩ = some (.int .u64 0) := (blk_cell BK349.out 1).trans rfl
                  have hcz72_2 : w51.cell? ⟨gb349, 2, none⟩ = some (.int .u64 0) := (blk_cell BK349.out 2).trans rfl
                  have hcz72_3 : w51.cell? ⟨gb349, 3, none⟩ = some (.int .u64 0) := (blk_cell BK349.out 3).trans rfl
                  have hfz72_0 := blk_frozen BK349.out 0
                  have hfz72_1 := blk_frozen BK349.out 1
                  have hfz72_2 := blk_frozen BK349.out 2
                  have hfz72_3 := blk_frozen BK349.out 3
                  have hnb73 := NB325_328.out
                  have hnc73 := NB328_325.out
                  have hcz74_0 : w51.cell? ⟨gb325, 0, none⟩ = some (.int .u64 a1_0) := (blk_cell BK325.out 0).trans rfl
                  have hcz74_1 : w51.cell? ⟨gb325, 1, none⟩ = some (.int .u64 a1_1) := (blk_cell BK325.out 1).trans rfl
                  have hcz74_2 : w51.cell? ⟨gb325, 2, none⟩ = some (.int .u64 a1_2) := (blk_cell BK325.out 2).trans rfl
                  have hcz74_3 : w51.cell? ⟨gb325, 3, none⟩ = some (.int .u64 a1_3) := (blk_cell BK325.out 3).trans rfl
                  have hfz74_0 := blk_frozen BK325.out 0
                  have hfz74_1 := blk_frozen BK325.out 1
                  have hfz74_2 := blk_frozen BK325.out 2
                  have hfz74_3 := blk_frozen BK325.out 3
                  obtain ⟨Ao75, co75, eo75⟩ := Kd.V_slice HO340.out
                  subst eo75
                  go_wp2
                  repeat (go_quiet (fail); try go_wp2)
                  go_meet
                  case rel => exact ⟨_, (true), (by first | rfl | (simp; done) | (simp [*]; done)), H', ⟨by have := HK1.out; first | omega | exact Nat.le_refl _⟩, ⟨by (with_reducible repeat (first | apply Kd.V_alloc | apply Kd.V_drewN | apply Kd.V_drew)); exact Kd.V_mono (Kd.V_far (p := ⟨gb349, 3, none⟩) (Kd.V_far (p := ⟨gb349, 2, none⟩) (Kd.V_far (p := ⟨gb349, 1, none⟩) (Kd.V_far (p := ⟨gb349, 0, none⟩) (Kd.V_mono HO340.out (fun k_ hk => (⟨hk, hk.2⟩ : _ ∧ k_ ≠ gb349))) (fun _ hk => hk.2) (.int .u64 t344)) (fun _ hk => hk.2) (.int .u64 t345)) (fun _ hk => hk.2) (.int .u64 t346)) (fun _ hk => hk.2) (.int .u64 t347)) (fun _ hk => ⟨hk.1.1.1, ⟨hk.1.1.2.1, ⟨hk.1.1.2.2, hk.1.2⟩⟩⟩)⟩, ⟨by (with_reducible repeat (first | apply Kd.R_alloc | apply Kd.R_drewN | apply Kd.R_drew)); exact Kd.R_mono (Kd.R_far (p := ⟨gb349, 3, none⟩) (Kd.R_far (p := ⟨gb349, 2, none⟩) (Kd.R_far (p := ⟨gb349, 1, none⟩) (Kd.R_far (p := ⟨gb349, 0, none⟩) (Kd.R_mono HO343.out (fun k_ hk => (⟨hk, hk.2⟩ : _ ∧ k_ ≠ gb349))) (fun _ hk => hk.2) (.int .u64 t344)) (fun _ hk => hk.2) (.int .u64 t345)) (fun _ hk => hk.2) (.int .u64 t346)) (fun _ hk => hk.2) (.int .u64 t347)) (fun _ hk => ⟨hk.1.1.1.2, ⟨hk.1.1.2, hk.1.2⟩⟩)⟩, ⟨by (with_reducible repeat (first | refine blk_drewN ?_ _ | refine blk_drew ?_ | refine blk_alloc ?_ _)); refine blk_far ?_ NB325_349.out _; (with_reducible repeat (first | refine blk_drewN ?_ _ | refine blk_drew ?_ | refine blk_alloc ?_ _)); refine blk_far ?_ NB325_349.out _; (with_reducible repeat (first | refine blk_drewN ?_ _ | refine blk_drew ?_ | refine blk_alloc ?_ _)); refine blk_far ?_ NB325_349.out _; (with_reducible repeat (first | refine blk_drewN ?_ _ | refine blk_drew ?_ | refine blk_alloc ?_ _)); refine blk_far ?_ NB325_349.out _; (with_reducible repeat (first | refine blk_drewN ?_ _ | refine blk_drew ?_ | refine blk_alloc ?_ _)); exact BK325.out⟩, ⟨by (with_reducible repeat (first | refine blk_drewN ?_ _ | refine blk_drew ?_ | refine blk_alloc ?_ _)); refine blk_far ?_ NB328_349.out _; (with_reducible repeat (first | refine blk_drewN ?_ _ | refine blk_drew ?_ | refine blk_alloc ?_ _)); refine blk_far ?_ NB328_349.out _; (with_reducible repeat (first | refine blk_drewN ?_ _ | refine blk_drew ?_ | refine blk_alloc ?_ _)); refine blk_far ?_ NB328_349.out _; (with_reducible repeat (first | refine blk_drewN ?_ _ | refine blk_drew ?_ | refine blk_alloc ?_ _)); refine blk_far ?_ NB328_349.out _; (with_reducible repeat (first | refine blk_drewN ?_ _ | refine blk_drew ?_ | refine blk_alloc ?_ _)); exact BK328.out⟩, ⟨by (with_reducible repeat (first | refine blk_drewN ?_ _ | refine blk_drew ?_ | refine blk_alloc ?_ _)); refine blk_put (cs := #[.int .u64 t344, .int .u64 t345, .int .u64 t346, .int .u64 0]) ?_ 3 _ rfl; (with_reducible repeat (first | refine blk_drewN ?_ _ | refine blk_drew ?_ | refine blk_alloc ?_ _)); refine blk_put (cs := #[.int .u64 t344, .int .u64 t345, .int .u64 0, .int .u64 0]) ?_ 2 _ rfl; (with_reducible repeat (first | refine blk_drewN ?_ _ | refine blk_drew ?_ | refine blk_alloc ?_ _)); refine blk_put (cs := #[.int .u64 t344, .int .u64 0, .int .u64 0, .int .u64 0]) ?_ 1 _ rfl; (with_reducible repeat (first | refine blk_drewN ?_ _ | refine blk_drew ?_ | refine blk_alloc ?_ _)); refine blk_put (cs := #[.int .u64 0, .int .u64 0, .int .u64 0, .int .u64 0]) ?_ 0 _ rfl; (with_reducible repeat (first | refine blk_drewN ?_ _ | refine blk_drew ?_ | refine blk_alloc ?_ _)); exact BK349.out⟩, ⟨by repeat (first | (with_reducible first | exact HB.out | apply below_alloc | apply pw_below_drewN | apply below_drew1 | refine below_set ?_ GE325.out | refine below_set ?_ GE328.out | refine below_set ?_ GE349.out) | exact HB.out)⟩⟩
            · rw [if_neg c55] at H
              have c55b0 : (t348 == 0) = false := beq_eq_false_iff_ne.mpr c55
              have c55b1 : (t348 != 0) = true := bne_iff_ne.mpr c55
              (first | rw [c55b0] | (simp only [i64_w, i32_w]; rw [c55b0]) | skip)
              have H' := Aside0.mk H
              clear H
              go_wp2
              repeat (go_quiet (fail); try go_wp2)
              go_meet
              case rel => exact ⟨_, (true), (by first | rfl | (simp; done) | (simp [*]; done)), H', ⟨by have := HK1.out; first | omega | exact Nat.le_refl _⟩, ⟨by (with_reducible repeat (first | apply Kd.V_alloc | apply Kd.V_drewN | apply Kd.V_drew)); exact Kd.V_mono (Kd.V_far (p := ⟨gb349, 3, none⟩) (Kd.V_far (p := ⟨gb349, 2, none⟩) (Kd.V_far (p := ⟨gb349, 1, none⟩) (Kd.V_far (p := ⟨gb349, 0, none⟩) (Kd.V_mono HO340.out (fun k_ hk => (⟨hk, hk.2⟩ : _ ∧ k_ ≠ gb349))) (fun _ hk => hk.2) (.int .u64 t344)) (fun _ hk => hk.2) (.int .u64 t345)) (fun _ hk => hk.2) (.int .u64 t346)) (fun _ hk => hk.2) (.int .u64 t347)) (fun _ hk => ⟨hk.1.1.1, ⟨hk.1.1.2.1, ⟨hk.1.1.2.2, hk.1.2⟩⟩⟩)⟩, ⟨by (with_reducible repeat (first | apply Kd.R_alloc | apply Kd.R_drewN | apply Kd.R_drew)); exact Kd.R_mono (Kd.R_far (p := ⟨gb349, 3, none⟩) (Kd.R_far (p := ⟨gb349, 2, none⟩) (Kd.R_far (p := ⟨gb349, 1, none⟩) (Kd.R_far (p := ⟨gb349, 0, none⟩) (Kd.R_mono HO343.out (fun k_ hk => (⟨hk, hk.2⟩ : _ ∧ k_ ≠ gb349))) (fun _ hk => hk.2) (.int .u64 t344)) (fun _ hk => hk.2) (.int .u64 t345)) (fun _ hk => hk.2) (.int .u64 t346)) (fun _ hk => hk.2) (.int .u64 t347)) (fun _ hk => ⟨hk.1.1.1.2, ⟨hk.1.1.2, hk.1.2⟩⟩)⟩, ⟨by (with_reducible repeat (first | refine blk_drewN ?_ _ | refine blk_drew ?_ | refine blk_alloc ?_ _)); refine blk_far ?_ NB325_349.out _; (with_reducible repeat (first | refine blk_drewN ?_ _ | refine blk_drew ?_ | refine blk_alloc ?_ _)); refine blk_far ?_ NB325_349.out _; (with_reducible repeat (first | refine blk_drewN ?_ _ | refine blk_drew ?_ | refine blk_alloc ?_ _)); refine blk_far ?_ NB325_349.out _; (with_reducible repeat (first | refine blk_drewN ?_ _ | refine blk_drew ?_ | refine blk_alloc ?_ _)); refine blk_far ?_ NB325_349.out _; (with_reducible repeat (first | refine blk_drewN ?_ _ | refine blk_drew ?_ | refine blk_alloc ?_ _)); exact BK325.out⟩, ⟨by (with_reducible repeat (first | refine blk_drewN ?_ _ | refine blk_drew ?_ | refine blk_alloc ?_ _)); refine blk_far ?_ NB328_349.out _; (with_reducible repeat (first | refine blk_drewN ?_ _ | refine blk_drew ?_ | refine blk_alloc ?_ _)); refine blk_far ?_ NB328_349.out _; (with_reducible repeat (first | refine blk_drewN ?_ _ | refine blk_drew ?_ | refine blk_alloc ?_ _)); refine blk_far ?_ NB328_349.out _; (with_reducible repeat (first | refine blk_drewN ?_ _ | refine blk_drew ?_ | refine blk_alloc ?_ _)); refine blk_far ?_ NB328_349.out _; (with_reducible repeat (first | refine blk_drewN ?_ _ | refine blk_drew ?_ | refine blk_alloc ?_ _)); exact BK328.out⟩, ⟨by (with_reducible repeat (first | refine blk_drewN ?_ _ | refine blk_drew ?_ | refine blk_alloc ?_ _)); refine blk_put (cs := #[.int .u64 t344, .int .u64 t345, .int .u64 t346, .int .u64 0]) ?_ 3 _ rfl; (with_reducible repeat (first | refine blk_drewN ?_ _ | refine blk_drew ?_ | refine blk_alloc ?_ _)); refine blk_put (cs := #[.int .u64 t344, .int .u64 t345, .int .u64 0, .int .u64 0]) ?_ 2 _ rfl; (with_reducible repeat (first | refine blk_drewN ?_ _ | refine blk_drew ?_ | refine blk_alloc ?_ _)); refine blk_put (cs := #[.int .u64 t344, .int .u64 0, .int .u64 0, .int .u64 0]) ?_ 1 _ rfl; (with_reducible repeat (first | refine blk_drewN ?_ _ | refine blk_drew ?_ | refine blk_alloc ?_ _)); refine blk_put (cs := #[.int .u64 0, .int .u64 0, .int .u64 0, .int .u64 0]) ?_ 0 _ rfl; (with_reducible repeat (first | refine blk_drewN ?_ _ | refine blk_drew ?_ | refine blk_alloc ?_ _)); exact BK349.out⟩, ⟨by repeat (first | (with_reducible first | exact HB.out | apply below_alloc | apply pw_below_drewN | apply below_drew1 | refine below_set ?_ GE325.out | refine below_set ?_ GE328.out | refine below_set ?_ GE349.out) | exact HB.out)⟩⟩
          case rest =>
            clear HC47
            try clear c1
            try clear c2
            try clear p2
            try clear c3
            try clear p3
            try clear q3
            try clear hx3
            try clear c4
            try clear c5
            try clear c6
            try clear p6
            try clear c7
            try clear c8
            try clear c10
            try clear c10b0
            try clear c11
            try clear c11b0
            try clear c12
            try clear c12b0
            try clear c14
            try clear c17
            try clear c18
            try clear c20
            try clear c25
            try clear c25b0
            try clear c25b1
            try clear c27
            try clear c28
            try clear c30
            try clear p32
            try clear q32
            try clear hx32
            try clear c37
            try clear c38
            try clear c40
            try clear c48
            try clear c52
            try clear c53
            try clear c55
            try clear c55b0
            try clear c55b1
            try clear c56
            try clear c56b0
            try clear c57
            try clear c58
            try clear c60
            try clear c62
            try clear c62b0
            try clear c62b1
            try clear c62b2
            try clear c63
            try clear c64
            try clear p64
            try clear c66
            try clear c70
            try clear c71
            try clear c73
            try clear hcz19_0
            try clear hcz19_1
            try clear hcz19_2
            try clear hcz19_3
            try clear hcz19_4
            try clear hcz19_5
            try clear hcz19_6
            try clear hcz19_7
            try clear hcz21_0
            try clear hcz21_1
            try clear hcz21_2
            try clear hcz21_3
            try clear hcz23_0
            try clear hcz23_1
            try clear hcz23_2
            try clear hcz23_3
            try clear hcz29_0
            try clear hcz29_1
            try clear hcz29_2
            try clear hcz29_3
            try clear hcz29_4
            try clear hcz29_5
            try clear hcz29_6
            try clear hcz29_7
            try clear hcz31_0
            try clear hcz31_1
            try clear hcz31_2
            try clear hcz31_3
            try clear hcz33_0
            try clear hcz33_1
            try clear hcz33_2
            try clear hcz33_3
            try clear hcz34_0
            try clear hcz34_1
            try clear hcz34_2
            try clear hcz34_3
            try clear hcz34_4
            try clear hcz34_5
            try clear hcz34_6
            try clear hcz34_7
            try clear hcz39_0
            try clear hcz39_1
            try clear hcz39_2
            try clear hcz39_3
            try clear hcz39_4
            try clear hcz39_5
            try clear hcz39_6
            try clear hcz39_7
            try clear hcz41_0
            try clear hcz41_1
            try clear hcz41_2
            try clear hcz41_3
            try clear hcz43_0
            try clear hcz43_1
            try clear hcz43_2
            try clear hcz43_3
            try clear hcz44_0
            try clear hcz44_1
            try clear hcz44_2
            try clear hcz44_3
            try clear hcz44_4
            try clear hcz44_5
            try clear hcz44_6
            try clear hcz44_7
            try clear hcz49_0
            try clear hcz49_1
            try clear hcz49_2
            try clear hcz49_3
            try clear hcz54_0
            try clear hcz54_1
            try clear hcz54_2
            try clear hcz54_3
            try clear hcz59_0
            try clear hcz59_1
            try clear hcz59_2
            try clear hcz59_3
            try clear hcz61_0
            try clear hcz61_1
            try clear hcz61_2
            try clear hcz61_3
            try clear hcz65_0
            try clear hcz65_1
            try clear hcz65_2
            try clear hcz65_3
            try clear hcz67_0
            try clear hcz67_1
            try clear hcz67_2
            try clear hcz67_3
            try clear hcz6_0
            try clear hcz6_1
            try clear hcz6_2
            try clear hcz6_3
            try clear hcz72_0
            try clear hcz72_1
            try clear hcz72_2
            try clear hcz72_3
            try clear hcz74_0
            try clear hcz74_1
            try clear hcz74_2
            try clear hcz74_3
            try clear hcz9_0
            try clear hcz9_1
            try clear hcz9_2
            try clear hcz9_3
            try clear hfz19_0
            try clear hfz19_1
            try clear hfz19_2
            try clear hfz19_3
            try clear hfz19_4
            try clear hfz19_5
            try clear hfz19_6
            try clear hfz19_7
            try clear hfz21_0
            try clear hfz21_1
            try clear hfz21_2
            try clear hfz21_3
            try clear hfz23_0
            try clear hfz23_1
            try clear hfz23_2
            try clear hfz23_3
            try clear hfz29_0
            try clear hfz29_1
            try clear hfz29_2
            try clear hfz29_3
            try clear hfz29_4
            try clear hfz29_5
            try clear hfz29_6
            try clear hfz29_7
            try clear hfz31_0
            try clear hfz31_1
            try clear hfz31_2
            try clear hfz31_3
            try clear hfz33_0
            try clear hfz33_1
            try clear hfz33_2
            try clear hfz33_3
            try clear hfz34_0
            try clear hfz34_1
            try clear hfz34_2
            try clear hfz34_3
            try clear hfz34_4
            try clear hfz34_5
            try clear hfz34_6
            try clear hfz34_7
            try clear hfz39_0
            try clear hfz39_1
            try clear hfz39_2
            try clear hfz39_3
            try clear hfz39_4
            try clear hfz39_5
            try clear hfz39_6
            try clear hfz39_7
            try clear hfz41_0
            try clear hfz41_1
            try clear hfz41_2
            try clear hfz41_3
            try clear hfz43_0
            try clear hfz43_1
            try clear hfz43_2
            try clear hfz43_3
            try clear hfz44_0
            try clear hfz44_1
            try clear hfz44_2
            try clear hfz44_3
            try clear hfz44_4
            try clear hfz44_5
            try clear hfz44_6
            try clear hfz44_7
            try clear hfz49_0
            try clear hfz49_1
            try clear hfz49_2
            try clear hfz49_3
            try clear hfz54_0
            try clear hfz54_1
            try clear hfz54_2
            try clear hfz54_3
            try clear hfz59_0
            try clear hfz59_1
            try clear hfz59_2
            try clear hfz59_3
            try clear hfz61_0
            try clear hfz61_1
            try clear hfz61_2
            try clear hfz61_3
            try clear hfz65_0
            try clear hfz65_1
            try clear hfz65_2
            try clear hfz65_3
            try clear hfz67_0
            try clear hfz67_1
            try clear hfz67_2
            try clear hfz67_3
            try clear hfz6_0
            try clear hfz6_1
            try clear hfz6_2
            try clear hfz6_3
            try clear hfz72_0
            try clear hfz72_1
            try clear hfz72_2
            try clear hfz72_3
            try clear hfz74_0
            try clear hfz74_1
            try clear hfz74_2
            try clear hfz74_3
            try clear hfz9_0
            try clear hfz9_1
            try clear hfz9_2
            try clear hfz9_3
            try clear hx329_0
            try clear hx329_1
            try clear hx329_2
            try clear hx329_3
            try clear hx329_4
            try clear hx329_5
            try clear hx329_6
            try clear hx329_7
            try clear p2
            try clear p329
            try clear q329
            obtain ⟨kq, x74_46, rfl, HA, HJ46, HO_9, HO_10, BK325, BK328, BK349, HB⟩ := hcut
            cases kq with
            | zero => exact absurd HA.out (by simp [trucelaw17_PayAll.j1])
            | succ kj46 =>
              have H := HA.out
              clear HA
              simp only [trucelaw17_PayAll.j1] at H
              by_cases c76 : x74_46 = true
              · subst c76
                have H1 : (some false) = some r := by rw [if_pos rfl] at H; exact H
                clear H
                have H := H1
                clear H1
                exact absurd (hr_.out.symm.trans (Option.some.inj H).symm) (by simp)
              · replace c76 := Bool.eq_false_iff.mpr c76
                subst c76
                have H1 : (trucelaw17_PayAll.l1 kj46 l0 t338 t341 (l0.length : Int) 0 t344 t345 t346 t347) = some r := by rw [if_neg (show ¬ (false = true) by decide)] at H; exact H
                clear H
                have H := H1
                clear H1
                have H' := Aside0.mk H
                clear H
                go_wp2
                repeat (go_quiet (fail); try go_wp2)
                go_loopg [77] kj46 (fun kq v77 w' => ∃ (x77_3 : Int), v77 = .int .i64 x77_3 ∧ Aside0 (trucelaw17_PayAll.l1 kq l0 t338 t341 (l0.length : Int) x77_3 t344 t345 t346 t347 = some r) ∧ Aside0 (kq ≤ kj46) ∧ Aside0 (Kd.V k40 40 w' w.heap.size (fun k_ => some k_ ≠ (v342 : Value).ownBlock ∧ k_ ≠ gb325 ∧ k_ ≠ gb328 ∧ k_ ≠ gb349) v339 t338) ∧ Aside0 (Kd.R k24 24 w' w.heap.size (fun k_ => k_ ≠ gb325 ∧ k_ ≠ gb328 ∧ k_ ≠ gb349) v342 t341) ∧ Aside0 (w'.heap[gb325]? = some (.cells #[.int .u64 a1_0, .int .u64 a1_1, .int .u64 a1_2, .int .u64 a1_3] 24 (0, 0))) ∧ Aside0 (w'.heap[gb328]? = some (.cells #[.int .u64 x329000_1, .int .u64 x329001_1, .int .u64 x329002_1, .int .u64 x329003_1] 24 (0, 0))) ∧ Aside0 (w'.heap[gb349]? = some (.cells #[.int .u64 t344, .int .u64 t345, .int .u64 t346, .int .u64 t347] 24 (0, 0))) ∧ Aside0 (Below w.heap.size w w'))
                case atStart => exact ⟨(0), (by first | rfl | (simp; done) | (simp [*]; done)), H', ⟨Nat.le_refl _⟩, ⟨by (with_reducible repeat (first | apply Kd.V_alloc | apply Kd.V_drewN | apply Kd.V_drew)); exact HO_9.out⟩, ⟨by (with_reducible repeat (first | apply Kd.R_alloc | apply Kd.R_drewN | apply Kd.R_drew)); exact HO_10.out⟩, ⟨by (with_reducible repeat (first | refine blk_drewN ?_ _ | refine blk_drew ?_ | refine blk_alloc ?_ _)); exact BK325.out⟩, ⟨by (with_reducible repeat (first | refine blk_drewN ?_ _ | refine blk_drew ?_ | refine blk_alloc ?_ _)); exact BK328.out⟩, ⟨by (with_reducible repeat (first | refine blk_drewN ?_ _ | refine blk_drew ?_ | refine blk_alloc ?_ _)); exact BK349.out⟩, ⟨by repeat (first | (with_reducible first | exact HB.out | apply below_alloc | apply pw_below_drewN | apply below_drew1 | refine below_set ?_ GE325.out | refine below_set ?_ GE328.out | refine below_set ?_ GE349.out) | exact HB.out)⟩⟩
                case round =>
                  clear H'
                  try clear c1
                  try clear c2
                  try clear p2
                  try clear c3
                  try clear p3
                  try clear q3
                  try clear hx3
                  try clear c4
                  try clear c5
                  try clear c6
                  try clear p6
                  try clear c7
                  try clear c8
                  try clear c10
                  try clear c10b0
                  try clear c11
                  try clear c11b0
                  try clear c12
                  try clear c12b0
                  try clear c14
                  try clear c17
                  try clear c18
                  try clear c20
                  try clear c25
                  try clear c25b0
                  try clear c25b1
                  try clear c27
                  try clear c28
                  try clear c30
                  try clear p32
                  try clear q32
                  try clear hx32
                  try clear c37
                  try clear c38
                  try clear c40
                  try clear c48
                  try clear c52
                  try clear c53
                  try clear c55
                  try clear c55b0
                  try clear c55b1
                  try clear c56
                  try clear c56b0
                  try clear c57
                  try clear c58
                  try clear c60
                  try clear c62
                  try clear c62b0
                  try clear c62b1
                  try clear c62b2
                  try clear c63
                  try clear c64
                  try clear p64
                  try clear c66
                  try clear c70
                  try clear c71
                  try clear c73
                  try clear c76
                  try clear hcz19_0
                  try clear hcz19_1
                  try clear hcz19_2
                  try clear hcz19_3
                  try clear hcz19_4
                  try clear hcz19_5
                  try clear hcz19_6
                  try clear hcz19_7
                  try clear hcz21_0
                  try clear hcz21_1
                  try clear hcz21_2
                  try clear hcz21_3
                  try clear hcz23_0
                  try clear hcz23_1
                  try clear hcz23_2
                  try clear hcz23_3
                  try clear hcz29_0
                  try clear hcz29_1
                  try clear hcz29_2
                  try clear hcz29_3
                  try clear hcz29_4
                  try clear hcz29_5
                  try clear hcz29_6
                  try clear hcz29_7
                  try clear hcz31_0
                  try clear hcz31_1
                  try clear hcz31_2
                  try clear hcz31_3
                  try clear hcz33_0
                  try clear hcz33_1
                  try clear hcz33_2
                  try clear hcz33_3
                  try clear hcz34_0
                  try clear hcz34_1
                  try clear hcz34_2
                  try clear hcz34_3
                  try clear hcz34_4
                  try clear hcz34_5
                  try clear hcz34_6
                  try clear hcz34_7
                  try clear hcz39_0
                  try clear hcz39_1
                  try clear hcz39_2
                  try clear hcz39_3
                  try clear hcz39_4
                  try clear hcz39_5
                  try clear hcz39_6
                  try clear hcz39_7
                  try clear hcz41_0
                  try clear hcz41_1
                  try clear hcz41_2
                  try clear hcz41_3
                  try clear hcz43_0
                  try clear hcz43_1
                  try clear hcz43_2
                  try clear hcz43_3
                  try clear hcz44_0
                  try clear hcz44_1
                  try clear hcz44_2
                  try clear hcz44_3
                  try clear hcz44_4
                  try clear hcz44_5
                  try clear hcz44_6
                  try clear hcz44_7
                  try clear hcz49_0
                  try clear hcz49_1
                  try clear hcz49_2
                  try clear hcz49_3
                  try clear hcz54_0
                  try clear hcz54_1
                  try clear hcz54_2
                  try clear hcz54_3
                  try clear hcz59_0
                  try clear hcz59_1
                  try clear hcz59_2
                  try clear hcz59_3
                  try clear hcz61_0
                  try clear hcz61_1
                  try clear hcz61_2
                  try clear hcz61_3
                  try clear hcz65_0
                  try clear hcz65_1
                  try clear hcz65_2
                  try clear hcz65_3
                  try clear hcz67_0
                  try clear hcz67_1
                  try clear hcz67_2
                  try clear hcz67_3
                  try clear hcz6_0
                  try clear hcz6_1
                  try clear hcz6_2
                  try clear hcz6_3
                  try clear hcz72_0
                  try clear hcz72_1
                  try clear hcz72_2
                  try clear hcz72_3
                  try clear hcz74_0
                  try clear hcz74_1
                  try clear hcz74_2
                  try clear hcz74_3
                  try clear hcz9_0
                  try clear hcz9_1
                  try clear hcz9_2
                  try clear hcz9_3
                  try clear hfz19_0
                  try clear hfz19_1
                  try clear hfz19_2
                  try clear hfz19_3
                  try clear hfz19_4
                  try clear hfz19_5
                  try clear hfz19_6
                  try clear hfz19_7
                  try clear hfz21_0
                  try clear hfz21_1
                  try clear hfz21_2
                  try clear hfz21_3
                  try clear hfz23_0
                  try clear hfz23_1
                  try clear hfz23_2
                  try clear hfz23_3
                  try clear hfz29_0
                  try clear hfz29_1
                  try clear hfz29_2
                  try clear hfz29_3
                  try clear hfz29_4
                  try clear hfz29_5
                  try clear hfz29_6
                  try clear hfz29_7
                  try clear hfz31_0
                  try clear hfz31_1
                  try clear hfz31_2
                  try clear hfz31_3
                  try clear hfz33_0
                  try clear hfz33_1
                  try clear hfz33_2
                  try clear hfz33_3
                  try clear hfz34_0
                  try clear hfz34_1
                  try clear hfz34_2
                  try clear hfz34_3
                  try clear hfz34_4
                  try clear hfz34_5
                  try clear hfz34_6
                  try clear hfz34_7
                  try clear hfz39_0
                  try clear hfz39_1
                  try clear hfz39_2
                  try clear hfz39_3
                  try clear hfz39_4
                  try clear hfz39_5
                  try clear hfz39_6
                  try clear hfz39_7
                  try clear hfz41_0
                  try clear hfz41_1
                  try clear hfz41_2
                  try clear hfz41_3
                  try clear hfz43_0
                  try clear hfz43_1
                  try clear hfz43_2
                  try clear hfz43_3
                  try clear hfz44_0
                  try clear hfz44_1
                  try clear hfz44_2
                  try clear hfz44_3
                  try clear hfz44_4
                  try clear hfz44_5
                  try clear hfz44_6
                  try clear hfz44_7
                  try clear hfz49_0
                  try clear hfz49_1
                  try clear hfz49_2
                  try clear hfz49_3
                  try clear hfz54_0
                  try clear hfz54_1
                  try clear hfz54_2
                  try clear hfz54_3
                  try clear hfz59_0
                  try clear hfz59_1
                  try clear hfz59_2
                  try clear hfz59_3
                  try clear hfz61_0
                  try clear hfz61_1
                  try clear hfz61_2
                  try clear hfz61_3
                  try clear hfz65_0
                  try clear hfz65_1
                  try clear hfz65_2
                  try clear hfz65_3
                  try clear hfz67_0
                  try clear hfz67_1
                  try clear hfz67_2
                  try clear hfz67_3
                  try clear hfz6_0
                  try clear hfz6_1
                  try clear hfz6_2
                  try clear hfz6_3
                  try clear hfz72_0
                  try clear hfz72_1
                  try clear hfz72_2
                  try clear hfz72_3
                  try clear hfz74_0
                  try clear hfz74_1
                  try clear hfz74_2
                  try clear hfz74_3
                  try clear hfz9_0
                  try clear hfz9_1
                  try clear hfz9_2
                  try clear hfz9_3
                  try clear hx329_0
                  try clear hx329_1
                  try clear hx329_2
                  try clear hx329_3
                  try clear hx329_4
                  try clear hx329_5
                  try clear hx329_6
                  try clear hx329_7
                  try clear p2
                  try clear p3
                  try clear p32
                  try clear p329
                  try clear p6
                  try clear p64
                  try clear q3
                  try clear q32
                  try clear q329
                  obtain ⟨x77_3, rfl, HA, HK3, HO_9, HO_10, BK325, BK328, BK349, HB⟩ := hrel
                  cases gk with
                  | zero => exact absurd HA.out (by simp [trucelaw17_PayAll.l1])
                  | succ k3 =>
                    have H := HA.out
                    clear HA
                    simp only [trucelaw17_PayAll.l1] at H
                    by_cases c77 : x77_3 < (l0.length : Int)
                    · rw [if_pos c77] at H
                      have c77b0 : decide (x77_3 < (l0.length : Int)) = true := decide_eq_true c77
                      clear c77
                      by_cases c78 : 0 ≤ x77_3
                      · rw [if_pos c78] at H
                        have c78b0 : decide (0 ≤ x77_3) = true := decide_eq_true c78
                        clear c78
                        by_cases c79 : x77_3 < (t338.length : Int)
                        · rw [if_pos c79] at H
                          have c79b0 : decide (x77_3 < (t338.length : Int)) = true := decide_eq_true c79
                          clear c79
                          by_cases c80 : (!(((rd_T40 t338 x77_3).f1.f0) == 0) || (!(((rd_T40 t338 x77_3).f1.f1) == 0) || (!(((rd_T40 t338 x77_3).f1.f2) == 0) || (!(((rd_T40 t338 x77_3).f1.f3) == 0))))) = true
                          · rw [if_pos c80] at H
                            have c80b0 : (!(((rd_T40 t338 x77_3).f1.f0) == 0) || (!(((rd_T40 t338 x77_3).f1.f1) == 0) || (!(((rd_T40 t338 x77_3).f1.f2) == 0) || (!(((rd_T40 t338 x77_3).f1.f3) == 0))))) = true := c80
                            clear c80
                            exact absurd (hr_.out.symm.trans (Option.some.inj H).symm) (by simp)
                          · rw [if_neg c80] at H
                            have c80b0 : (!(((rd_T40 t338 x77_3).f1.f0) == 0) || (!(((rd_T40 t338 x77_3).f1.f1) == 0) || (!(((rd_T40 t338 x77_3).f1.f2) == 0) || (!(((rd_T40 t338 x77_3).f1.f3) == 0))))) = false := by simpa using c80
                            clear c80
                            by_cases c81 : x77_3 < (t341.length : Int)
                            · rw [if_pos c81] at H
                              have c81b0 : decide (x77_3 < (t341.length : Int)) = true := decide_eq_true c81
                              clear c81
                              by_cases c82 : x77_3 < (l0.length : Int)
                              · rw [if_pos c82] at H
                                have c82b0 : decide (x77_3 < (l0.length : Int)) = true := decide_eq_true c82
                                clear c82
                                by_cases c83 : (!(((rd_T24 t341 x77_3).f0) == ((rd_T40 l0 x77_3).f1.f0)) || (!(((rd_T24 t341 x77_3).f1) == ((rd_T40 l0 x77_3).f1.f1)) || (!(((rd_T24 t341 x77_3).f2) == ((rd_T40 l0 x77_3).f1.f2)) || (!(((rd_T24 t341 x77_3).f3) == ((rd_T40 l0 x77_3).f1.f3)))))) = true
                                · rw [if_pos c83] at H
                                  have c83b0 : (!(((rd_T24 t341 x77_3).f0) == ((rd_T40 l0 x77_3).f1.f0)) || (!(((rd_T24 t341 x77_3).f1) == ((rd_T40 l0 x77_3).f1.f1)) || (!(((rd_T24 t341 x77_3).f2) == ((rd_T40 l0 x77_3).f1.f2)) || (!(((rd_T24 t341 x77_3).f3) == ((rd_T40 l0 x77_3).f1.f3)))))) = true := c83
                                  clear c83
                                  exact absurd (hr_.out.symm.trans (Option.some.inj H).symm) (by simp)
                                · rw [if_neg c83] at H
                                  have c83b0 : (!(((rd_T24 t341 x77_3).f0) == ((rd_T40 l0 x77_3).f1.f0)) || (!(((rd_T24 t341 x77_3).f1) == ((rd_T40 l0 x77_3).f1.f1)) || (!(((rd_T24 t341 x77_3).f2) == ((rd_T40 l0 x77_3).f1.f2)) || (!(((rd_T24 t341 x77_3).f3) == ((rd_T40 l0 x77_3).f1.f3)))))) = false := by simpa using c83
                                  clear c83
                                  by_cases c84 : ((rd_T40 t338 x77_3).f0).toList = ((rd_T40 l0 x77_3).f0).toList
                                  · rw [if_pos c84] at H
                                    have c84b0 : (((rd_T40 t338 x77_3).f0).toList == ((rd_T40 l0 x77_3).f0).toList) = true := beq_iff_eq.mpr c84
                                    have c84b1 : (((rd_T40 t338 x77_3).f0).toList != ((rd_T40 l0 x77_3).f0).toList) = false := bne_eq_false_iff_eq.mpr c84
                                    clear c84
                                    have H' := Aside0.mk H
                                    clear H
                                    obtain ⟨Ao85, co85, eo85⟩ := Kd.V_slice HO_9.out
                                    subst eo85
                                    have p350 : 0 ≤ (x77_3 : Int) := of_decide_eq_true (by first | (with_reducible assumption) | assumption)
                                    have q350 : x77_3 < (t338.length : Int) := of_decide_eq_true (by first | (with_reducible assumption) | assumption)
                                    obtain ⟨ad350, e350, hx350_0, hx350_1, hx350_2, hx350_3, hx350_4, hx350_5, hx350_6, hx350_7⟩ := at_T40 (Kd.V_reads' HO_9.out).2.2 x77_3 p350 q350
                                    cases e350
                                    replace p350 := eq_true p350
                                    replace q350 := eq_true q350
                                    obtain ⟨Ao86, co86, eo86⟩ := Kd.R_slice HO_10.out
                                    subst eo86
                                    have p351 : 0 ≤ (x77_3 : Int) := of_decide_eq_true (by first | (with_reducible assumption) | assumption)
                                    have q351 : x77_3 < (t341.length : Int) := of_decide_eq_true (by first | (with_reducible assumption) | assumption)
                                    obtain ⟨ad351, e351, hx351_0, hx351_1, hx351_2, hx351_3⟩ := at_T24 (Kd.R_reads' HO_10.out).2.2 x77_3 p351 q351
                                    cases e351
                                    replace p351 := eq_true p351
                                    replace q351 := eq_true q351
                                    have p352 : 0 ≤ (x77_3 : Int) := of_decide_eq_true (by first | (with_reducible assumption) | assumption)
                                    have q352 : x77_3 < (l0.length : Int) := of_decide_eq_true (by first | (with_reducible assumption) | assumption)
                                    obtain ⟨ad352, e352, hx352_0, hx352_1, hx352_2, hx352_3, hx352_4, hx352_5, hx352_6, hx352_7⟩ := at_T40 HR0.out x77_3 p352 q352
                                    cases e352
                                    replace hx352_0 := (HB.out.cell (World.block_lt_of_cell? w _ hx352_0)).trans hx352_0
                                    replace hx352_1 := (HB.out.cell (World.block_lt_of_cell? w _ hx352_1)).trans hx352_1
                                    replace hx352_2 := (HB.out.cell (World.block_lt_of_cell? w _ hx352_2)).trans hx352_2
                                    replace hx352_3 := (HB.out.cell (World.block_lt_of_cell? w _ hx352_3)).trans hx352_3
                                    replace hx352_4 := (HB.out.cell (World.block_lt_of_cell? w _ hx352_4)).trans hx352_4
                                    replace hx352_5 := (HB.out.cell (World.block_lt_of_cell? w _ hx352_5)).trans hx352_5
                                    replace hx352_6 := (HB.out.cell (World.block_lt_of_cell? w _ hx352_6)).trans hx352_6
                                    replace hx352_7 := (HB.out.cell (World.block_lt_of_cell? w _ hx352_7)).trans hx352_7
                                    replace p352 := eq_true p352
                                    replace q352 := eq_true q352
                                    have p353 : 0 ≤ (x77_3 : Int) := of_decide_eq_true (by first | (with_reducible assumption) | assumption)
                                    have q353 : x77_3 < (t338.length : Int) := of_decide_eq_true (by first | (with_reducible assumption) | assumption)
                                    obtain ⟨ad353, e353, hx353_0, hx353_1, hx353_2, hx353_3, hx353_4, hx353_5, hx353_6, hx353_7⟩ := at_T40 (Kd.V_reads' HO_9.out).2.2 x77_3 p353 q353
                                    obtain rfl : ad350 = ad353 := (by injection e353)
                                    replace p353 := eq_true p353
                                    replace q353 := eq_true q353
                                    have p354 : 0 ≤ (x77_3 : Int) := of_decide_eq_true (by first | (with_reducible assumption) | assumption)
                                    have q354 : x77_3 < (l0.length : Int) := of_decide_eq_true (by first | (with_reducible assumption) | assumption)
                                    obtain ⟨ad354, e354, hx354_0, hx354_1, hx354_2, hx354_3, hx354_4, hx354_5, hx354_6, hx354_7⟩ := at_T40 HR0.out x77_3 p354 q354
                                    obtain rfl : ad352 = ad354 := (by injection e354)
                                    replace hx354_0 := (HB.out.cell (World.block_lt_of_cell? w _ hx354_0)).trans hx354_0
                                    replace hx354_1 := (HB.out.cell (World.block_lt_of_cell? w _ hx354_1)).trans hx354_1
                                    replace hx354_2 := (HB.out.cell (World.block_lt_of_cell? w _ hx354_2)).trans hx354_2
                                    replace hx354_3 := (HB.out.cell (World.block_lt_of_cell? w _ hx354_3)).trans hx354_3
                                    replace hx354_4 := (HB.out.cell (World.block_lt_of_cell? w _ hx354_4)).trans hx354_4
                                    replace hx354_5 := (HB.out.cell (World.block_lt_of_cell? w _ hx354_5)).trans hx354_5
                                    replace hx354_6 := (HB.out.cell (World.block_lt_of_cell? w _ hx354_6)).trans hx354_6
                                    replace hx354_7 := (HB.out.cell (World.block_lt_of_cell? w _ hx354_7)).trans hx354_7
                                    replace p354 := eq_true p354
                                    replace q354 := eq_true q354
                                    go_wp2
                                    repeat (go_quiet (fail); try go_wp2)
                                    go_roundg k3
                                    case measure => have := HK1.out; have := HJ46.out; have := HK3.out; omega
                                    case rel => exact ⟨(wrap64 (x77_3 + 1)), (by first | rfl | (simp; done) | (simp [*]; done)), H', ⟨by have := HK1.out; have := HJ46.out; have := HK3.out; omega⟩, ⟨by (with_reducible repeat (first | apply Kd.V_alloc | apply Kd.V_drewN | apply Kd.V_drew)); exact HO_9.out⟩, ⟨by (with_reducible repeat (first | apply Kd.R_alloc | apply Kd.R_drewN | apply Kd.R_drew)); exact HO_10.out⟩, ⟨by (with_reducible repeat (first | refine blk_drewN ?_ _ | refine blk_drew ?_ | refine blk_alloc ?_ _)); exact BK325.out⟩, ⟨by (with_reducible repeat (first | refine blk_drewN ?_ _ | refine blk_drew ?_ | refine blk_alloc ?_ _)); exact BK328.out⟩, ⟨by (with_reducible repeat (first | refine blk_drewN ?_ _ | refine blk_drew ?_ | refine blk_alloc ?_ _)); exact BK349.out⟩, ⟨by repeat (first | (with_reducible first | exact HB.out | apply below_alloc | apply pw_below_drewN | apply below_drew1 | refine below_set ?_ GE325.out | refine below_set ?_ GE328.out | refine below_set ?_ GE349.out) | exact HB.out)⟩⟩
                                  · rw [if_neg c84] at H
                                    have c84b0 : (((rd_T40 t338 x77_3).f0).toList == ((rd_T40 l0 x77_3).f0).toList) = false := beq_eq_false_iff_ne.mpr c84
                                    have c84b1 : (((rd_T40 t338 x77_3).f0).toList != ((rd_T40 l0 x77_3).f0).toList) = true := bne_iff_ne.mpr c84
                                    exact absurd (hr_.out.symm.trans (Option.some.inj H).symm) (by simp)
                              · rw [if_neg c82] at H
                                exact absurd H (by simp)
                            · rw [if_neg c81] at H
                              exact absurd H (by simp)
                        · rw [if_neg c79] at H
                          exact absurd H (by simp)
                      · rw [if_neg c78] at H
                        exact absurd H (by simp)
                    · rw [if_neg c77] at H
                      have c77b0 : decide (x77_3 < (l0.length : Int)) = false := decide_eq_false c77
                      clear c77
                      replace H := Option.bind_eq_some_iff.mp H
                      obtain ⟨⟨t355, t358, t361, t362, t363, t364, t365⟩, A870, H⟩ := H
                      replace H : (trucelaw17_PayAll.l2 k3 t365 t358 (t358.length : Int) 0 t344 t345 t346 t347 t361 t362 t363 t364) = some r := H
                      have A87 := Aside0.mk A870
                      clear A870
                      have H' := Aside0.mk H
                      clear H
                      have hnb88 := NB349_325.out
                      have hnc88 := NB325_349.out
                      have hnb89 := NB349_328.out
                      have hnc89 := NB328_349.out
                      have hcz90_0 : wr.cell? ⟨gb349, 0, none⟩ = some (.int .u64 t344) := (blk_cell BK349.out 0).trans rfl
                      have hcz90_1 : wr.cell? ⟨gb349, 1, none⟩ = some (.int .u64 t345) := (blk_cell BK349.out 1).trans rfl
                      have hcz90_2 : wr.cell? ⟨gb349, 2, none⟩ = some (.int .u64 t346) := (blk_cell BK349.out 2).trans rfl
                      have hcz90_3 : wr.cell? ⟨gb349, 3, none⟩ = some (.int .u64 t347) := (blk_cell BK349.out 3).trans rfl
                      have hfz90_0 := blk_frozen BK349.out 0
                      have hfz90_1 := blk_frozen BK349.out 1
                      have hfz90_2 := blk_frozen BK349.out 2
                      have hfz90_3 := blk_frozen BK349.out 3
                      obtain ⟨Ao91, co91, eo91⟩ := Kd.V_slice HO_9.out
                      subst eo91
                      go_wp2_with (first | (go_at_call 9; (refine (pay_Transfer.calls t344 t345 t346 t347 (fun k_ => (some k_ ≠ (v342 : Value).ownBlock ∧ (k_ ≠ gb325 ∧ (k_ ≠ gb328 ∧ k_ ≠ gb349)))) _ _ t338 _ _ ([] : List Int) t355 t358 t361 t362 t363 t364 t365 _ ?side1 ?side2 ?side3 A87.out).mono ?_); (case side1 => exact HO_9.out); (case side2 => exact Kd.C_nil _ _); (case side3 => exact Nat.le_refl _); rintro e w92 ⟨v356, v359, rfl, ho0, ho1, hb⟩; have n0_ := Aside0.mk (Kd.V_elder' (by (with_reducible repeat (first | apply Kd.V_alloc | apply Kd.V_drewN | apply Kd.V_drew)); exact HO_9.out) (Kd.R_base ho1) hb); have n1_ := Aside0.mk (Kd.R_elder' (by (with_reducible repeat (first | apply Kd.R_alloc | apply Kd.R_drewN | apply Kd.R_drew)); exact HO_10.out) (Kd.R_base ho1) hb); have n2_ := Aside0.mk (Kd.V_lower (Kd.V_mono (ok' := fun k_ => some k_ ≠ (v359 : Value).ownBlock ∧ some k_ ≠ (v342 : Value).ownBlock ∧ k_ ≠ gb325 ∧ k_ ≠ gb328 ∧ k_ ≠ gb349) ho0 (fun k_ hk_ => ⟨hk_.2, Or.elim hk_.1 (fun hs_ => hs_.1) (fun hn_ => (Kd.fresh' (Kd.R_lt (by (with_reducible repeat (first | apply Kd.R_alloc | apply Kd.R_drewN | apply Kd.R_drew)); exact HO_10.out)) k_ hn_)), Or.elim hk_.1 (fun hs_ => hs_.2.1) (fun hn_ => (Kd.freshB (g := gb325) (o := .cells #[.int .u64 a1_0, .int .u64 a1_1, .int .u64 a1_2, .int .u64 a1_3] 24 (0, 0)) (by (with_reducible repeat (first | refine blk_drewN ?_ _ | refine blk_drew ?_ | refine blk_alloc ?_ _)); exact BK325.out) k_ hn_)), Or.elim hk_.1 (fun hs_ => hs_.2.2.1) (fun hn_ => (Kd.freshB (g := gb328) (o := .cells #[.int .u64 x329000_1, .int .u64 x329001_1, .int .u64 x329002_1, .int .u64 x329003_1] 24 (0, 0)) (by (with_reducible repeat (first | refine blk_drewN ?_ _ | refine blk_drew ?_ | refine blk_alloc ?_ _)); exact BK328.out) k_ hn_)), Or.elim hk_.1 (fun hs_ => hs_.2.2.2) (fun hn_ => (Kd.freshB (g := gb349) (o := .cells #[.int .u64 t344, .int .u64 t345, .int .u64 t346, .int .u64 t347] 24 (0, 0)) (by (with_reducible repeat (first | refine blk_drewN ?_ _ | refine blk_drew ?_ | refine blk_alloc ?_ _)); exact BK349.out) k_ hn_))⟩)) (below_size (by repeat (first | (with_reducible first | exact HB.out | apply below_alloc | apply pw_below_drewN | apply below_drew1 | refine below_set ?_ GE325.out | refine below_set ?_ GE328.out | refine below_set ?_ GE349.out) | exact HB.out)))); have n3_ := Aside0.mk (Kd.R_lower (Kd.R_newB (Kd.R_newB (Kd.R_newB (Kd.R_new' (Kd.R_mono (ok' := fun k_ => True) ho1 (fun _ hk_ => trivial)) (Kd.R_lt (by (with_reducible repeat (first | apply Kd.R_alloc | apply Kd.R_drewN | apply Kd.R_drew)); exact HO_10.out))) (g := gb325) (o := .cells #[.int .u64 a1_0, .int .u64 a1_1, .int .u64 a1_2, .int .u64 a1_3] 24 (0, 0)) (by (with_reducible repeat (first | refine blk_drewN ?_ _ | refine blk_drew ?_ | refine blk_alloc ?_ _)); exact BK325.out)) (g := gb328) (o := .cells #[.int .u64 x329000_1, .int .u64 x329001_1, .int .u64 x329002_1, .int .u64 x329003_1] 24 (0, 0)) (by (with_reducible repeat (first | refine blk_drewN ?_ _ | refine blk_drew ?_ | refine blk_alloc ?_ _)); exact BK328.out)) (g := gb349) (o := .cells #[.int .u64 t344, .int .u64 t345, .int .u64 t346, .int .u64 t347] 24 (0, 0)) (by (with_reducible repeat (first | refine blk_drewN ?_ _ | refine blk_drew ?_ | refine blk_alloc ?_ _)); exact BK349.out)) (below_size (by repeat (first | (with_reducible first | exact HB.out | apply below_alloc | apply pw_below_drewN | apply below_drew1 | refine below_set ?_ GE325.out | refine below_set ?_ GE328.out | refine below_set ?_ GE349.out) | exact HB.out)))); have n4_ := Aside0.mk (blk_below (g := gb325) (o := .cells #[.int .u64 a1_0, .int .u64 a1_1, .int .u64 a1_2, .int .u64 a1_3] 24 (0, 0)) (by (with_reducible repeat (first | refine blk_drewN ?_ _ | refine blk_drew ?_ | refine blk_alloc ?_ _)); exact BK325.out) hb); have n5_ := Aside0.mk (blk_below (g := gb328) (o := .cells #[.int .u64 x329000_1, .int .u64 x329001_1, .int .u64 x329002_1, .int .u64 x329003_1] 24 (0, 0)) (by (with_reducible repeat (first | refine blk_drewN ?_ _ | refine blk_drew ?_ | refine blk_alloc ?_ _)); exact BK328.out) hb); have n6_ := Aside0.mk (blk_below (g := gb349) (o := .cells #[.int .u64 t344, .int .u64 t345, .int .u64 t346, .int .u64 t347] 24 (0, 0)) (by (with_reducible repeat (first | refine blk_drewN ?_ _ | refine blk_drew ?_ | refine blk_alloc ?_ _)); exact BK349.out) hb); have n7_ := Aside0.mk (below_step (by repeat (first | (with_reducible first | exact HB.out | apply below_alloc | apply pw_below_drewN | apply below_drew1 | refine below_set ?_ GE325.out | refine below_set ?_ GE328.out | refine below_set ?_ GE349.out) | exact HB.out)) hb); clear HO_9; clear HO_10; clear BK325; clear BK328; clear BK349; clear HB; have HO_9 := n0_; have HO_10 := n1_; have HO357 := n2_; have HO360 := n3_; have BK325 := n4_; have BK328 := n5_; have BK349 := n6_; have HB := n7_; clear n0_ n1_ n2_ n3_ n4_ n5_ n6_ n7_; (try clear hb); (try clear hb2); (try clear hk); (try clear hi); (try clear ho0); (try clear ho1)) | ((with_reducible refine gate_dst (N := 16) rfl ?_); (try (refine gate_guard (by rfl) ?_; dsimp only)); refine box_event ?hg (N := 16) ?hd (cs := #[.int .u64 0, .int .u64 0, .int .u64 0, .int .u64 0]) (t := 24) ?hr ?_; (case hd => rfl); (case hg => rfl); (case hr => first | (go_simp; done) | (go_simp; rfl)); intro gb366 hg w93 hbox hb; have n0_ := Aside0.mk (Kd.V_below (Kd.V_elderB (by (with_reducible repeat (first | apply Kd.V_alloc | apply Kd.V_drewN | apply Kd.V_drew)); exact HO_9.out) gb366 (Nat.le_of_eq hg.symm)) hb); have n1_ := Aside0.mk (Kd.R_below (Kd.R_elderB (by (with_reducible repeat (first | apply Kd.R_alloc | apply Kd.R_drewN | apply Kd.R_drew)); exact HO_10.out) gb366 (Nat.le_of_eq hg.symm)) hb); have n2_ := Aside0.mk (Kd.V_below (Kd.V_elderB (by (with_reducible repeat (first | apply Kd.V_alloc | apply Kd.V_drewN | apply Kd.V_drew)); exact HO357.out) gb366 (Nat.le_of_eq hg.symm)) hb); have n3_ := Aside0.mk (Kd.R_below (Kd.R_elderB (by (with_reducible repeat (first | apply Kd.R_alloc | apply Kd.R_drewN | apply Kd.R_drew)); exact HO360.out) gb366 (Nat.le_of_eq hg.symm)) hb); have n4_ := Aside0.mk (blk_below (g := gb325) (o := .cells #[.int .u64 a1_0, .int .u64 a1_1, .int .u64 a1_2, .int .u64 a1_3] 24 (0, 0)) (by (with_reducible repeat (first | refine blk_drewN ?_ _ | refine blk_drew ?_ | refine blk_alloc ?_ _)); exact BK325.out) hb); have n5_ := Aside0.mk (blk_below (g := gb328) (o := .cells #[.int .u64 x329000_1, .int .u64 x329001_1, .int .u64 x329002_1, .int .u64 x329003_1] 24 (0, 0)) (by (with_reducible repeat (first | refine blk_drewN ?_ _ | refine blk_drew ?_ | refine blk_alloc ?_ _)); exact BK328.out) hb); have n6_ := Aside0.mk (blk_below (g := gb349) (o := .cells #[.int .u64 t344, .int .u64 t345, .int .u64 t346, .int .u64 t347] 24 (0, 0)) (by (with_reducible repeat (first | refine blk_drewN ?_ _ | refine blk_drew ?_ | refine blk_alloc ?_ _)); exact BK349.out) hb); have n7_ := Aside0.mk (below_step (by repeat (first | (with_reducible first | exact HB.out | apply below_alloc | apply pw_below_drewN | apply below_drew1 | refine below_set ?_ GE325.out | refine below_set ?_ GE328.out | refine below_set ?_ GE349.out) | exact HB.out)) hb); have n8_ := Aside0.mk (hbox); have n9_ := Aside0.mk ((by rw [hg]; exact (below_size (by repeat (first | (with_reducible first | exact HB.out | apply below_alloc | apply pw_below_drewN | apply below_drew1 | refine below_set ?_ GE325.out | refine below_set ?_ GE328.out | refine below_set ?_ GE349.out) | exact HB.out))) : w.heap.size ≤ gb366)); have n10_ := Aside0.mk ((by rw [hg]; exact (below_size (by repeat (first | (with_reducible first | exact HB.out | apply below_alloc | apply pw_below_drewN | apply below_drew1 | refine below_set ?_ GE325.out | refine below_set ?_ GE328.out | refine below_set ?_ GE349.out) | exact HB.out))) : w.heap.size ≤ gb366)); have n11_ := Aside0.mk ((by rw [hg]; exact Nat.ne_of_lt (blk_lt (g := gb325) (o := .cells #[.int .u64 a1_0, .int .u64 a1_1, .int .u64 a1_2, .int .u64 a1_3] 24 (0, 0)) (by (with_reducible repeat (first | refine blk_drewN ?_ _ | refine blk_drew ?_ | refine blk_alloc ?_ _)); exact BK325.out)) : gb325 ≠ gb366)); have n12_ := Aside0.mk ((by rw [hg]; exact Nat.ne_of_gt (blk_lt (g := gb325) (o := .cells #[.int .u64 a1_0, .int .u64 a1_1, .int .u64 a1_2, .int .u64 a1_3] 24 (0, 0)) (by (with_reducible repeat (first | refine blk_drewN ?_ _ | refine blk_drew ?_ | refine blk_alloc ?_ _)); exact BK325.out)) : gb366 ≠ gb325)); have n13_ := Aside0.mk ((by rw [hg]; exact Nat.ne_of_lt (blk_lt (g := gb328) (o := .cells #[.int .u64 x329000_1, .int .u64 x329001_1, .int .u64 x329002_1, .int .u64 x329003_1] 24 (0, 0)) (by (with_reducible repeat (first | refine blk_drewN ?_ _ | refine blk_drew ?_ | refine blk_alloc ?_ _)); exact BK328.out)) : gb328 ≠ gb366)); have n14_ := Aside0.mk ((by rw [hg]; exact Nat.ne_of_gt (blk_lt (g := gb328) (o := .cells #[.int .u64 x329000_1, .int .u64 x329001_1, .int .u64 x329002_1, .int .u64 x329003_1] 24 (0, 0)) (by (with_reducible repeat (first | refine blk_drewN ?_ _ | refine blk_drew ?_ | refine blk_alloc ?_ _)); exact BK328.out)) : gb366 ≠ gb328)); have n15_ := Aside0.mk ((by rw [hg]; exact Nat.ne_of_lt (blk_lt (g := gb349) (o := .cells #[.int .u64 t344, .int .u64 t345, .int .u64 t346, .int .u64 t347] 24 (0, 0)) (by (with_reducible repeat (first | refine blk_drewN ?_ _ | refine blk_drew ?_ | refine blk_alloc ?_ _)); exact BK349.out)) : gb349 ≠ gb366)); have n16_ := Aside0.mk ((by rw [hg]; exact Nat.ne_of_gt (blk_lt (g := gb349) (o := .cells #[.int .u64 t344, .int .u64 t345, .int .u64 t346, .int .u64 t347] 24 (0, 0)) (by (with_reducible repeat (first | refine blk_drewN ?_ _ | refine blk_drew ?_ | refine blk_alloc ?_ _)); exact BK349.out)) : gb366 ≠ gb349)); clear HO_9; clear HO_10; clear HO357; clear HO360; clear BK325; clear BK328; clear BK349; clear HB; have HO_9 := n0_; have HO_10 := n1_; have HO357 := n2_; have HO360 := n3_; have BK325 := n4_; have BK328 := n5_; have BK349 := n6_; have HB := n7_; have BK366 := n8_; have GW366 := n9_; have GE366 := n10_; have NB325_366 := n11_; have NB366_325 := n12_; have NB328_366 := n13_; have NB366_328 := n14_; have NB349_366 := n15_; have NB366_349 := n16_; clear n0_ n1_ n2_ n3_ n4_ n5_ n6_ n7_ n8_ n9_ n10_ n11_ n12_ n13_ n14_ n15_ n16_; clear hb hbox hg; have hnb94 := NB366_325.out; have hnc94 := NB325_366.out; have hnb95 := NB366_328.out; have hnc95 := NB328_366.out; have hnb96 := NB366_349.out; have hnc96 := NB349_366.out; have hcz97_0 : w93.cell? ⟨gb366, 0, none⟩ = some (.int .u64 0) := (blk_cell BK366.out 0).trans rfl; have hcz97_1 : w93.cell? ⟨gb366, 1, none⟩ = some (.int .u64 0) := (blk_cell BK366.out 1).trans rfl; have hcz97_2 : w93.cell? ⟨gb366, 2, none⟩ = some (.int .u64 0) := (blk_cell BK366.out 2).trans rfl; have hcz97_3 : w93.cell? ⟨gb366, 3, none⟩ = some (.int .u64 0) := (blk_cell BK366.out 3).trans rfl; have hfz97_0 := blk_frozen BK366.out 0; have hfz97_1 := blk_frozen BK366.out 1; have hfz97_2 := blk_frozen BK366.out 2; have hfz97_3 := blk_frozen BK366.out 3; obtain ⟨Ao98, co98, eo98⟩ := Kd.R_slice HO360.out; subst eo98))
                      repeat (go_quiet (fail))
                      go_loopg [123] k3 (fun kq v123 w' => ∃ (x123_4 : Int), v123 = .int .i64 x123_4 ∧ Aside0 (trucelaw17_PayAll.l2 kq t365 t358 (t358.length : Int) x123_4 t344 t345 t346 t347 t361 t362 t363 t364 = some r) ∧ Aside0 (kq ≤ k3) ∧ Aside0 (Kd.R k24 24 w' w.heap.size (fun k_ => k_ ≠ gb325 ∧ k_ ≠ gb328 ∧ k_ ≠ gb349 ∧ k_ ≠ gb366) (.slice Ao98 t358.length co98) t358) ∧ Aside0 (w'.heap[gb325]? = some (.cells #[.int .u64 a1_0, .int .u64 a1_1, .int .u64 a1_2, .int .u64 a1_3] 24 (0, 0))) ∧ Aside0 (w'.heap[gb328]? = some (.cells #[.int .u64 x329000_1, .int .u64 x329001_1, .int .u64 x329002_1, .int .u64 x329003_1] 24 (0, 0))) ∧ Aside0 (w'.heap[gb349]? = some (.cells #[.int .u64 t344, .int .u64 t345, .int .u64 t346, .int .u64 t347] 24 (0, 0))) ∧ Aside0 (w'.heap[gb366]? = some (.cells #[.int .u64 t361, .int .u64 t362, .int .u64 t363, .int .u64 t364] 24 (0, 0))) ∧ Aside0 (Below w.heap.size w w'))
                      case atStart => exact ⟨(0), (by first | rfl | (simp; done) | (simp [*]; done)), H', ⟨Nat.le_refl _⟩, ⟨by (with_reducible repeat (first | apply Kd.R_alloc | apply Kd.R_drewN | apply Kd.R_drew)); exact Kd.R_mono (Kd.R_far (p := ⟨gb366, 3, none⟩) (Kd.R_far (p := ⟨gb366, 2, none⟩) (Kd.R_far (p := ⟨gb366, 1, none⟩) (Kd.R_far (p := ⟨gb366, 0, none⟩) (Kd.R_mono HO360.out (fun k_ hk => (⟨hk, hk.2⟩ : _ ∧ k_ ≠ gb366))) (fun _ hk => hk.2) (.int .u64 t361)) (fun _ hk => hk.2) (.int .u64 t362)) (fun _ hk => hk.2) (.int .u64 t363)) (fun _ hk => hk.2) (.int .u64 t364)) (fun _ hk => ⟨hk.1.1.1.1.2, ⟨hk.1.1.1.2, ⟨hk.1.1.2, hk.1.2⟩⟩⟩)⟩, ⟨by (with_reducible repeat (first | refine blk_drewN ?_ _ | refine blk_drew ?_ | refine blk_alloc ?_ _)); refine blk_far ?_ NB325_366.out _; (with_reducible repeat (first | refine blk_drewN ?_ _ | refine blk_drew ?_ | refine blk_alloc ?_ _)); refine blk_far ?_ NB325_366.out _; (with_reducible repeat (first | refine blk_drewN ?_ _ | refine blk_drew ?_ | refine blk_alloc ?_ _)); refine blk_far ?_ NB325_366.out _; (with_reducible repeat (first | refine blk_drewN ?_ _ | refine blk_drew ?_ | refine blk_alloc ?_ _)); refine blk_far ?_ NB325_366.out _; (with_reducible repeat (first | refine blk_drewN ?_ _ | refine blk_drew ?_ | refine blk_alloc ?_ _)); exact BK325.out⟩, ⟨by (with_reducible repeat (first | refine blk_drewN ?_ _ | refine blk_drew ?_ | refine blk_alloc ?_ _)); refine blk_far ?_ NB328_366.out _; (with_reducible repeat (first | refine blk_drewN ?_ _ | refine blk_drew ?_ | refine blk_alloc ?_ _)); refine blk_far ?_ NB328_366.out _; (with_reducible repeat (first | refine blk_drewN ?_ _ | refine blk_drew ?_ | refine blk_alloc ?_ _)); refine blk_far ?_ NB328_366.out _; (with_reducible repeat (first | refine blk_drewN ?_ _ | refine blk_drew ?_ | refine blk_alloc ?_ _)); refine blk_far ?_ NB328_366.out _; (with_reducible repeat (first | refine blk_drewN ?_ _ | refine blk_drew ?_ | refine blk_alloc ?_ _)); exact BK328.out⟩, ⟨by (with_reducible repeat (first | refine blk_drewN ?_ _ | refine blk_drew ?_ | refine blk_alloc ?_ _)); refine blk_far ?_ NB349_366.out _; (with_reducible repeat (first | refine blk_drewN ?_ _ | refine blk_drew ?_ | refine blk_alloc ?_ _)); refine blk_far ?_ NB349_366.out _; (with_reducible repeat (first | refine blk_drewN ?_ _ | refine blk_drew ?_ | refine blk_alloc ?_ _)); refine blk_far ?_ NB349_366.out _; (with_reducible repeat (first | refine blk_drewN ?_ _ | refine blk_drew ?_ | refine blk_alloc ?_ _)); refine blk_far ?_ NB349_366.out _; (with_reducible repeat (first | refine blk_drewN ?_ _ | refine blk_drew ?_ | refine blk_alloc ?_ _)); exact BK349.out⟩, ⟨by (with_reducible repeat (first | refine blk_drewN ?_ _ | refine blk_drew ?_ | refine blk_alloc ?_ _)); refine blk_put (cs := #[.int .u64 t361, .int .u64 t362, .int .u64 t363, .int .u64 0]) ?_ 3 _ rfl; (with_reducible repeat (first | refine blk_drewN ?_ _ | refine blk_drew ?_ | refine blk_alloc ?_ _)); refine blk_put (cs := #[.int .u64 t361, .int .u64 t362, .int .u64 0, .int .u64 0]) ?_ 2 _ rfl; (with_reducible repeat (first | refine blk_drewN ?_ _ | refine blk_drew ?_ | refine blk_alloc ?_ _)); refine blk_put (cs := #[.int .u64 t361, .int .u64 0, .int .u64 0, .int .u64 0]) ?_ 1 _ rfl; (with_reducible repeat (first | refine blk_drewN ?_ _ | refine blk_drew ?_ | refine blk_alloc ?_ _)); refine blk_put (cs := #[.int .u64 0, .int .u64 0, .int .u64 0, .int .u64 0]) ?_ 0 _ rfl; (with_reducible repeat (first | refine blk_drewN ?_ _ | refine blk_drew ?_ | refine blk_alloc ?_ _)); exact BK366.out⟩, ⟨by repeat (first | (with_reducible first | exact HB.out | apply below_alloc | apply pw_below_drewN | apply below_drew1 | refine below_set ?_ GE325.out | refine below_set ?_ GE328.out | refine below_set ?_ GE349.out | refine below_set ?_ GE366.out) | exact HB.out)⟩⟩
                      case round =>
                        clear H'
                        try clear c1
                        try clear c2
                        try clear p2
                        try clear c3
                        try clear p3
                        try clear q3
                        try clear hx3
                        try clear c4
                        try clear c5
                        try clear c6
                        try clear p6
                        try clear c7
                        try clear c8
                        try clear c9
                        try clear c10
                        try clear c10b0
                        try clear c11
                        try clear c11b0
                        try clear c12
                        try clear c12b0
                        try clear c14
                        try clear c17
                        try clear c18
                        try clear c20
                        try clear c25
                        try clear c25b0
                        try clear c25b1
                        try clear c27
                        try clear c28
                        try clear c30
                        try clear p32
                        try clear q32
                        try clear hx32
                        try clear p35
                        try clear q35
                        try clear hx35
                        try clear c37
                        try clear c38
                        try clear c40
                        try clear c48
                        try clear c52
                        try clear c53
                        try clear c55
                        try clear c55b0
                        try clear c55b1
                        try clear c56
                        try clear c56b0
                        try clear c57
                        try clear c58
                        try clear c60
                        try clear c62
                        try clear c62b0
                        try clear c62b1
                        try clear c62b2
                        try clear c63
                        try clear c64
                        try clear p64
                        try clear c66
                        try clear c70
                        try clear c71
                        try clear c73
                        try clear c76
                        try clear c77
                        try clear c77b0
                        try clear c78
                        try clear c78b0
                        try clear c79
                        try clear c79b0
                        try clear c80
                        try clear c80b0
                        try clear c81
                        try clear c81b0
                        try clear c82
                        try clear c82b0
                        try clear c83
                        try clear c83b0
                        try clear c84
                        try clear c84b0
                        try clear c84b1
                        try clear c88
                        try clear c89
                        try clear c94
                        try clear c95
                        try clear c96
                        try clear hcz19_0
                        try clear hcz19_1
                        try clear hcz19_2
                        try clear hcz19_3
                        try clear hcz19_4
                        try clear hcz19_5
                        try clear hcz19_6
                        try clear hcz19_7
                        try clear hcz21_0
                        try clear hcz21_1
                        try clear hcz21_2
                        try clear hcz21_3
                        try clear hcz23_0
                        try clear hcz23_1
                        try clear hcz23_2
                        try clear hcz23_3
                        try clear hcz29_0
                        try clear hcz29_1
                        try clear hcz29_2
                        try clear hcz29_3
                        try clear hcz29_4
                        try clear hcz29_5
                        try clear hcz29_6
                        try clear hcz29_7
                        try clear hcz31_0
                        try clear hcz31_1
                        try clear hcz31_2
                        try clear hcz31_3
                        try clear hcz33_0
                        try clear hcz33_1
                        try clear hcz33_2
                        try clear hcz33_3
                        try clear hcz34_0
                        try clear hcz34_1
                        try clear hcz34_2
                        try clear hcz34_3
                        try clear hcz34_4
                        try clear hcz34_5
                        try clear hcz34_6
                        try clear hcz34_7
                        try clear hcz39_0
                        try clear hcz39_1
                        try clear hcz39_2
                        try clear hcz39_3
                        try clear hcz39_4
                        try clear hcz39_5
                        try clear hcz39_6
                        try clear hcz39_7
                        try clear hcz41_0
                        try clear hcz41_1
                        try clear hcz41_2
                        try clear hcz41_3
                        try clear hcz43_0
                        try clear hcz43_1
                        try clear hcz43_2
                        try clear hcz43_3
                        try clear hcz44_0
                        try clear hcz44_1
                        try clear hcz44_2
                        try clear hcz44_3
                        try clear hcz44_4
                        try clear hcz44_5
                        try clear hcz44_6
                        try clear hcz44_7
                        try clear hcz49_0
                        try clear hcz49_1
                        try clear hcz49_2
                        try clear hcz49_3
                        try clear hcz54_0
                        try clear hcz54_1
                        try clear hcz54_2
                        try clear hcz54_3
                        try clear hcz59_0
                        try clear hcz59_1
                        try clear hcz59_2
                        try clear hcz59_3
                        try clear hcz61_0
                        try clear hcz61_1
                        try clear hcz61_2
                        try clear hcz61_3
                        try clear hcz65_0
                        try clear hcz65_1
                        try clear hcz65_2
                        try clear hcz65_3
                        try clear hcz67_0
                        try clear hcz67_1
                        try clear hcz67_2
                        try clear hcz67_3
                        try clear hcz6_0
                        try clear hcz6_1
                        try clear hcz6_2
                        try clear hcz6_3
                        try clear hcz72_0
                        try clear hcz72_1
                        try clear hcz72_2
                        try clear hcz72_3
                        try clear hcz74_0
                        try clear hcz74_1
                        try clear hcz74_2
                        try clear hcz74_3
                        try clear hcz90_0
                        try clear hcz90_1
                        try clear hcz90_2
                        try clear hcz90_3
                        try clear hcz97_0
                        try clear hcz97_1
                        try clear hcz97_2
                        try clear hcz97_3
                        try clear hcz9_0
                        try clear hcz9_1
                        try clear hcz9_2
                        try clear hcz9_3
                        try clear hfz19_0
                        try clear hfz19_1
                        try clear hfz19_2
                        try clear hfz19_3
                        try clear hfz19_4
                        try clear hfz19_5
                        try clear hfz19_6
                        try clear hfz19_7
                        try clear hfz21_0
                        try clear hfz21_1
                        try clear hfz21_2
                        try clear hfz21_3
                        try clear hfz23_0
                        try clear hfz23_1
                        try clear hfz23_2
                        try clear hfz23_3
                        try clear hfz29_0
                        try clear hfz29_1
                        try clear hfz29_2
                        try clear hfz29_3
                        try clear hfz29_4
                        try clear hfz29_5
                        try clear hfz29_6
                        try clear hfz29_7
                        try clear hfz31_0
                        try clear hfz31_1
                        try clear hfz31_2
                        try clear hfz31_3
                        try clear hfz33_0
                        try clear hfz33_1
                        try clear hfz33_2
                        try clear hfz33_3
                        try clear hfz34_0
                        try clear hfz34_1
                        try clear hfz34_2
                        try clear hfz34_3
                        try clear hfz34_4
                        try clear hfz34_5
                        try clear hfz34_6
                        try clear hfz34_7
                        try clear hfz39_0
                        try clear hfz39_1
                        try clear hfz39_2
                        try clear hfz39_3
                        try clear hfz39_4
                        try clear hfz39_5
                        try clear hfz39_6
                        try clear hfz39_7
                        try clear hfz41_0
                        try clear hfz41_1
                        try clear hfz41_2
                        try clear hfz41_3
                        try clear hfz43_0
                        try clear hfz43_1
                        try clear hfz43_2
                        try clear hfz43_3
                        try clear hfz44_0
                        try clear hfz44_1
                        try clear hfz44_2
                        try clear hfz44_3
                        try clear hfz44_4
                        try clear hfz44_5
                        try clear hfz44_6
                        try clear hfz44_7
                        try clear hfz49_0
                        try clear hfz49_1
                        try clear hfz49_2
                        try clear hfz49_3
                        try clear hfz54_0
                        try clear hfz54_1
                        try clear hfz54_2
                        try clear hfz54_3
                        try clear hfz59_0
                        try clear hfz59_1
                        try clear hfz59_2
                        try clear hfz59_3
                        try clear hfz61_0
                        try clear hfz61_1
                        try clear hfz61_2
                        try clear hfz61_3
                        try clear hfz65_0
                        try clear hfz65_1
                        try clear hfz65_2
                        try clear hfz65_3
                        try clear hfz67_0
                        try clear hfz67_1
                        try clear hfz67_2
                        try clear hfz67_3
                        try clear hfz6_0
                        try clear hfz6_1
                        try clear hfz6_2
                        try clear hfz6_3
                        try clear hfz72_0
                        try clear hfz72_1
                        try clear hfz72_2
                        try clear hfz72_3
                        try clear hfz74_0
                        try clear hfz74_1
                        try clear hfz74_2
                        try clear hfz74_3
                        try clear hfz90_0
                        try clear hfz90_1
                        try clear hfz90_2
                        try clear hfz90_3
                        try clear hfz97_0
                        try clear hfz97_1
                        try clear hfz97_2
                        try clear hfz97_3
                        try clear hfz9_0
                        try clear hfz9_1
                        try clear hfz9_2
                        try clear hfz9_3
                        try clear hx329_0
                        try clear hx329_1
                        try clear hx329_2
                        try clear hx329_3
                        try clear hx329_4
                        try clear hx329_5
                        try clear hx329_6
                        try clear hx329_7
                        try clear hx350_0
                        try clear hx350_1
                        try clear hx350_2
                        try clear hx350_3
                        try clear hx350_4
                        try clear hx350_5
                        try clear hx350_6
                        try clear hx350_7
                        try clear hx351_0
                        try clear hx351_1
                        try clear hx351_2
                        try clear hx351_3
                        try clear hx352_0
                        try clear hx352_1
                        try clear hx352_2
                        try clear hx352_3
                        try clear hx352_4
                        try clear hx352_5
                        try clear hx352_6
                        try clear hx352_7
                        try clear hx353_0
                        try clear hx353_1
                        try clear hx353_2
                        try clear hx353_3
                        try clear hx353_4
                        try clear hx353_5
                        try clear hx353_6
                        try clear hx353_7
                        try clear hx354_0
                        try clear hx354_1
                        try clear hx354_2
                        try clear hx354_3
                        try clear hx354_4
                        try clear hx354_5
                        try clear hx354_6
                        try clear hx354_7
                        try clear p2
                        try clear p3
                        try clear p32
                        try clear p329
                        try clear p350
                        try clear p351
                        try clear p352
                        try clear p353
                        try clear p354
                        try clear p6
                        try clear p64
                        try clear q3
                        try clear q32
                        try clear q329
                        try clear q350
                        try clear q351
                        try clear q352
                        try clear q353
                        try clear q354
                        obtain ⟨x123_4, rfl, HA, HK4, HO_121, BK325, BK328, BK349, BK366, HB⟩ := hrel
                        cases gk with
                        | zero => exact absurd HA.out (by simp [trucelaw17_PayAll.l2])
                        | succ k4 =>
                          have H := HA.out
                          clear HA
                          simp only [trucelaw17_PayAll.l2] at H
                          by_cases c99 : x123_4 < (t358.length : Int)
                          · rw [if_pos c99] at H
                            have c99b0 : decide (x123_4 < (t358.length : Int)) = true := decide_eq_true c99
                            clear c99
                            by_cases c100 : 0 ≤ x123_4
                            · rw [if_pos c100] at H
                              have c100b0 : decide (0 ≤ x123_4) = true := decide_eq_true c100
                              clear c100
                              by_cases c101 : x123_4 < (t358.length : Int)
                              · rw [if_pos c101] at H
                                have c101b0 : decide (x123_4 < (t358.length : Int)) = true := decide_eq_true c101
                                clear c101
                                by_cases c102 : (!(((rd_T24 t358 x123_4).f0) == 0) || (!(((rd_T24 t358 x123_4).f1) == 0) || (!(((rd_T24 t358 x123_4).f2) == 0) || (!(((rd_T24 t358 x123_4).f3) == 0))))) = true
                                · rw [if_pos c102] at H
                                  have c102b0 : (!(((rd_T24 t358 x123_4).f0) == 0) || (!(((rd_T24 t358 x123_4).f1) == 0) || (!(((rd_T24 t358 x123_4).f2) == 0) || (!(((rd_T24 t358 x123_4).f3) == 0))))) = true := c102
                                  clear c102
                                  exact absurd (hr_.out.symm.trans (Option.some.inj H).symm) (by simp)
                                · rw [if_neg c102] at H
                                  have c102b0 : (!(((rd_T24 t358 x123_4).f0) == 0) || (!(((rd_T24 t358 x123_4).f1) == 0) || (!(((rd_T24 t358 x123_4).f2) == 0) || (!(((rd_T24 t358 x123_4).f3) == 0))))) = false := by simpa using c102
                                  clear c102
                                  have H' := Aside0.mk H
                                  clear H
                                  have p367 : 0 ≤ (x123_4 : Int) := of_decide_eq_true (by first | (with_reducible assumption) | assumption)
                                  have q367 : x123_4 < (t358.length : Int) := of_decide_eq_true (by first | (with_reducible assumption) | assumption)
                                  obtain ⟨ad367, e367, hx367_0, hx367_1, hx367_2, hx367_3⟩ := at_T24 (Kd.R_reads' HO_121.out).2.2 x123_4 p367 q367
                                  cases e367
                                  replace p367 := eq_true p367
                                  replace q367 := eq_true q367
                                  go_wp2_with (first | ((with_reducible refine gate_dst (N := 19) rfl ?_); (try (refine gate_guard (by rfl) ?_; dsimp only)); refine box_event ?hg (N := 19) ?hd (cs := #[.int .u64 0, .int .u64 0, .int .u64 0, .int .u64 0]) (t := 24) ?hr ?_; (case hd => rfl); (case hg => rfl); (case hr => first | (go_simp; done) | (go_simp; rfl)); intro gb368 hg w103 hbox hb; have n0_ := Aside0.mk (Kd.R_below (Kd.R_elderB (by (with_reducible repeat (first | apply Kd.R_alloc | apply Kd.R_drewN | apply Kd.R_drew)); exact HO_121.out) gb368 (Nat.le_of_eq hg.symm)) hb); have n1_ := Aside0.mk (blk_below (g := gb325) (o := .cells #[.int .u64 a1_0, .int .u64 a1_1, .int .u64 a1_2, .int .u64 a1_3] 24 (0, 0)) (by (with_reducible repeat (first | refine blk_drewN ?_ _ | refine blk_drew ?_ | refine blk_alloc ?_ _)); exact BK325.out) hb); have n2_ := Aside0.mk (blk_below (g := gb328) (o := .cells #[.int .u64 x329000_1, .int .u64 x329001_1, .int .u64 x329002_1, .int .u64 x329003_1] 24 (0, 0)) (by (with_reducible repeat (first | refine blk_drewN ?_ _ | refine blk_drew ?_ | refine blk_alloc ?_ _)); exact BK328.out) hb); have n3_ := Aside0.mk (blk_below (g := gb349) (o := .cells #[.int .u64 t344, .int .u64 t345, .int .u64 t346, .int .u64 t347] 24 (0, 0)) (by (with_reducible repeat (first | refine blk_drewN ?_ _ | refine blk_drew ?_ | refine blk_alloc ?_ _)); exact BK349.out) hb); have n4_ := Aside0.mk (blk_below (g := gb366) (o := .cells #[.int .u64 t361, .int .u64 t362, .int .u64 t363, .int .u64 t364] 24 (0, 0)) (by (with_reducible repeat (first | refine blk_drewN ?_ _ | refine blk_drew ?_ | refine blk_alloc ?_ _)); exact BK366.out) hb); have n5_ := Aside0.mk (below_step (by repeat (first | (with_reducible first | exact HB.out | apply below_alloc | apply pw_below_drewN | apply below_drew1 | refine below_set ?_ GE325.out | refine below_set ?_ GE328.out | refine below_set ?_ GE349.out | refine below_set ?_ GE366.out) | exact HB.out)) hb); have n6_ := Aside0.mk (hbox); have n7_ := Aside0.mk ((by rw [hg]; exact (below_size (by repeat (first | (with_reducible first | exact HB.out | apply below_alloc | apply pw_below_drewN | apply below_drew1 | refine below_set ?_ GE325.out | refine below_set ?_ GE328.out | refine below_set ?_ GE349.out | refine below_set ?_ GE366.out) | exact HB.out))) : w.heap.size ≤ gb368)); have n8_ := Aside0.mk ((by rw [hg]; exact (below_size (by repeat (first | (with_reducible first | exact HB.out | apply below_alloc | apply pw_below_drewN | apply below_drew1 | refine below_set ?_ GE325.out | refine below_set ?_ GE328.out | refine below_set ?_ GE349.out | refine below_set ?_ GE366.out) | exact HB.out))) : w.heap.size ≤ gb368)); have n9_ := Aside0.mk ((by rw [hg]; exact Nat.ne_of_lt (blk_lt (g := gb325) (o := .cells #[.int .u64 a1_0, .int .u64 a1_1, .int .u64 a1_2, .int .u64 a1_3] 24 (0, 0)) (by (with_reducible repeat (first | refine blk_drewN ?_ _ | refine blk_drew ?_ | refine blk_alloc ?_ _)); exact BK325.out)) : gb325 ≠ gb368)); have n10_ := Aside0.mk ((by rw [hg]; exact Nat.ne_of_gt (blk_lt (g := gb325) (o := .cells #[.int .u64 a1_0, .int .u64 a1_1, .int .u64 a1_2, .int .u64 a1_3] 24 (0, 0)) (by (with_reducible repeat (first | refine blk_drewN ?_ _ | refine blk_drew ?_ | refine blk_alloc ?_ _)); exact BK325.out)) : gb368 ≠ gb325)); have n11_ := Aside0.mk ((by rw [hg]; exact Nat.ne_of_lt (blk_lt (g := gb328) (o := .cells #[.int .u64 x329000_1, .int .u64 x329001_1, .int .u64 x329002_1, .int .u64 x329003_1] 24 (0, 0)) (by (with_reducible repeat (first | refine blk_drewN ?_ _ | refine blk_drew ?_ | refine blk_alloc ?_ _)); exact BK328.out)) : gb328 ≠ gb368)); have n12_ := Aside0.mk ((by rw [hg]; exact Nat.ne_of_gt (blk_lt (g := gb328) (o := .cells #[.int .u64 x329000_1, .int .u64 x329001_1, .int .u64 x329002_1, .int .u64 x329003_1] 24 (0, 0)) (by (with_reducible repeat (first | refine blk_drewN ?_ _ | refine blk_drew ?_ | refine blk_alloc ?_ _)); exact BK328.out)) : gb368 ≠ gb328)); have n13_ := Aside0.mk ((by rw [hg]; exact Nat.ne_of_lt (blk_lt (g := gb349) (o := .cells #[.int .u64 t344, .int .u64 t345, .int .u64 t346, .int .u64 t347] 24 (0, 0)) (by (with_reducible repeat (first | refine blk_drewN ?_ _ | refine blk_drew ?_ | refine blk_alloc ?_ _)); exact BK349.out)) : gb349 ≠ gb368)); have n14_ := Aside0.mk ((by rw [hg]; exact Nat.ne_of_gt (blk_lt (g := gb349) (o := .cells #[.int .u64 t344, .int .u64 t345, .int .u64 t346, .int .u64 t347] 24 (0, 0)) (by (with_reducible repeat (first | refine blk_drewN ?_ _ | refine blk_drew ?_ | refine blk_alloc ?_ _)); exact BK349.out)) : gb368 ≠ gb349)); have n15_ := Aside0.mk ((by rw [hg]; exact Nat.ne_of_lt (blk_lt (g := gb366) (o := .cells #[.int .u64 t361, .int .u64 t362, .int .u64 t363, .int .u64 t364] 24 (0, 0)) (by (with_reducible repeat (first | refine blk_drewN ?_ _ | refine blk_drew ?_ | refine blk_alloc ?_ _)); exact BK366.out)) : gb366 ≠ gb368)); have n16_ := Aside0.mk ((by rw [hg]; exact Nat.ne_of_gt (blk_lt (g := gb366) (o := .cells #[.int .u64 t361, .int .u64 t362, .int .u64 t363, .int .u64 t364] 24 (0, 0)) (by (with_reducible repeat (first | refine blk_drewN ?_ _ | refine blk_drew ?_ | refine blk_alloc ?_ _)); exact BK366.out)) : gb368 ≠ gb366)); clear HO_121; clear BK325; clear BK328; clear BK349; clear BK366; clear HB; have HO_121 := n0_; have BK325 := n1_; have BK328 := n2_; have BK349 := n3_; have BK366 := n4_; have HB := n5_; have BK368 := n6_; have GW368 := n7_; have GE368 := n8_; have NB325_368 := n9_; have NB368_325 := n10_; have NB328_368 := n11_; have NB368_328 := n12_; have NB349_368 := n13_; have NB368_349 := n14_; have NB366_368 := n15_; have NB368_366 := n16_; clear n0_ n1_ n2_ n3_ n4_ n5_ n6_ n7_ n8_ n9_ n10_ n11_ n12_ n13_ n14_ n15_ n16_; clear hb hbox hg; have hnb104 := NB368_325.out; have hnc104 := NB325_368.out; have hnb105 := NB368_328.out; have hnc105 := NB328_368.out; have hnb106 := NB368_349.out; have hnc106 := NB349_368.out; have hnb107 := NB368_366.out; have hnc107 := NB366_368.out; have hcz108_0 : w103.cell? ⟨gb368, 0, none⟩ = some (.int .u64 0) := (blk_cell BK368.out 0).trans rfl; have hcz108_1 : w103.cell? ⟨gb368, 1, none⟩ = some (.int .u64 0) := (blk_cell BK368.out 1).trans rfl; have hcz108_2 : w103.cell? ⟨gb368, 2, none⟩ = some (.int .u64 0) := (blk_cell BK368.out 2).trans rfl; have hcz108_3 : w103.cell? ⟨gb368, 3, none⟩ = some (.int .u64 0) := (blk_cell BK368.out 3).trans rfl; have hfz108_0 := blk_frozen BK368.out 0; have hfz108_1 := blk_frozen BK368.out 1; have hfz108_2 := blk_frozen BK368.out 2; have hfz108_3 := blk_frozen BK368.out 3))
                                  repeat (go_quiet (fail))
                                  go_roundg k4
                                  case measure => have := HK1.out; have := HJ46.out; have := HK3.out; have := HK4.out; omega
                                  case rel => exact ⟨(wrap64 (x123_4 + 1)), (by first | rfl | (simp; done) | (simp [*]; done)), H', ⟨by have := HK1.out; have := HJ46.out; have := HK3.out; have := HK4.out; omega⟩, ⟨by (with_reducible repeat (first | apply Kd.R_alloc | apply Kd.R_drewN | apply Kd.R_drew)); exact Kd.R_mono (Kd.R_far (p := ⟨gb368, 3, none⟩) (Kd.R_far (p := ⟨gb368, 2, none⟩) (Kd.R_far (p := ⟨gb368, 1, none⟩) (Kd.R_far (p := ⟨gb368, 0, none⟩) (Kd.R_mono HO_121.out (fun k_ hk => (⟨hk, hk.2⟩ : _ ∧ k_ ≠ gb368))) (fun _ hk => hk.2) (.int .u64 ((rd_T24 t358 x123_4).f0))) (fun _ hk => hk.2) (.int .u64 ((rd_T24 t358 x123_4).f1))) (fun _ hk => hk.2) (.int .u64 ((rd_T24 t358 x123_4).f2))) (fun _ hk => hk.2) (.int .u64 ((rd_T24 t358 x123_4).f3))) (fun _ hk => ⟨hk.1.1.1, ⟨hk.1.1.2.1, ⟨hk.1.1.2.2.1, hk.1.1.2.2.2⟩⟩⟩)⟩, ⟨by (with_reducible repeat (first | refine blk_drewN ?_ _ | refine blk_drew ?_ | refine blk_alloc ?_ _)); refine blk_far ?_ NB325_368.out _; (with_reducible repeat (first | refine blk_drewN ?_ _ | refine blk_drew ?_ | refine blk_alloc ?_ _)); refine blk_far ?_ NB325_368.out _; (with_reducible repeat (first | refine blk_drewN ?_ _ | refine blk_drew ?_ | refine blk_alloc ?_ _)); refine blk_far ?_ NB325_368.out _; (with_reducible repeat (first | refine blk_drewN ?_ _ | refine blk_drew ?_ | refine blk_alloc ?_ _)); refine blk_far ?_ NB325_368.out _; (with_reducible repeat (first | refine blk_drewN ?_ _ | refine blk_drew ?_ | refine blk_alloc ?_ _)); exact BK325.out⟩, ⟨by (with_reducible repeat (first | refine blk_drewN ?_ _ | refine blk_drew ?_ | refine blk_alloc ?_ _)); refine blk_far ?_ NB328_368.out _; (with_reducible repeat (first | refine blk_drewN ?_ _ | refine blk_drew ?_ | refine blk_alloc ?_ _)); refine blk_far ?_ NB328_368.out _; (with_reducible repeat (first | refine blk_drewN ?_ _ | refine blk_drew ?_ | refine blk_alloc ?_ _)); refine blk_far ?_ NB328_368.out _; (with_reducible repeat (first | refine blk_drewN ?_ _ | refine blk_drew ?_ | refine blk_alloc ?_ _)); refine blk_far ?_ NB328_368.out _; (with_reducible repeat (first | refine blk_drewN ?_ _ | refine blk_drew ?_ | refine blk_alloc ?_ _)); exact BK328.out⟩, ⟨by (with_reducible repeat (first | refine blk_drewN ?_ _ | refine blk_drew ?_ | refine blk_alloc ?_ _)); refine blk_far ?_ NB349_368.out _; (with_reducible repeat (first | refine blk_drewN ?_ _ | refine blk_drew ?_ | refine blk_alloc ?_ _)); refine blk_far ?_ NB349_368.out _; (with_reducible repeat (first | refine blk_drewN ?_ _ | refine blk_drew ?_ | refine blk_alloc ?_ _)); refine blk_far ?_ NB349_368.out _; (with_reducible repeat (first | refine blk_drewN ?_ _ | refine blk_drew ?_ | refine blk_alloc ?_ _)); refine blk_far ?_ NB349_368.out _; (with_reducible repeat (first | refine blk_drewN ?_ _ | refine blk_drew ?_ | refine blk_alloc ?_ _)); exact BK349.out⟩, ⟨by (with_reducible repeat (first | refine blk_drewN ?_ _ | refine blk_drew ?_ | refine blk_alloc ?_ _)); refine blk_far ?_ NB366_368.out _; (with_reducible repeat (first | refine blk_drewN ?_ _ | refine blk_drew ?_ | refine blk_alloc ?_ _)); refine blk_far ?_ NB366_368.out _; (with_reducible repeat (first | refine blk_drewN ?_ _ | refine blk_drew ?_ | refine blk_alloc ?_ _)); refine blk_far ?_ NB366_368.out _; (with_reducible repeat (first | refine blk_drewN ?_ _ | refine blk_drew ?_ | refine blk_alloc ?_ _)); refine blk_far ?_ NB366_368.out _; (with_reducible repeat (first | refine blk_drewN ?_ _ | refine blk_drew ?_ | refine blk_alloc ?_ _)); exact BK366.out⟩, ⟨by repeat (first | (with_reducible first | exact HB.out | apply below_alloc | apply pw_below_drewN | apply below_drew1 | refine below_set ?_ GE325.out | refine below_set ?_ GE328.out | refine below_set ?_ GE349.out | refine below_set ?_ GE366.out | refine below_set ?_ GE368.out) | exact HB.out)⟩⟩
                              · rw [if_neg c101] at H
                                exact absurd H (by simp)
                            · rw [if_neg c100] at H
                              exact absurd H (by simp)
                          · rw [if_neg c99] at H
                            have c99b0 : decide (x123_4 < (t358.length : Int)) = false := decide_eq_false c99
                            clear c99
                            by_cases c109 : t365 = 0
                            · rw [if_pos c109] at H
                              have c109b0 : (t365 == 0) = true := beq_iff_eq.mpr c109
                              have c109b1 : (t365 != 0) = false := bne_eq_false_iff_eq.mpr c109
                              clear c109
                              by_cases c110 : (t361 == t344 && (t362 == t345 && (t363 == t346 && (t364 == t347)))) = true
                              · rw [if_pos c110] at H
                                have c110b0 : (t361 == t344 && (t362 == t345 && (t363 == t346 && (t364 == t347)))) = true := c110
                                (try (have c110b1 : decide (t361 = t344 && (t362 == t345 && (t363 == t346 && (t364 == t347)))) = true := by simpa using c110))
                                (try (have c110b2 : (t361 == t344 && (t362 == t345 && (t363 == t346 && (t364 == t347)))) = true := by simpa using c110))
                                clear c110
                                replace H := Option.bind_eq_some_iff.mp H
                                obtain ⟨t369, A1110, H⟩ := H
                                replace H : (some t369) = some r := H
                                have A111 := Aside0.mk A1110
                                clear A1110
                                obtain rfl := Option.some.inj H
                                have hnb112 := NB366_325.out
                                have hnc112 := NB325_366.out
                                have hnb113 := NB366_328.out
                                have hnc113 := NB328_366.out
                                have hnb114 := NB366_349.out
                                have hnc114 := NB349_366.out
                                have hcz115_0 : wr.cell? ⟨gb366, 0, none⟩ = some (.int .u64 t361) := (blk_cell BK366.out 0).trans rfl
                                have hcz115_1 : wr.cell? ⟨gb366, 1, none⟩ = some (.int .u64 t362) := (blk_cell BK366.out 1).trans rfl
                                have hcz115_2 : wr.cell? ⟨gb366, 2, none⟩ = some (.int .u64 t363) := (blk_cell BK366.out 2).trans rfl
                                have hcz115_3 : wr.cell? ⟨gb366, 3, none⟩ = some (.int .u64 t364) := (blk_cell BK366.out 3).trans rfl
                                have hfz115_0 := blk_frozen BK366.out 0
                                have hfz115_1 := blk_frozen BK366.out 1
                                have hfz115_2 := blk_frozen BK366.out 2
                                have hfz115_3 := blk_frozen BK366.out 3
                                have hnb116 := NB349_325.out
                                have hnc116 := NB325_349.out
                                have hnb117 := NB349_328.out
                                have hnc117 := NB328_349.out
                                have hcz118_0 : wr.cell? ⟨gb349, 0, none⟩ = some (.int .u64 t344) := (blk_cell BK349.out 0).trans rfl
                                have hcz118_1 : wr.cell? ⟨gb349, 1, none⟩ = some (.int .u64 t345) := (blk_cell BK349.out 1).trans rfl
                                have hcz118_2 : wr.cell? ⟨gb349, 2, none⟩ = some (.int .u64 t346) := (blk_cell BK349.out 2).trans rfl
                                have hcz118_3 : wr.cell? ⟨gb349, 3, none⟩ = some (.int .u64 t347) := (blk_cell BK349.out 3).trans rfl
                                have hfz118_0 := blk_frozen BK349.out 0
                                have hfz118_1 := blk_frozen BK349.out 1
                                have hfz118_2 := blk_frozen BK349.out 2
                                have hfz118_3 := blk_frozen BK349.out 3
                                go_wp2_with (first | (go_at_call 8; (with_reducible refine (trucelaw17_awake.calls k4  t369 _ A111.out).mono ?_); rintro e w119 ⟨rfl, hb⟩; have n0_ := Aside0.mk (Kd.R_below (by (with_reducible repeat (first | apply Kd.R_alloc | apply Kd.R_drewN | apply Kd.R_drew)); exact HO_121.out) hb); have n1_ := Aside0.mk (blk_below (g := gb325) (o := .cells #[.int .u64 a1_0, .int .u64 a1_1, .int .u64 a1_2, .int .u64 a1_3] 24 (0, 0)) (by (with_reducible repeat (first | refine blk_drewN ?_ _ | refine blk_drew ?_ | refine blk_alloc ?_ _)); exact BK325.out) hb); have n2_ := Aside0.mk (blk_below (g := gb328) (o := .cells #[.int .u64 x329000_1, .int .u64 x329001_1, .int .u64 x329002_1, .int .u64 x329003_1] 24 (0, 0)) (by (with_reducible repeat (first | refine blk_drewN ?_ _ | refine blk_drew ?_ | refine blk_alloc ?_ _)); exact BK328.out) hb); have n3_ := Aside0.mk (blk_below (g := gb349) (o := .cells #[.int .u64 t344, .int .u64 t345, .int .u64 t346, .int .u64 t347] 24 (0, 0)) (by (with_reducible repeat (first | refine blk_drewN ?_ _ | refine blk_drew ?_ | refine blk_alloc ?_ _)); exact BK349.out) hb); have n4_ := Aside0.mk (blk_below (g := gb366) (o := .cells #[.int .u64 t361, .int .u64 t362, .int .u64 t363, .int .u64 t364] 24 (0, 0)) (by (with_reducible repeat (first | refine blk_drewN ?_ _ | refine blk_drew ?_ | refine blk_alloc ?_ _)); exact BK366.out) hb); have n5_ := Aside0.mk (below_step (by repeat (first | (with_reducible first | exact HB.out | apply below_alloc | apply pw_below_drewN | apply below_drew1 | refine below_set ?_ GE325.out | refine below_set ?_ GE328.out | refine below_set ?_ GE349.out | refine below_set ?_ GE366.out) | exact HB.out)) hb); clear HO_121; clear BK325; clear BK328; clear BK349; clear BK366; clear HB; have HO_121 := n0_; have BK325 := n1_; have BK328 := n2_; have BK349 := n3_; have BK366 := n4_; have HB := n5_; clear n0_ n1_ n2_ n3_ n4_ n5_; (try clear hb); (try clear hb2); (try clear hk); (try clear hi)))
                                repeat (go_quiet (fail))
                                go_ret
                                exact ⟨by first | rfl | (simp [errW_none, errW_some] <;> rfl) | (simp [*, errW_none, errW_some] <;> rfl), by repeat (first | (with_reducible first | exact HB.out | apply below_alloc | apply pw_below_drewN | apply below_drew1 | refine below_set ?_ GE325.out | refine below_set ?_ GE328.out | refine below_set ?_ GE349.out | refine below_set ?_ GE366.out) | exact HB.out)⟩
                              · rw [if_neg c110] at H
                                have c110b0 : (t361 == t344 && (t362 == t345 && (t363 == t346 && (t364 == t347)))) = false := by simpa using c110
                                (try (have c110b1 : decide (t361 = t344 && (t362 == t345 && (t363 == t346 && (t364 == t347)))) = false := by simpa using c110))
                                (try (have c110b2 : (t361 == t344 && (t362 == t345 && (t363 == t346 && (t364 == t347)))) = false := by simpa using c110))
                                (try (have c110b3 : ¬ (t361 = t344 && (t362 == t345 && (t363 == t346 && (t364 == t347)))) := by simpa using c110))
                                clear c110
                                exact absurd (hr_.out.symm.trans (Option.some.inj H).symm) (by simp)
                            · rw [if_neg c109] at H
                              have c109b0 : (t365 == 0) = false := beq_eq_false_iff_ne.mpr c109
                              have c109b1 : (t365 != 0) = true := bne_iff_ne.mpr c109
                              exact absurd (hr_.out.symm.trans (Option.some.inj H).symm) (by simp)
  · replace c4 := Bool.eq_false_iff.mpr c4
    subst c4
    have H1 : ((trucelaw17_awake.f k).bind fun t327 => (some t327)) = some r := by rw [if_neg (show ¬ (false = true) by decide)] at H; exact H
    clear H
    have H := H1
    clear H1
    replace H := Option.bind_eq_some_iff.mp H
    obtain ⟨t327, A1200, H⟩ := H
    replace H : (some t327) = some r := H
    have A120 := Aside0.mk A1200
    clear A1200
    obtain rfl := Option.some.inj H
    go_enter Try.func6, Try.ntmps6
    go_wp2_with (first | ((with_reducible refine gate_dst (N := 3) rfl ?_); (try (refine gate_guard (by rfl) ?_; dsimp only)); refine box_event ?hg (N := 3) ?hd (cs := #[.int .u64 a1_0, .int .u64 a1_1, .int .u64 a1_2, .int .u64 a1_3]) (t := 24) ?hr ?_; (case hd => rfl); (case hg => rfl); (case hr => first | (go_simp; done) | (go_simp; rfl)); intro gb325 hg w121 hbox hb; have n0_ := Aside0.mk (below_step (by repeat (first | (with_reducible first | exact HB.out | apply below_alloc | apply pw_below_drewN | apply below_drew1) | exact HB.out)) hb); have n1_ := Aside0.mk (hbox); have n2_ := Aside0.mk ((by rw [hg]; exact (below_size (by repeat (first | (with_reducible first | exact HB.out | apply below_alloc | apply pw_below_drewN | apply below_drew1) | exact HB.out))) : w.heap.size ≤ gb325)); have n3_ := Aside0.mk ((by rw [hg]; exact (below_size (by repeat (first | (with_reducible first | exact HB.out | apply below_alloc | apply pw_below_drewN | apply below_drew1) | exact HB.out))) : w.heap.size ≤ gb325)); clear HB; have HB := n0_; have BK325 := n1_; have GW325 := n2_; have GE325 := n3_; clear n0_ n1_ n2_ n3_; clear hb hbox hg) | (go_at_call 7; (refine (trucelaw17_few.calls _ _ l0 _ _ ([] : List Int) false _ ?side1 ?side2 ?side3 ?side4 A3.out).mono ?_); (case side1 => repeat (first | exact (Kd.C_below HR0.out HB.out) | (with_reducible refine Kd.C_alloc ?_ _) | (with_reducible refine Kd.C_drewN ?_ _) | (with_reducible refine Kd.C_drew ?_))); (case side2 => exact HC0.out); (case side3 => exact Kd.C_nil _ _); (case side4 => exact Nat.le_refl _); rintro e w' ⟨rfl, ⟨nd, rfl⟩⟩; (try first | exact ⟨rfl, _, World.drewN_drewN _ _ _⟩ | exact ⟨rfl, _, Eq.trans (World.drewN_drewN _ _ _) (congrArg (World.drewN _) (Nat.add_assoc _ _ _))⟩)) | (go_at_call 8; (with_reducible refine (trucelaw17_awake.calls k  t327 _ A120.out).mono ?_); rintro e w122 ⟨rfl, hb⟩; have n0_ := Aside0.mk (blk_below (g := gb325) (o := .cells #[.int .u64 a1_0, .int .u64 a1_1, .int .u64 a1_2, .int .u64 a1_3] 24 (0, 0)) (by (with_reducible repeat (first | refine blk_drewN ?_ _ | refine blk_drew ?_ | refine blk_alloc ?_ _)); exact BK325.out) hb); have n1_ := Aside0.mk (below_step (by repeat (first | (with_reducible first | exact HB.out | apply below_alloc | apply pw_below_drewN | apply below_drew1 | refine below_set ?_ GE325.out) | exact HB.out)) hb); clear BK325; clear HB; have BK325 := n0_; have HB := n1_; clear n0_ n1_; (try clear hb); (try clear hb2); (try clear hk); (try clear hi)))
    repeat (go_quiet (fail))
    go_ret
    exact ⟨by first | rfl | (simp [errW_none, errW_some] <;> rfl) | (simp [*, errW_none, errW_some] <;> rfl), by repeat (first | (with_reducible first | exact HB.out | apply below_alloc | apply pw_below_drewN | apply below_drew1 | refine below_set ?_ GE325.out) | exact HB.out)⟩

end Go.Proofs.Ytmnphdgghjdkmaa.P
