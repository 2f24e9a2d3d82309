import Derived.Test.YtnedmaddjikmkaaP0
import Derived.Test.YtnedmaddjikmkaaPeqA25
import Derived.Test.YtnedmaddjikmkaaPtrucelaw16few
import Derived.Test.YtnedmaddjikmkaaPtruceref16Sum
import Derived.Test.YtnedmaddjikmkaaPtruceref16Fit
import Derived.Test.YtnedmaddjikmkaaPtruceref16Get
import Derived.Test.YtnedmaddjikmkaaPtruceref16Same
import Derived.Test.YtnedmaddjikmkaaPtrucelaw16awake
import Derived.Test.YtnedmaddjikmkaaGGiveF
import Derived.Test.YtnedmaddjikmkaaGNumF
/- A function of the program as a Lean function, and the proof that the code comes to its answers; written by a program of this session, a changed copy of the print of the kit. -/
namespace Go.Proofs.Ytnedmaddjikmkaa.P
open Go.RowKit Go.Proofs.YtnedmaddjikmkaaW.PrintWords Go.Proofs.YtnedmaddjikmkaaW.PrintLast Go.Proofs.YtnedmaddjikmkaaW.PrintMore
attribute [local go_sem] max2_int min2_int max_two min_two max_three min_three max_four min_four   -- for this text's walks alone
set_option linter.unusedVariables false
set_option linter.unusedSimpArgs false

attribute [local go_sem high] eqA25
/-! ### trucelaw16_AcctKeeps: function 4 -/
mutual
def trucelaw16_AcctKeeps.j0 : Nat → List (S39) → ByteArray → ByteArray → Bool → Int → Int → Int → Int → Option (Bool)
 | 0, _, _, _, _, _, _, _, _ => none
 | k + 1, x0, x1, x2, x34, x289000, x289001, x289002, x289003 => if x34 = true then ((trucelaw16_awake.f k).bind fun t291 => (some t291)) else ((truceref16_Sum.f k x0 x2).bind fun bt292 => ((acct_Give.f x0 x1 x2 x289000 x289001 x289002 x289003).bind fun bt298 => (if bt298.2 = 0 then ((truceref16_Sum.f k bt298.1 x2).bind fun bt302 => ((truceref01_Add.f bt292.1 bt292.2.1 bt292.2.2.1 bt292.2.2.2.1 x289000 x289001 x289002 x289003).bind fun bt308 => ((acct_Take.f bt298.1 x1 x2 x289000 x289001 x289002 x289003).bind fun bt314 => ((truceref16_Fit.f k bt298.1).bind fun t318 => (if t318 = true then (if bt302.2.2.2.2 = true then (if bt308.2.2.2.2 = true then (trucelaw16_AcctKeeps.j1 k x0 x1 x2 bt298.1 true x289000 x289001 x289002 x289003 bt292.1 bt292.2.1 bt292.2.2.1 bt292.2.2.2.1) else (if (!(bt302.1 == bt308.1) || (!(bt302.2.1 == bt308.2.1) || (!(bt302.2.2.1 == bt308.2.2.1) || (!(bt302.2.2.2.1 == bt308.2.2.2.1))))) = true then (trucelaw16_AcctKeeps.j1 k x0 x1 x2 bt298.1 true x289000 x289001 x289002 x289003 bt292.1 bt292.2.1 bt292.2.2.1 bt292.2.2.2.1) else (if bt314.2 = 0 then ((truceref16_Same.f k bt314.1 x0).bind fun t319 => (trucelaw16_AcctKeeps.j1 k x0 x1 x2 bt298.1 (!t319) x289000 x289001 x289002 x289003 bt292.1 bt292.2.1 bt292.2.2.1 bt292.2.2.2.1)) else (trucelaw16_AcctKeeps.j1 k x0 x1 x2 bt298.1 true x289000 x289001 x289002 x289003 bt292.1 bt292.2.1 bt292.2.2.1 bt292.2.2.2.1)))) else (trucelaw16_AcctKeeps.j1 k x0 x1 x2 bt298.1 true x289000 x289001 x289002 x289003 bt292.1 bt292.2.1 bt292.2.2.1 bt292.2.2.2.1)) else (trucelaw16_AcctKeeps.j1 k x0 x1 x2 bt298.1 true x289000 x289001 x289002 x289003 bt292.1 bt292.2.1 bt292.2.2.1 bt292.2.2.2.1)))))) else (trucelaw16_AcctKeeps.j3 k x0 x1 x2 x289000 x289001 x289002 x289003 bt292.1 bt292.2.1 bt292.2.2.1 bt292.2.2.2.1))))
def trucelaw16_AcctKeeps.j3 : Nat → List (S39) → ByteArray → ByteArray → Int → Int → Int → Int → Int → Int → Int → Int → Option (Bool)
 | 0, _, _, _, _, _, _, _, _, _, _, _ => none
 | k + 1, x0, x1, x2, x289000, x289001, x289002, x289003, x298000, x298001, x298002, x298003 => (acct_Take.f x0 x1 x2 x289000 x289001 x289002 x289003).bind fun bt330 => (if bt330.2 = 0 then ((truceref16_Sum.f k bt330.1 x2).bind fun bt336 => ((truceref01_Sub.f x298000 x298001 x298002 x298003 x289000 x289001 x289002 x289003).bind fun bt342 => ((truceref16_Fit.f k bt330.1).bind fun t348 => (if t348 = true then (if bt342.2.2.2.2 = true then (some false) else (if (bt336.1 == bt342.1 && (bt336.2.1 == bt342.2.1 && (bt336.2.2.1 == bt342.2.2.1 && (bt336.2.2.2.1 == bt342.2.2.2.1)))) = true then ((trucelaw16_awake.f k).bind fun t349 => (some t349)) else (some false))) else (some false))))) else ((truceref16_Same.f k bt330.1 x0).bind fun t334 => (if t334 = true then ((trucelaw16_awake.f k).bind fun t335 => (some t335)) else (some false))))
def trucelaw16_AcctKeeps.j1 : Nat → List (S39) → ByteArray → ByteArray → List (S39) → Bool → Int → Int → Int → Int → Int → Int → Int → Int → Option (Bool)
 | 0, _, _, _, _, _, _, _, _, _, _, _, _, _ => none
 | k + 1, x0, x1, x2, x11, x96, x289000, x289001, x289002, x289003, x298000, x298001, x298002, x298003 => if x96 = true then (some false) else (trucelaw16_AcctKeeps.l0 k x0 x1 x2 x11 x0 (x0.length : Int) 0 x289000 x289001 x289002 x289003 x298000 x298001 x298002 x298003)
def trucelaw16_AcctKeeps.l0 : Nat → List (S39) → ByteArray → ByteArray → List (S39) → List (S39) → Int → Int → Int → Int → Int → Int → Int → Int → Int → Int → Option (Bool)
 | 0, _, _, _, _, _, _, _, _, _, _, _, _, _, _, _ => none
 | k + 1, x0, x1, x2, x11, x97, x98, x99, x289000, x289001, x289002, x289003, x298000, x298001, x298002, x298003 => if x99 < x98 then (if 0 ≤ x99 then (if x99 < (x97.length : Int) then (if ((rd_T39 x97 x99).f0).toList = x1.toList then (if ((rd_T39 x97 x99).f1).toList = x2.toList then (trucelaw16_AcctKeeps.l0 k x0 x1 x2 x11 x97 x98 (wrap64 (x99 + 1)) x289000 x289001 x289002 x289003 x298000 x298001 x298002 x298003) else ((truceref16_Get.f k x11 ((rd_T39 x97 x99).f0) ((rd_T39 x97 x99).f1)).bind fun bt322 => (if (!(bt322.1 == ((rd_T39 x97 x99).f2.f0)) || (!(bt322.2.1 == ((rd_T39 x97 x99).f2.f1)) || (!(bt322.2.2.1 == ((rd_T39 x97 x99).f2.f2)) || (!(bt322.2.2.2 == ((rd_T39 x97 x99).f2.f3)))))) = true then (some false) else (trucelaw16_AcctKeeps.l0 k x0 x1 x2 x11 x97 x98 (wrap64 (x99 + 1)) x289000 x289001 x289002 x289003 x298000 x298001 x298002 x298003)))) else ((truceref16_Get.f k x11 ((rd_T39 x97 x99).f0) ((rd_T39 x97 x99).f1)).bind fun bt326 => (if (!(bt326.1 == ((rd_T39 x97 x99).f2.f0)) || (!(bt326.2.1 == ((rd_T39 x97 x99).f2.f1)) || (!(bt326.2.2.1 == ((rd_T39 x97 x99).f2.f2)) || (!(bt326.2.2.2 == ((rd_T39 x97 x99).f2.f3)))))) = true then (some false) else (trucelaw16_AcctKeeps.l0 k x0 x1 x2 x11 x97 x98 (wrap64 (x99 + 1)) x289000 x289001 x289002 x289003 x298000 x298001 x298002 x298003)))) else (none)) else (none)) else (trucelaw16_AcctKeeps.j3 k x0 x1 x2 x289000 x289001 x289002 x289003 x298000 x298001 x298002 x298003)
end
def trucelaw16_AcctKeeps.f (k : Nat) (l0 : List (S39)) (a1 : ByteArray) (a2 : ByteArray) (a3_0 : Int) (a3_1 : Int) (a3_2 : Int) (a3_3 : Int) : Option (Bool) := (trucelaw16_few.f l0).bind fun t289 => (if t289 = true then ((truceref16_Fit.f k l0).bind fun t290 => (trucelaw16_AcctKeeps.j0 k l0 a1 a2 (!t290) a3_0 a3_1 a3_2 a3_3)) else (trucelaw16_AcctKeeps.j0 k l0 a1 a2 true a3_0 a3_1 a3_2 a3_3))
theorem trucelaw16_AcctKeeps.mono_l : ∀ k, (∀ y0 y1 y2 y3 y4 y5 y6 y7, LeO (trucelaw16_AcctKeeps.j0 k y0 y1 y2 y3 y4 y5 y6 y7) (trucelaw16_AcctKeeps.j0 (k + 1) y0 y1 y2 y3 y4 y5 y6 y7)) ∧ (∀ y0 y1 y2 y3 y4 y5 y6 y7 y8 y9 y10, LeO (trucelaw16_AcctKeeps.j3 k y0 y1 y2 y3 y4 y5 y6 y7 y8 y9 y10) (trucelaw16_AcctKeeps.j3 (k + 1) y0 y1 y2 y3 y4 y5 y6 y7 y8 y9 y10)) ∧ (∀ y0 y1 y2 y3 y4 y5 y6 y7 y8 y9 y10 y11 y12, LeO (trucelaw16_AcctKeeps.j1 k y0 y1 y2 y3 y4 y5 y6 y7 y8 y9 y10 y11 y12) (trucelaw16_AcctKeeps.j1 (k + 1) y0 y1 y2 y3 y4 y5 y6 y7 y8 y9 y10 y11 y12)) ∧ (∀ y0 y1 y2 y3 y4 y5 y6 y7 y8 y9 y10 y11 y12 y13 y14, LeO (trucelaw16_AcctKeeps.l0 k y0 y1 y2 y3 y4 y5 y6 y7 y8 y9 y10 y11 y12 y13 y14) (trucelaw16_AcctKeeps.l0 (k + 1) y0 y1 y2 y3 y4 y5 y6 y7 y8 y9 y10 y11 y12 y13 y14))
 | 0 => ⟨fun _ _ _ _ _ _ _ _ r h => by simp [trucelaw16_AcctKeeps.j0] at h, fun _ _ _ _ _ _ _ _ _ _ _ r h => by simp [trucelaw16_AcctKeeps.j3] at h, fun _ _ _ _ _ _ _ _ _ _ _ _ _ r h => by simp [trucelaw16_AcctKeeps.j1] at h, fun _ _ _ _ _ _ _ _ _ _ _ _ _ _ _ r h => by simp [trucelaw16_AcctKeeps.l0] at h⟩
 | k + 1 => by
  obtain ⟨ih0, ih1, ih2, ih3⟩ := trucelaw16_AcctKeeps.mono_l k
  refine ⟨?_, ?_, ?_, ?_⟩
  ·intro y0 y1 y2 y3 y4 y5 y6 y7
   unfold trucelaw16_AcctKeeps.j0
   repeat' first
   | (with_reducible exact ih0 _ _ _ _ _ _ _ _)
   | (with_reducible exact ih1 _ _ _ _ _ _ _ _ _ _ _)
   | (with_reducible exact ih2 _ _ _ _ _ _ _ _ _ _ _ _ _)
   | (with_reducible exact ih3 _ _ _ _ _ _ _ _ _ _ _ _ _ _ _)
   | (with_reducible exact trucelaw16_awake.mono _)
   | (with_reducible exact truceref16_Fit.mono _ _)
   | (with_reducible exact truceref16_Get.mono _ _ _ _)
   | (with_reducible exact truceref16_Same.mono _ _ _)
   | (with_reducible exact truceref16_Sum.mono _ _ _)
   | (with_reducible exact LeO.refl _)
   | (with_reducible exact LeO.none _)
   | (with_reducible refine LeO.ite ?_ ?_)
   | (with_reducible refine LeO.bind ?_ (fun _ => ?_))
   | exact ih0 _ _ _ _ _ _ _ _
   | exact ih1 _ _ _ _ _ _ _ _ _ _ _
   | exact ih2 _ _ _ _ _ _ _ _ _ _ _ _ _
   | exact ih3 _ _ _ _ _ _ _ _ _ _ _ _ _ _ _
   | exact trucelaw16_awake.mono _
   | exact truceref16_Fit.mono _ _
   | exact truceref16_Get.mono _ _ _ _
   | exact truceref16_Same.mono _ _ _
   | exact truceref16_Sum.mono _ _ _
   | exact LeO.none _
   | refine LeO.ite ?_ ?_
   | refine LeO.bind ?_ (fun _ => ?_)
  ·intro y0 y1 y2 y3 y4 y5 y6 y7 y8 y9 y10
   unfold trucelaw16_AcctKeeps.j3
   repeat' first
   | (with_reducible exact ih0 _ _ _ _ _ _ _ _)
   | (with_reducible exact ih1 _ _ _ _ _ _ _ _ _ _ _)
   | (with_reducible exact ih2 _ _ _ _ _ _ _ _ _ _ _ _ _)
   | (with_reducible exact ih3 _ _ _ _ _ _ _ _ _ _ _ _ _ _ _)
   | (with_reducible exact trucelaw16_awake.mono _)
   | (with_reducible exact truceref16_Fit.mono _ _)
   | (with_reducible exact truceref16_Get.mono _ _ _ _)
   | (with_reducible exact truceref16_Same.mono _ _ _)
   | (with_reducible exact truceref16_Sum.mono _ _ _)
   | (with_reducible exact LeO.refl _)
   | (with_reducible exact LeO.none _)
   | (with_reducible refine LeO.ite ?_ ?_)
   | (with_reducible refine LeO.bind ?_ (fun _ => ?_))
   | exact ih0 _ _ _ _ _ _ _ _
   | exact ih1 _ _ _ _ _ _ _ _ _ _ _
   | exact ih2 _ _ _ _ _ _ _ _ _ _ _ _ _
   | exact ih3 _ _ _ _ _ _ _ _ _ _ _ _ _ _ _
   | exact trucelaw16_awake.mono _
   | exact truceref16_Fit.mono _ _
   | exact truceref16_Get.mono _ _ _ _
   | exact truceref16_Same.mono _ _ _
   | exact truceref16_Sum.mono _ _ _
   | exact LeO.none _
   | refine LeO.ite ?_ ?_
   | refine LeO.bind ?_ (fun _ => ?_)
  ·intro y0 y1 y2 y3 y4 y5 y6 y7 y8 y9 y10 y11 y12
   unfold trucelaw16_AcctKeeps.j1
   repeat' first
   | (with_reducible exact ih0 _ _ _ _ _ _ _ _)
   | (with_reducible exact ih1 _ _ _ _ _ _ _ _ _ _ _)
   | (with_reducible exact ih2 _ _ _ _ _ _ _ _ _ _ _ _ _)
   | (with_reducible exact ih3 _ _ _ _ _ _ _ _ _ _ _ _ _ _ _)
   | (with_reducible exact trucelaw16_awake.mono _)
   | (with_reducible exact truceref16_Fit.mono _ _)
   | (with_reducible exact truceref16_Get.mono _ _ _ _)
   | (with_reducible exact truceref16_Same.mono _ _ _)
   | (with_reducible exact truceref16_Sum.mono _ _ _)
   | (with_reducible exact LeO.refl _)
   | (with_reducible exact LeO.none _)
   | (with_reducible refine LeO.ite ?_ ?_)
   | (with_reducible refine LeO.bind ?_ (fun _ => ?_))
   | exact ih0 _ _ _ _ _ _ _ _
   | exact ih1 _ _ _ _ _ _ _ _ _ _ _
   | exact ih2 _ _ _ _ _ _ _ _ _ _ _ _ _
   | exact ih3 _ _ _ _ _ _ _ _ _ _ _ _ _ _ _
   | exact trucelaw16_awake.mono _
   | exact truceref16_Fit.mono _ _
   | exact truceref16_Get.mono _ _ _ _
   | exact truceref16_Same.mono _ _ _
   | exact truceref16_Sum.mono _ _ _
   | exact LeO.none _
   | refine LeO.ite ?_ ?_
   | refine LeO.bind ?_ (fun _ => ?_)
  ·intro y0 y1 y2 y3 y4 y5 y6 y7 y8 y9 y10 y11 y12 y13 y14
   unfold trucelaw16_AcctKeeps.l0
   repeat' first
   | (with_reducible exact ih0 _ _ _ _ _ _ _ _)
   | (with_reducible exact ih1 _ _ _ _ _ _ _ _ _ _ _)
   | (with_reducible exact ih2 _ _ _ _ _ _ _ _ _ _ _ _ _)
   | (with_reducible exact ih3 _ _ _ _ _ _ _ _ _ _ _ _ _ _ _)
   | (with_reducible exact trucelaw16_awake.mono _)
   | (with_reducible exact truceref16_Fit.mono _ _)
   | (with_reducible exact truceref16_Get.mono _ _ _ _)
   | (with_reducible exact truceref16_Same.mono _ _ _)
   | (with_reducible exact truceref16_Sum.mono _ _ _)
   | (with_reducible exact LeO.refl _)
   | (with_reducible exact LeO.none _)
   | (with_reducible refine LeO.ite ?_ ?_)
   | (with_reducible refine LeO.bind ?_ (fun _ => ?_))
   | exact ih0 _ _ _ _ _ _ _ _
   | exact ih1 _ _ _ _ _ _ _ _ _ _ _
   | exact ih2 _ _ _ _ _ _ _ _ _ _ _ _ _
   | exact ih3 _ _ _ _ _ _ _ _ _ _ _ _ _ _ _
   | exact trucelaw16_awake.mono _
   | exact truceref16_Fit.mono _ _
   | exact truceref16_Get.mono _ _ _ _
   | exact truceref16_Same.mono _ _ _
   | exact truceref16_Sum.mono _ _ _
   | exact LeO.none _
   | refine LeO.ite ?_ ?_
   | refine LeO.bind ?_ (fun _ => ?_)
theorem trucelaw16_AcctKeeps.mono : ∀ a0 a1 a2 a3 a4 a5 a6 k, LeO (trucelaw16_AcctKeeps.f k a0 a1 a2 a3 a4 a5 a6) (trucelaw16_AcctKeeps.f (k + 1) a0 a1 a2 a3 a4 a5 a6) := by
 intro a0 a1 a2 a3 a4 a5 a6 k
 obtain ⟨ih0, ih1, ih2, ih3⟩ := trucelaw16_AcctKeeps.mono_l k
 unfold trucelaw16_AcctKeeps.f
 repeat' first
   | (with_reducible exact ih0 _ _ _ _ _ _ _ _)
   | (with_reducible exact ih1 _ _ _ _ _ _ _ _ _ _ _)
   | (with_reducible exact ih2 _ _ _ _ _ _ _ _ _ _ _ _ _)
   | (with_reducible exact ih3 _ _ _ _ _ _ _ _ _ _ _ _ _ _ _)
   | (with_reducible exact trucelaw16_awake.mono _)
   | (with_reducible exact truceref16_Fit.mono _ _)
   | (with_reducible exact truceref16_Get.mono _ _ _ _)
   | (with_reducible exact truceref16_Same.mono _ _ _)
   | (with_reducible exact truceref16_Sum.mono _ _ _)
   | (with_reducible exact LeO.refl _)
   | (with_reducible exact LeO.none _)
   | (with_reducible refine LeO.ite ?_ ?_)
   | (with_reducible refine LeO.bind ?_ (fun _ => ?_))
   | exact ih0 _ _ _ _ _ _ _ _
   | exact ih1 _ _ _ _ _ _ _ _ _ _ _
   | exact ih2 _ _ _ _ _ _ _ _ _ _ _ _ _
   | exact ih3 _ _ _ _ _ _ _ _ _ _ _ _ _ _ _
   | exact trucelaw16_awake.mono _
   | exact truceref16_Fit.mono _ _
   | exact truceref16_Get.mono _ _ _ _
   | exact truceref16_Same.mono _ _ _
   | exact truceref16_Sum.mono _ _ _
   | exact LeO.none _
   | refine LeO.ite ?_ ?_
   | refine LeO.bind ?_ (fun _ => ?_)
def trucelaw16_AcctKeeps.T14 : Bool × List (List Nat × List Nat) := (true, [([], []), ([0], [0]), ([], []), ([1, 2], [1, 2]), ([3], [3]), ([4], [4]), ([5, 4], [4, 5]), ([4], [4]), ([6, 7, 4], [4, 6, 7]), ([4, 8], [4, 8]), ([9, 4], [9]), ([10], [10]), ([10], [10]), ([12, 10], [10, 12]), ([10], [10]), ([14, 10], [10, 14]), ([11, 13, 15, 10, 10], [10, 11, 13, 15]), ([10], [10]), ([17, 10], [10, 17]), ([16, 18, 10], [10, 16, 18]), ([10, 19], [10, 19])])
def trucelaw16_AcctKeeps.B14 : List Nat := [0, 1, 0, 7, 15, 31, 63, 31, 255, 511, 1023, 2047, 2047, 6143, 2047, 18431, 65535, 2047, 133119, 524287, 1048575]
theorem trucelaw16_AcctKeeps.tab14 : rtab .any (opsOf Try.f4 14) = trucelaw16_AcctKeeps.T14 := by kernel_rfl
theorem trucelaw16_AcctKeeps.bits14 : waitsOk trucelaw16_AcctKeeps.T14.2 trucelaw16_AcctKeeps.B14 = true := by kernel_rfl
abbrev elN := @blk_drewN
abbrev elD := @blk_drew
abbrev elA := @blk_alloc
abbrev eT0 : Array Bool := #[false, false, false, false, false, false, false, false, false, false, false, false, false, false, false, false, false, false, false, false, false]
abbrev eT1 : Array Bool := #[true, false, false, false, false, false, false, false, false, false, false, false, false, false, false, false, false, false, false, false, false]
abbrev eT2 : Array Bool := #[true, false, true, false, false, false, false, false, false, false, false, false, false, false, false, false, false, false, false, false, false]
abbrev eT3 : Array Bool := #[true, true, true, false, false, false, false, false, false, false, false, false, false, false, false, false, false, false, false, false, false]
abbrev eT4 : Array Bool := #[true, true, true, true, false, false, false, false, false, false, false, false, false, false, false, false, false, false, false, false, false]
abbrev eT5 : Array Bool := #[true, true, true, true, true, false, false, false, false, false, false, false, false, false, false, false, false, false, false, false, false]
abbrev eT6 : Array Bool := #[true, true, true, true, true, true, false, false, false, false, false, false, false, false, false, false, false, false, false, false, false]
abbrev eT7 : Array Bool := #[true, true, true, true, true, true, true, true, false, false, false, false, false, false, false, false, false, false, false, false, false]
abbrev eT8 : Array Bool := #[true, true, true, true, true, true, true, true, true, false, false, false, false, false, false, false, false, false, false, false, false]
abbrev eT9 : Array Bool := #[true, true, true, true, true, true, true, true, true, true, false, false, false, false, false, false, false, false, false, false, false]
abbrev eT10 : Array Bool := #[true, true, true, true, true, true, true, true, true, true, true, false, false, false, false, false, false, false, false, false, false]
abbrev eT11 : Array Bool := #[true, true, true, true, true, true, true, true, true, true, true, true, false, false, false, false, false, false, false, false, false]
abbrev eT12 : Array Bool := #[true, true, true, true, true, true, true, true, true, true, true, true, true, false, false, false, false, false, false, false, false]
abbrev eT13 : Array Bool := #[true, true, true, true, true, true, true, true, true, true, true, true, true, true, true, true, true, true, true, false, false]
abbrev eT14 : Array Bool := #[true, true, true, true, true, true, true, true, true, true, true, true, true, true, true, true, true, true, true, true, false]
abbrev eT15 : Array Bool := #[true, true, true, true, true, true, true, true, true, true, true, true, true, true, true, true, true, true, true, true, true]
abbrev eT16 : Array Bool := #[true, true, true, true, true, true, false, true, false, false, false, false, false, false, false, false, false, false, false, false, false]
abbrev eT17 : Array Bool := #[true, true, true, true, true, true, true, true, true, true, true, true, true, false, true, false, false, false, false, false, false]
abbrev eT18 : Array Bool := #[true, true, true, true, true, true, true, true, true, true, true, true, true, false, true, false, false, true, false, false, false]
abbrev eT19 : Array Bool := #[true, true, true, true, true, true, true, true, true, true, true, true, true, true, true, false, false, true, false, false, false]
abbrev eT20 : Array Bool := #[true, true, true, true, true, true, true, true, true, true, true, true, true, true, true, true, false, true, false, false, false]
abbrev eT21 : Array Bool := #[true, true, true, true, true, true, true, true, true, true, true, true, true, true, true, true, false, true, true, false, false]
abbrev eT22 : Array Bool := #[true, true, true, true, true, true, true, true, true, true, true, true, true, true, false, false, false, false, false, false, false]
abbrev eT23 : Array Bool := #[true, true, true, true, true, true, true, true, true, true, true, true, true, true, true, false, false, false, false, false, false]
abbrev eT24 : Array Bool := #[true, true, true, true, true, true, true, true, true, true, true, true, true, true, true, true, false, false, false, false, false]
abbrev eT25 : Array Bool := #[true, true, true, true, true, true, true, true, true, true, true, true, true, true, true, true, true, false, false, false, false]
abbrev eT26 : Array Bool := #[true, true, true, true, true, true, true, true, true, true, true, true, true, true, true, true, true, true, false, false, false]
abbrev eT27 : Array Bool := #[true, true, true, true, true, true, true, false, false, false, false, false, false, false, false, false, false, false, false, false, false]
end Go.Proofs.Ytnedmaddjikmkaa.P


