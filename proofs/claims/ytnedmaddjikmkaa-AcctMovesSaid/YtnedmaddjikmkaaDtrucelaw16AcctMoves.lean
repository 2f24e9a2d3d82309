import Derived.Test.YtnedmaddjikmkaaP0
import Derived.Test.YtnedmaddjikmkaaPeqA25
import Derived.Test.YtnedmaddjikmkaaPtrucelaw16few
import Derived.Test.YtnedmaddjikmkaaPtruceref16Sum
import Derived.Test.YtnedmaddjikmkaaPtruceref16Fit
import Derived.Test.YtnedmaddjikmkaaPtruceref16Get
import Derived.Test.YtnedmaddjikmkaaPtrucelaw16awake
import Derived.Test.YtnedmaddjikmkaaGGiveF
/- A function of the program as a Lean function, and the proof that the code comes to its answers; written by a program of this session, a changed copy of the print of the kit. -/
namespace Go.Proofs.Ytnedmaddjikmkaa.P
open Go.RowKit Go.Proofs.YtnedmaddjikmkaaW.PrintWords Go.Proofs.YtnedmaddjikmkaaW.PrintLast Go.Proofs.YtnedmaddjikmkaaW.PrintMore
attribute [local go_sem] max2_int min2_int max_two min_two max_three min_three max_four min_four   -- for this text's walks alone
set_option linter.unusedVariables false
set_option linter.unusedSimpArgs false

attribute [local go_sem high] eqA25
/-! ### trucelaw16_AcctMoves: function 5 -/
mutual
def trucelaw16_AcctMoves.j0 : Nat → List (S39) → ByteArray → ByteArray → ByteArray → Bool → Int → Int → Int → Int → Option (Bool)
 | 0, _, _, _, _, _, _, _, _, _ => none
 | k + 1, x0, x1, x2, x3, x33, x235000, x235001, x235002, x235003 => if x33 = true then ((trucelaw16_awake.f k).bind fun t237 => (some t237)) else ((acct_Take.f x0 x1 x3 x235000 x235001 x235002 x235003).bind fun bt238 => ((acct_Give.f bt238.1 x2 x3 x235000 x235001 x235002 x235003).bind fun bt242 => (if bt238.2 = 0 then (trucelaw16_AcctMoves.j1 k x0 x1 x2 x3 bt242.1 (bt242.2 != 0)) else (trucelaw16_AcctMoves.j1 k x0 x1 x2 x3 bt242.1 true))))
def trucelaw16_AcctMoves.j1 : Nat → List (S39) → ByteArray → ByteArray → ByteArray → List (S39) → Bool → Option (Bool)
 | 0, _, _, _, _, _, _ => none
 | k + 1, x0, x1, x2, x3, x13, x56 => if x56 = true then ((trucelaw16_awake.f k).bind fun t246 => (some t246)) else ((truceref16_Sum.f k x0 x3).bind fun bt247 => ((truceref16_Sum.f k x13 x3).bind fun bt253 => (if bt253.2.2.2.2 = true then (if (!(bt247.1 == bt253.1) || (!(bt247.2.1 == bt253.2.1) || (!(bt247.2.2.1 == bt253.2.2.1) || (!(bt247.2.2.2.1 == bt253.2.2.2.1))))) = true then (trucelaw16_AcctMoves.j2 k x0 x1 x2 x3 x13 true) else ((truceref16_Fit.f k x13).bind fun t259 => (trucelaw16_AcctMoves.j2 k x0 x1 x2 x3 x13 (!t259)))) else (trucelaw16_AcctMoves.j2 k x0 x1 x2 x3 x13 true))))
def trucelaw16_AcctMoves.j2 : Nat → List (S39) → ByteArray → ByteArray → ByteArray → List (S39) → Bool → Option (Bool)
 | 0, _, _, _, _, _, _ => none
 | k + 1, x0, x1, x2, x3, x13, x81 => if x81 = true then (some false) else ((some (([] : List (S39)) : List (S39))).bind fun y260 => (if y260.length + x0.length < 2199023255552 then ((some (y260 ++ x0 : List (S39))).bind fun y263 => (if y263.length + x13.length < 2199023255552 then ((some (y263 ++ x13 : List (S39))).bind fun y266 => (trucelaw16_AcctMoves.l0 k x0 x1 x2 x3 x13 y266 (y266.length : Int) 0)) else (none))) else (none)))
def trucelaw16_AcctMoves.l0 : Nat → List (S39) → ByteArray → ByteArray → ByteArray → List (S39) → List (S39) → Int → Int → Option (Bool)
 | 0, _, _, _, _, _, _, _, _ => none
 | k + 1, x0, x1, x2, x3, x13, x86, x87, x88 => if x88 < x87 then (if 0 ≤ x88 then (if x88 < (x86.length : Int) then (if ((rd_T39 x86 x88).f1).toList = x3.toList then (if ((rd_T39 x86 x88).f0).toList = x1.toList then (trucelaw16_AcctMoves.l0 k x0 x1 x2 x3 x13 x86 x87 (wrap64 (x88 + 1))) else (if ((rd_T39 x86 x88).f0).toList = x2.toList then (trucelaw16_AcctMoves.l0 k x0 x1 x2 x3 x13 x86 x87 (wrap64 (x88 + 1))) else ((truceref16_Get.f k x0 ((rd_T39 x86 x88).f0) ((rd_T39 x86 x88).f1)).bind fun bt272 => ((truceref16_Get.f k x13 ((rd_T39 x86 x88).f0) ((rd_T39 x86 x88).f1)).bind fun bt276 => (if (!(bt272.1 == bt276.1) || (!(bt272.2.1 == bt276.2.1) || (!(bt272.2.2.1 == bt276.2.2.1) || (!(bt272.2.2.2 == bt276.2.2.2))))) = true then (some false) else (trucelaw16_AcctMoves.l0 k x0 x1 x2 x3 x13 x86 x87 (wrap64 (x88 + 1)))))))) else ((truceref16_Get.f k x0 ((rd_T39 x86 x88).f0) ((rd_T39 x86 x88).f1)).bind fun bt280 => ((truceref16_Get.f k x13 ((rd_T39 x86 x88).f0) ((rd_T39 x86 x88).f1)).bind fun bt284 => (if (!(bt280.1 == bt284.1) || (!(bt280.2.1 == bt284.2.1) || (!(bt280.2.2.1 == bt284.2.2.1) || (!(bt280.2.2.2 == bt284.2.2.2))))) = true then (some false) else (trucelaw16_AcctMoves.l0 k x0 x1 x2 x3 x13 x86 x87 (wrap64 (x88 + 1))))))) else (none)) else (none)) else ((trucelaw16_awake.f k).bind fun t269 => (some t269))
end
def trucelaw16_AcctMoves.f (k : Nat) (l0 : List (S39)) (a1 : ByteArray) (a2 : ByteArray) (a3 : ByteArray) (a4_0 : Int) (a4_1 : Int) (a4_2 : Int) (a4_3 : Int) : Option (Bool) := (trucelaw16_few.f l0).bind fun t235 => (if t235 = true then ((truceref16_Fit.f k l0).bind fun t236 => (if t236 = true then (trucelaw16_AcctMoves.j0 k l0 a1 a2 a3 (a1.toList == a2.toList) a4_0 a4_1 a4_2 a4_3) else (trucelaw16_AcctMoves.j0 k l0 a1 a2 a3 true a4_0 a4_1 a4_2 a4_3))) else (trucelaw16_AcctMoves.j0 k l0 a1 a2 a3 true a4_0 a4_1 a4_2 a4_3))
theorem trucelaw16_AcctMoves.mono_l : ∀ k, (∀ y0 y1 y2 y3 y4 y5 y6 y7 y8, LeO (trucelaw16_AcctMoves.j0 k y0 y1 y2 y3 y4 y5 y6 y7 y8) (trucelaw16_AcctMoves.j0 (k + 1) y0 y1 y2 y3 y4 y5 y6 y7 y8)) ∧ (∀ y0 y1 y2 y3 y4 y5, LeO (trucelaw16_AcctMoves.j1 k y0 y1 y2 y3 y4 y5) (trucelaw16_AcctMoves.j1 (k + 1) y0 y1 y2 y3 y4 y5)) ∧ (∀ y0 y1 y2 y3 y4 y5, LeO (trucelaw16_AcctMoves.j2 k y0 y1 y2 y3 y4 y5) (trucelaw16_AcctMoves.j2 (k + 1) y0 y1 y2 y3 y4 y5)) ∧ (∀ y0 y1 y2 y3 y4 y5 y6 y7, LeO (trucelaw16_AcctMoves.l0 k y0 y1 y2 y3 y4 y5 y6 y7) (trucelaw16_AcctMoves.l0 (k + 1) y0 y1 y2 y3 y4 y5 y6 y7))
 | 0 => ⟨fun _ _ _ _ _ _ _ _ _ r h => by simp [trucelaw16_AcctMoves.j0] at h, fun _ _ _ _ _ _ r h => by simp [trucelaw16_AcctMoves.j1] at h, fun _ _ _ _ _ _ r h => by simp [trucelaw16_AcctMoves.j2] at h, fun _ _ _ _ _ _ _ _ r h => by simp [trucelaw16_AcctMoves.l0] at h⟩
 | k + 1 => by
  obtain ⟨ih0, ih1, ih2, ih3⟩ := trucelaw16_AcctMoves.mono_l k
  refine ⟨?_, ?_, ?_, ?_⟩
  ·intro y0 y1 y2 y3 y4 y5 y6 y7 y8
   unfold trucelaw16_AcctMoves.j0
   repeat' first
   | (with_reducible exact ih0 _ _ _ _ _ _ _ _ _)
   | (with_reducible exact ih1 _ _ _ _ _ _)
   | (with_reducible exact ih2 _ _ _ _ _ _)
   | (with_reducible exact ih3 _ _ _ _ _ _ _ _)
   | (with_reducible exact trucelaw16_awake.mono _)
   | (with_reducible exact truceref16_Fit.mono _ _)
   | (with_reducible exact truceref16_Get.mono _ _ _ _)
   | (with_reducible exact truceref16_Sum.mono _ _ _)
   | (with_reducible exact LeO.refl _)
   | (with_reducible exact LeO.none _)
   | (with_reducible refine LeO.ite ?_ ?_)
   | (with_reducible refine LeO.bind ?_ (fun _ => ?_))
   | exact ih0 _ _ _ _ _ _ _ _ _
   | exact ih1 _ _ _ _ _ _
   | exact ih2 _ _ _ _ _ _
   | exact ih3 _ _ _ _ _ _ _ _
   | exact trucelaw16_awake.mono _
   | exact truceref16_Fit.mono _ _
   | exact truceref16_Get.mono _ _ _ _
   | exact truceref16_Sum.mono _ _ _
   | exact LeO.none _
   | refine LeO.ite ?_ ?_
   | refine LeO.bind ?_ (fun _ => ?_)
  ·intro y0 y1 y2 y3 y4 y5
   unfold trucelaw16_AcctMoves.j1
   repeat' first
   | (with_reducible exact ih0 _ _ _ _ _ _ _ _ _)
   | (with_reducible exact ih1 _ _ _ _ _ _)
   | (with_reducible exact ih2 _ _ _ _ _ _)
   | (with_reducible exact ih3 _ _ _ _ _ _ _ _)
   | (with_reducible exact trucelaw16_awake.mono _)
   | (with_reducible exact truceref16_Fit.mono _ _)
   | (with_reducible exact truceref16_Get.mono _ _ _ _)
   | (with_reducible exact truceref16_Sum.mono _ _ _)
   | (with_reducible exact LeO.refl _)
   | (with_reducible exact LeO.none _)
   | (with_reducible refine LeO.ite ?_ ?_)
   | (with_reducible refine LeO.bind ?_ (fun _ => ?_))
   | exact ih0 _ _ _ _ _ _ _ _ _
   | exact ih1 _ _ _ _ _ _
   | exact ih2 _ _ _ _ _ _
   | exact ih3 _ _ _ _ _ _ _ _
   | exact trucelaw16_awake.mono _
   | exact truceref16_Fit.mono _ _
   | exact truceref16_Get.mono _ _ _ _
   | exact truceref16_Sum.mono _ _ _
   | exact LeO.none _
   | refine LeO.ite ?_ ?_
   | refine LeO.bind ?_ (fun _ => ?_)
  ·intro y0 y1 y2 y3 y4 y5
   unfold trucelaw16_AcctMoves.j2
   repeat' first
   | (with_reducible exact ih0 _ _ _ _ _ _ _ _ _)
   | (with_reducible exact ih1 _ _ _ _ _ _)
   | (with_reducible exact ih2 _ _ _ _ _ _)
   | (with_reducible exact ih3 _ _ _ _ _ _ _ _)
   | (with_reducible exact trucelaw16_awake.mono _)
   | (with_reducible exact truceref16_Fit.mono _ _)
   | (with_reducible exact truceref16_Get.mono _ _ _ _)
   | (with_reducible exact truceref16_Sum.mono _ _ _)
   | (with_reducible exact LeO.refl _)
   | (with_reducible exact LeO.none _)
   | (with_reducible refine LeO.ite ?_ ?_)
   | (with_reducible refine LeO.bind ?_ (fun _ => ?_))
   | exact ih0 _ _ _ _ _ _ _ _ _
   | exact ih1 _ _ _ _ _ _
   | exact ih2 _ _ _ _ _ _
   | exact ih3 _ _ _ _ _ _ _ _
   | exact trucelaw16_awake.mono _
   | exact truceref16_Fit.mono _ _
   | exact truceref16_Get.mono _ _ _ _
   | exact truceref16_Sum.mono _ _ _
   | exact LeO.none _
   | refine LeO.ite ?_ ?_
   | refine LeO.bind ?_ (fun _ => ?_)
  ·intro y0 y1 y2 y3 y4 y5 y6 y7
   unfold trucelaw16_AcctMoves.l0
   repeat' first
   | (with_reducible exact ih0 _ _ _ _ _ _ _ _ _)
   | (with_reducible exact ih1 _ _ _ _ _ _)
   | (with_reducible exact ih2 _ _ _ _ _ _)
   | (with_reducible exact ih3 _ _ _ _ _ _ _ _)
   | (with_reducible exact trucelaw16_awake.mono _)
   | (with_reducible exact truceref16_Fit.mono _ _)
   | (with_reducible exact truceref16_Get.mono _ _ _ _)
   | (with_reducible exact truceref16_Sum.mono _ _ _)
   | (with_reducible exact LeO.refl _)
   | (with_reducible exact LeO.none _)
   | (with_reducible refine LeO.ite ?_ ?_)
   | (with_reducible refine LeO.bind ?_ (fun _ => ?_))
   | exact ih0 _ _ _ _ _ _ _ _ _
   | exact ih1 _ _ _ _ _ _
   | exact ih2 _ _ _ _ _ _
   | exact ih3 _ _ _ _ _ _ _ _
   | exact trucelaw16_awake.mono _
   | exact truceref16_Fit.mono _ _
   | exact truceref16_Get.mono _ _ _ _
   | exact truceref16_Sum.mono _ _ _
   | exact LeO.none _
   | refine LeO.ite ?_ ?_
   | refine LeO.bind ?_ (fun _ => ?_)
theorem trucelaw16_AcctMoves.mono : ∀ a0 a1 a2 a3 a4 a5 a6 a7 k, LeO (trucelaw16_AcctMoves.f k a0 a1 a2 a3 a4 a5 a6 a7) (trucelaw16_AcctMoves.f (k + 1) a0 a1 a2 a3 a4 a5 a6 a7) := by
 intro a0 a1 a2 a3 a4 a5 a6 a7 k
 obtain ⟨ih0, ih1, ih2, ih3⟩ := trucelaw16_AcctMoves.mono_l k
 unfold trucelaw16_AcctMoves.f
 repeat' first
   | (with_reducible exact ih0 _ _ _ _ _ _ _ _ _)
   | (with_reducible exact ih1 _ _ _ _ _ _)
   | (with_reducible exact ih2 _ _ _ _ _ _)
   | (with_reducible exact ih3 _ _ _ _ _ _ _ _)
   | (with_reducible exact trucelaw16_awake.mono _)
   | (with_reducible exact truceref16_Fit.mono _ _)
   | (with_reducible exact truceref16_Get.mono _ _ _ _)
   | (with_reducible exact truceref16_Sum.mono _ _ _)
   | (with_reducible exact LeO.refl _)
   | (with_reducible exact LeO.none _)
   | (with_reducible refine LeO.ite ?_ ?_)
   | (with_reducible refine LeO.bind ?_ (fun _ => ?_))
   | exact ih0 _ _ _ _ _ _ _ _ _
   | exact ih1 _ _ _ _ _ _
   | exact ih2 _ _ _ _ _ _
   | exact ih3 _ _ _ _ _ _ _ _
   | exact trucelaw16_awake.mono _
   | exact truceref16_Fit.mono _ _
   | exact truceref16_Get.mono _ _ _ _
   | exact truceref16_Sum.mono _ _ _
   | exact LeO.none _
   | refine LeO.ite ?_ ?_
   | refine LeO.bind ?_ (fun _ => ?_)
def trucelaw16_AcctMoves.T14 : Bool × List (List Nat × List Nat) := (true, [([], []), ([0], [0]), ([], []), ([1, 2], [1, 2]), ([3], [3]), ([4], [4]), ([5, 4], [4, 5]), ([4], [4]), ([6, 7, 4], [4, 6, 7]), ([8, 4, 4], [4, 8]), ([9], [9]), ([10, 9], [9, 10]), ([9], [9]), ([11, 12, 9], [9, 11, 12]), ([9, 13, 4], [4, 9, 13]), ([4, 14], [4, 14]), ([15, 9], [15]), ([16], [16]), ([16], [16]), ([18, 16], [16, 18]), ([16], [16]), ([20, 16], [16, 20]), ([17, 19, 21, 16, 16], [16, 17, 19, 21]), ([16], [16]), ([16], [16]), ([24, 16], [16, 24]), ([16], [16]), ([26, 16], [16, 26]), ([23, 25, 27, 22, 16], [16, 23, 25, 27]), ([22, 28, 16], [16, 22, 28]), ([16, 29], [16, 29])])
def trucelaw16_AcctMoves.B14 : List Nat := [0, 1, 0, 7, 15, 31, 63, 31, 255, 511, 1023, 2047, 1023, 8191, 16383, 32767, 65535, 131071, 131071, 393215, 131071, 1179647, 4194303, 131071, 131071, 16908287, 131071, 67239935, 268435455, 536870911, 1073741823]
theorem trucelaw16_AcctMoves.tab14 : rtab .any (opsOf Try.f5 14) = trucelaw16_AcctMoves.T14 := by kernel_rfl
theorem trucelaw16_AcctMoves.bits14 : waitsOk trucelaw16_AcctMoves.T14.2 trucelaw16_AcctMoves.B14 = true := by kernel_rfl
abbrev mlN := @blk_drewN
abbrev mlD := @blk_drew
abbrev mlA := @blk_alloc
abbrev mT0 : Array Bool := #[false, false, false, false, false, false, false, false, false, false, false, false, false, false, false, false, false, false, false, false, false, false, false, false, false, false, false, false, false, false, false]
abbrev mT1 : Array Bool := #[true, false, false, false, false, false, false, false, false, false, false, false, false, false, false, false, false, false, false, false, false, false, false, false, false, false, false, false, false, false, false]
abbrev mT2 : Array Bool := #[true, false, true, false, false, false, false, false, false, false, false, false, false, false, false, false, false, false, false, false, false, false, false, false, false, false, false, false, false, false, false]
abbrev mT3 : Array Bool := #[true, true, true, false, false, false, false, false, false, false, false, false, false, false, false, false, false, false, false, false, false, false, false, false, false, false, false, false, false, false, false]
abbrev mT4 : Array Bool := #[true, true, true, true, false, false, false, false, false, false, false, false, false, false, false, false, false, false, false, false, false, false, false, false, false, false, false, false, false, false, false]
abbrev mT5 : Array Bool := #[true, true, true, true, true, false, false, false, false, false, false, false, false, false, false, false, false, false, false, false, false, false, false, false, false, false, false, false, false, false, false]
abbrev mT6 : Array Bool := #[true, true, true, true, true, true, false, false, false, false, false, false, false, false, false, false, false, false, false, false, false, false, false, false, false, false, false, false, false, false, false]
abbrev mT7 : Array Bool := #[true, true, true, true, true, true, true, true, false, false, false, false, false, false, false, false, false, false, false, false, false, false, false, false, false, false, false, false, false, false, false]
abbrev mT8 : Array Bool := #[true, true, true, true, true, true, true, true, true, false, false, false, false, false, false, false, false, false, false, false, false, false, false, false, false, false, false, false, false, false, false]
abbrev mT9 : Array Bool := #[true, true, true, true, true, true, true, true, true, true, false, false, false, false, false, false, false, false, false, false, false, false, false, false, false, false, false, false, false, false, false]
abbrev mT10 : Array Bool := #[true, true, true, true, true, true, true, true, true, true, true, false, false, false, false, false, false, false, false, false, false, false, false, false, false, false, false, false, false, false, false]
abbrev mT11 : Array Bool := #[true, true, true, true, true, true, true, true, true, true, true, true, true, false, false, false, false, false, false, false, false, false, false, false, false, false, false, false, false, false, false]
abbrev mT12 : Array Bool := #[true, true, true, true, true, true, true, true, true, true, true, true, true, true, false, false, false, false, false, false, false, false, false, false, false, false, false, false, false, false, false]
abbrev mT13 : Array Bool := #[true, true, true, true, true, true, true, true, true, true, true, true, true, true, true, false, false, false, false, false, false, false, false, false, false, false, false, false, false, false, false]
abbrev mT14 : Array Bool := #[true, true, true, true, true, true, true, true, true, true, true, true, true, true, true, true, false, false, false, false, false, false, false, false, false, false, false, false, false, false, false]
abbrev mT15 : Array Bool := #[true, true, true, true, true, true, true, true, true, true, true, true, true, true, true, true, true, false, false, false, false, false, false, false, false, false, false, false, false, false, false]
abbrev mT16 : Array Bool := #[true, true, true, true, true, true, true, true, true, true, true, true, true, true, true, true, true, true, false, false, false, false, false, false, false, false, false, false, false, false, false]
abbrev mT17 : Array Bool := #[true, true, true, true, true, true, true, true, true, true, true, true, true, true, true, true, true, true, true, false, false, false, false, false, false, false, false, false, false, false, false]
abbrev mT18 : Array Bool := #[true, true, true, true, true, true, true, true, true, true, true, true, true, true, true, true, true, true, true, true, true, true, true, true, true, true, true, true, false, false, false]
abbrev mT19 : Array Bool := #[true, true, true, true, true, true, true, true, true, true, true, true, true, true, true, true, true, true, true, true, true, true, true, true, true, true, true, true, true, false, false]
abbrev mT20 : Array Bool := #[true, true, true, true, true, true, true, true, true, true, true, true, true, true, true, true, true, true, true, true, true, true, true, true, true, true, true, true, true, true, false]
abbrev mT21 : Array Bool := #[true, true, true, true, true, true, true, true, true, true, true, true, true, true, true, true, true, true, true, true, true, true, true, true, true, true, true, true, true, true, true]
abbrev mT22 : Array Bool := #[true, true, true, true, true, true, false, true, false, false, false, false, false, false, false, false, false, false, false, false, false, false, false, false, false, false, false, false, false, false, false]
abbrev mT23 : Array Bool := #[true, true, true, true, true, true, true, true, true, true, true, true, false, false, false, false, false, false, false, false, false, false, false, false, false, false, false, false, false, false, false]
abbrev mT24 : Array Bool := #[true, true, true, true, true, true, true, true, true, true, true, true, true, true, true, true, true, true, true, true, false, false, false, false, false, false, false, false, false, false, false]
abbrev mT25 : Array Bool := #[true, true, true, true, true, true, true, true, true, true, true, true, true, true, true, true, true, true, true, true, true, false, false, false, false, false, false, false, false, false, false]
abbrev mT26 : Array Bool := #[true, true, true, true, true, true, true, true, true, true, true, true, true, true, true, true, true, true, true, true, true, true, false, false, false, false, false, false, false, false, false]
abbrev mT27 : Array Bool := #[true, true, true, true, true, true, true, true, true, true, true, true, true, true, true, true, true, true, true, true, true, true, true, false, false, false, false, false, false, false, false]
abbrev mT28 : Array Bool := #[true, true, true, true, true, true, true, true, true, true, true, true, true, true, true, true, true, true, true, true, true, true, true, true, false, false, false, false, false, false, false]
abbrev mT29 : Array Bool := #[true, true, true, true, true, true, true, true, true, true, true, true, true, true, true, true, true, true, true, true, true, true, true, true, true, false, false, false, false, false, false]
abbrev mT30 : Array Bool := #[true, true, true, true, true, true, true, true, true, true, true, true, true, true, true, true, true, true, true, true, true, true, true, true, true, true, false, false, false, false, false]
abbrev mT31 : Array Bool := #[true, true, true, true, true, true, true, true, true, true, true, true, true, true, true, true, true, true, true, true, true, true, true, true, true, true, true, false, false, false, false]
abbrev mT32 : Array Bool := #[true, true, true, true, true, true, true, true, true, true, true, false, true, false, false, false, false, false, false, false, false, false, false, false, false, false, false, false, false, false, false]
abbrev mT33 : Array Bool := #[true, true, true, true, true, true, true, true, true, true, true, true, true, true, true, true, true, true, true, false, true, false, false, false, false, false, false, false, false, false, false]
abbrev mT34 : Array Bool := #[true, true, true, true, true, true, true, true, true, true, true, true, true, true, true, true, true, true, true, false, true, false, false, true, false, false, false, false, false, false, false]
abbrev mT35 : Array Bool := #[true, true, true, true, true, true, true, true, true, true, true, true, true, true, true, true, true, true, true, false, true, false, false, true, true, false, false, false, false, false, false]
abbrev mT36 : Array Bool := #[true, true, true, true, true, true, true, true, true, true, true, true, true, true, true, true, true, true, true, false, true, false, false, true, true, false, true, false, false, false, false]
abbrev mT37 : Array Bool := #[true, true, true, true, true, true, true, true, true, true, true, true, true, true, true, true, true, true, true, true, true, false, false, true, true, false, true, false, false, false, false]
abbrev mT38 : Array Bool := #[true, true, true, true, true, true, true, true, true, true, true, true, true, true, true, true, true, true, true, true, true, true, false, true, true, false, true, false, false, false, false]
abbrev mT39 : Array Bool := #[true, true, true, true, true, true, true, true, true, true, true, true, true, true, true, true, true, true, true, true, true, true, false, true, true, true, true, false, false, false, false]
abbrev mT40 : Array Bool := #[true, true, true, true, true, true, true, true, true, true, true, true, true, true, true, true, true, true, true, true, true, true, false, true, true, true, true, true, false, false, false]
abbrev mT41 : Array Bool := #[true, true, true, true, true, true, true, false, false, false, false, false, false, false, false, false, false, false, false, false, false, false, false, false, false, false, false, false, false, false, false]
end Go.Proofs.Ytnedmaddjikmkaa.P


