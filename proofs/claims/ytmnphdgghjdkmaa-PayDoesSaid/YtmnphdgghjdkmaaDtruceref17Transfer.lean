/- A function of the program as a Lean function, and the proof that the code comes to its answers; written by a program of this session, a changed copy of the print of the kit. -/
import Derived.Test.YtmnphdgghjdkmaaP0
import Derived.Test.YtmnphdgghjdkmaaPtruceref17Afford
import Derived.Test.YtmnphdgghjdkmaaPtruceref17named
import Derived.Test.YtmnphdgghjdkmaaGNumF
namespace Go.Proofs.Ytmnphdgghjdkmaa.P
open Go.RowKit Go.Proofs.YtmnphdgghjdkmaaW.PrintWords Go.Proofs.YtmnphdgghjdkmaaW.PrintLast Go.Proofs.YtmnphdgghjdkmaaW.PrintMore
attribute [local go_sem] max2_int min2_int max_two min_two max_three min_three max_four min_four   -- for this text's walks alone
set_option linter.unusedVariables false
set_option linter.unusedSimpArgs false

/-! ### truceref17_Transfer: function 10 -/
mutual
def truceref17_Transfer.l0 : Nat → List (S40) → List Int → Int → Int → Int → Int → Int → Option ((List (S40)) × (List (S24)) × Int × Int × Int × Int × Int)
 | 0, _, _, _, _, _, _, _ => none
 | k + 1, x1, x2, x10, x158000, x158001, x158002, x158003 => if x10 < (x2.length : Int) then (if 0 ≤ x10 then (if (rd x2 x10) < 0 then (some (x1, ([] : List (S24)), x158000, x158001, x158002, x158003, 3)) else (if (rd x2 x10) ≥ (x1.length : Int) then (some (x1, ([] : List (S24)), x158000, x158001, x158002, x158003, 3)) else (if x10 > 0 then (if 0 ≤ (wrap64 (x10 - 1)) then (if (wrap64 (x10 - 1)) < (x2.length : Int) then (if (rd x2 (wrap64 (x10 - 1))) ≥ (rd x2 x10) then (some (x1, ([] : List (S24)), x158000, x158001, x158002, x158003, 3)) else (truceref17_Transfer.l0 k x1 x2 (wrap64 (x10 + 1)) x158000 x158001 x158002 x158003)) else (none)) else (none)) else (truceref17_Transfer.l0 k x1 x2 (wrap64 (x10 + 1)) x158000 x158001 x158002 x158003)))) else (none)) else (truceref17_Transfer.l1 k x1 x2 0 x158000 x158001 x158002 x158003)
def truceref17_Transfer.l1 : Nat → List (S40) → List Int → Int → Int → Int → Int → Int → Option ((List (S40)) × (List (S24)) × Int × Int × Int × Int × Int)
 | 0, _, _, _, _, _, _, _ => none
 | k + 1, x1, x2, x11, x158000, x158001, x158002, x158003 => if x11 < (x2.length : Int) then (if 0 ≤ x11 then (if 0 ≤ (rd x2 x11) then (if (rd x2 x11) < (x1.length : Int) then (if ((rd_T40 x1 (rd x2 x11)).f2) = 0 then (truceref17_Transfer.l1 k x1 x2 (wrap64 (x11 + 1)) x158000 x158001 x158002 x158003) else (some (x1, ([] : List (S24)), x158000, x158001, x158002, x158003, 2))) else (none)) else (none)) else (none)) else ((truceref17_Afford.f k x158000 x158001 x158002 x158003 x1).bind fun t165 => (truceref17_Transfer.l2 k x1 x2 t165 ([] : List (S40)) ([] : List (S24)) 0 x158000 x158001 x158002 x158003))
def truceref17_Transfer.l2 : Nat → List (S40) → List Int → List (S24) → List (S40) → List (S24) → Int → Int → Int → Int → Int → Option ((List (S40)) × (List (S24)) × Int × Int × Int × Int × Int)
 | 0, _, _, _, _, _, _, _, _, _, _ => none
 | k + 1, x1, x2, x12, x13, x14, x15, x158000, x158001, x158002, x158003 => if x15 < (x1.length : Int) then (if 0 ≤ x15 then ((truceref17_named.f k x2 x15).bind fun t171 => (if t171 = true then (truceref17_Transfer.j3 k x1 x2 x12 x13 x14 x15 (((rd_T40 x1 x15).f2) == 0) x158000 x158001 x158002 x158003 ((rd_T40 x1 x15).f0) ((rd_T40 x1 x15).f1.f0) ((rd_T40 x1 x15).f1.f1) ((rd_T40 x1 x15).f1.f2) ((rd_T40 x1 x15).f1.f3) ((rd_T40 x1 x15).f2) ((rd_T40 x1 x15).f3) ((rd_T40 x1 x15).f4) 0 0 0 0) else (truceref17_Transfer.j3 k x1 x2 x12 x13 x14 x15 false x158000 x158001 x158002 x158003 ((rd_T40 x1 x15).f0) ((rd_T40 x1 x15).f1.f0) ((rd_T40 x1 x15).f1.f1) ((rd_T40 x1 x15).f1.f2) ((rd_T40 x1 x15).f1.f3) ((rd_T40 x1 x15).f2) ((rd_T40 x1 x15).f3) ((rd_T40 x1 x15).f4) 0 0 0 0))) else (none)) else (some (x13, x14, x158000, x158001, x158002, x158003, 0))
def truceref17_Transfer.j3 : Nat → List (S40) → List Int → List (S24) → List (S40) → List (S24) → Int → Bool → Int → Int → Int → Int → ByteArray → Int → Int → Int → Int → Int → ByteArray → ByteArray → Int → Int → Int → Int → Option ((List (S40)) × (List (S24)) × Int × Int × Int × Int × Int)
 | 0, _, _, _, _, _, _, _, _, _, _, _, _, _, _, _, _, _, _, _, _, _, _, _ => none
 | k + 1, x1, x2, x12, x13, x14, x15, x94, x158000, x158001, x158002, x158003, x170000, x170001, x170002, x170003, x170004, x170005, x170006, x170007, x171000, x171001, x171002, x171003 => if x94 = true then (if 0 ≤ x15 then (if x15 < (x12.length : Int) then ((truceref01_Sub.f x170001 x170002 x170003 x170004 ((rd_T24 x12 x15).f0) ((rd_T24 x12 x15).f1) ((rd_T24 x12 x15).f2) ((rd_T24 x12 x15).f3)).bind fun bt173 => ((truceref01_Sub.f x158000 x158001 x158002 x158003 ((rd_T24 x12 x15).f0) ((rd_T24 x12 x15).f1) ((rd_T24 x12 x15).f2) ((rd_T24 x12 x15).f3)).bind fun bt178 => (if x13.length < 1599289640401 then (if x14.length < 4398046511104 then (truceref17_Transfer.l2 k x1 x2 x12 (x13 ++ [(⟨x170000, (⟨bt173.1, bt173.2.1, bt173.2.2.1, bt173.2.2.2.1⟩ : S24), x170005, x170006, x170007⟩ : S40)]) (x14 ++ [(⟨(rd_T24 x12 x15).f0, (rd_T24 x12 x15).f1, (rd_T24 x12 x15).f2, (rd_T24 x12 x15).f3⟩ : S24)]) (wrap64 (x15 + 1)) bt178.1 bt178.2.1 bt178.2.2.1 bt178.2.2.2.1) else (none)) else (none)))) else (none)) else (none)) else ((truceref01_Sub.f x170001 x170002 x170003 x170004 x171000 x171001 x171002 x171003).bind fun bt189 => ((truceref01_Sub.f x158000 x158001 x158002 x158003 x171000 x171001 x171002 x171003).bind fun bt194 => (if x13.length < 1599289640401 then (if x14.length < 4398046511104 then (truceref17_Transfer.l2 k x1 x2 x12 (x13 ++ [(⟨x170000, (⟨bt189.1, bt189.2.1, bt189.2.2.1, bt189.2.2.2.1⟩ : S24), x170005, x170006, x170007⟩ : S40)]) (x14 ++ [(⟨x171000, x171001, x171002, x171003⟩ : S24)]) (wrap64 (x15 + 1)) bt194.1 bt194.2.1 bt194.2.2.1 bt194.2.2.2.1) else (none)) else (none))))
end
def truceref17_Transfer.f (k : Nat) (a0_0 : Int) (a0_1 : Int) (a0_2 : Int) (a0_3 : Int) (l1 : List (S40)) (l2 : List Int) : Option ((List (S40)) × (List (S24)) × Int × Int × Int × Int × Int) := truceref17_Transfer.l0 k l1 l2 0 a0_0 a0_1 a0_2 a0_3
theorem truceref17_Transfer.mono_l : ∀ k, (∀ y0 y1 y2 y3 y4 y5 y6, LeO (truceref17_Transfer.l0 k y0 y1 y2 y3 y4 y5 y6) (truceref17_Transfer.l0 (k + 1) y0 y1 y2 y3 y4 y5 y6)) ∧ (∀ y0 y1 y2 y3 y4 y5 y6, LeO (truceref17_Transfer.l1 k y0 y1 y2 y3 y4 y5 y6) (truceref17_Transfer.l1 (k + 1) y0 y1 y2 y3 y4 y5 y6)) ∧ (∀ y0 y1 y2 y3 y4 y5 y6 y7 y8 y9, LeO (truceref17_Transfer.l2 k y0 y1 y2 y3 y4 y5 y6 y7 y8 y9) (truceref17_Transfer.l2 (k + 1) y0 y1 y2 y3 y4 y5 y6 y7 y8 y9)) ∧ (∀ y0 y1 y2 y3 y4 y5 y6 y7 y8 y9 y10 y11 y12 y13 y14 y15 y16 y17 y18 y19 y20 y21 y22, LeO (truceref17_Transfer.j3 k y0 y1 y2 y3 y4 y5 y6 y7 y8 y9 y10 y11 y12 y13 y14 y15 y16 y17 y18 y19 y20 y21 y22) (truceref17_Transfer.j3 (k + 1) y0 y1 y2 y3 y4 y5 y6 y7 y8 y9 y10 y11 y12 y13 y14 y15 y16 y17 y18 y19 y20 y21 y22))
 | 0 => ⟨fun _ _ _ _ _ _ _ r h => by simp [truceref17_Transfer.l0] at h, fun _ _ _ _ _ _ _ r h => by simp [truceref17_Transfer.l1] at h, fun _ _ _ _ _ _ _ _ _ _ r h => by simp [truceref17_Transfer.l2] at h, fun _ _ _ _ _ _ _ _ _ _ _ _ _ _ _ _ _ _ _ _ _ _ _ r h => by simp [truceref17_Transfer.j3] at h⟩
 | k + 1 => by
  obtain ⟨ih0, ih1, ih2, ih3⟩ := truceref17_Transfer.mono_l k
  refine ⟨?_, ?_, ?_, ?_⟩
  ·intro y0 y1 y2 y3 y4 y5 y6
   unfold truceref17_Transfer.l0
   repeat' first
   | (with_reducible exact ih0 _ _ _ _ _ _ _)
   | (with_reducible exact ih1 _ _ _ _ _ _ _)
   | (with_reducible exact ih2 _ _ _ _ _ _ _ _ _ _)
   | (with_reducible exact ih3 _ _ _ _ _ _ _ _ _ _ _ _ _ _ _ _ _ _ _ _ _ _ _)
   | (with_reducible exact truceref17_Afford.mono _ _ _ _ _ _)
   | (with_reducible exact truceref17_named.mono _ _ _)
   | (with_reducible exact LeO.refl _)
   | (with_reducible exact LeO.none _)
   | (with_reducible refine LeO.ite ?_ ?_)
   | (with_reducible refine LeO.bind ?_ (fun _ => ?_))
   | exact ih0 _ _ _ _ _ _ _
   | exact ih1 _ _ _ _ _ _ _
   | exact ih2 _ _ _ _ _ _ _ _ _ _
   | exact ih3 _ _ _ _ _ _ _ _ _ _ _ _ _ _ _ _ _ _ _ _ _ _ _
   | exact truceref17_Afford.mono _ _ _ _ _ _
   | exact truceref17_named.mono _ _ _
   | exact LeO.none _
   | refine LeO.ite ?_ ?_
   | refine LeO.bind ?_ (fun _ => ?_)
  ·intro y0 y1 y2 y3 y4 y5 y6
   unfold truceref17_Transfer.l1
   repeat' first
   | (with_reducible exact ih0 _ _ _ _ _ _ _)
   | (with_reducible exact ih1 _ _ _ _ _ _ _)
   | (with_reducible exact ih2 _ _ _ _ _ _ _ _ _ _)
   | (with_reducible exact ih3 _ _ _ _ _ _ _ _ _ _ _ _ _ _ _ _ _ _ _ _ _ _ _)
   | (with_reducible exact truceref17_Afford.mono _ _ _ _ _ _)
   | (with_reducible exact truceref17_named.mono _ _ _)
   | (with_reducible exact LeO.refl _)
   | (with_reducible exact LeO.none _)
   | (with_reducible refine LeO.ite ?_ ?_)
   | (with_reducible refine LeO.bind ?_ (fun _ => ?_))
   | exact ih0 _ _ _ _ _ _ _
   | exact ih1 _ _ _ _ _ _ _
   | exact ih2 _ _ _ _ _ _ _ _ _ _
   | exact ih3 _ _ _ _ _ _ _ _ _ _ _ _ _ _ _ _ _ _ _ _ _ _ _
   | exact truceref17_Afford.mono _ _ _ _ _ _
   | exact truceref17_named.mono _ _ _
   | exact LeO.none _
   | refine LeO.ite ?_ ?_
   | refine LeO.bind ?_ (fun _ => ?_)
  ·intro y0 y1 y2 y3 y4 y5 y6 y7 y8 y9
   unfold truceref17_Transfer.l2
   repeat' first
   | (with_reducible exact ih0 _ _ _ _ _ _ _)
   | (with_reducible exact ih1 _ _ _ _ _ _ _)
   | (with_reducible exact ih2 _ _ _ _ _ _ _ _ _ _)
   | (with_reducible exact ih3 _ _ _ _ _ _ _ _ _ _ _ _ _ _ _ _ _ _ _ _ _ _ _)
   | (with_reducible exact truceref17_Afford.mono _ _ _ _ _ _)
   | (with_reducible exact truceref17_named.mono _ _ _)
   | (with_reducible exact LeO.refl _)
   | (with_reducible exact LeO.none _)
   | (with_reducible refine LeO.ite ?_ ?_)
   | (with_reducible refine LeO.bind ?_ (fun _ => ?_))
   | exact ih0 _ _ _ _ _ _ _
   | exact ih1 _ _ _ _ _ _ _
   | exact ih2 _ _ _ _ _ _ _ _ _ _
   | exact ih3 _ _ _ _ _ _ _ _ _ _ _ _ _ _ _ _ _ _ _ _ _ _ _
   | exact truceref17_Afford.mono _ _ _ _ _ _
   | exact truceref17_named.mono _ _ _
   | exact LeO.none _
   | refine LeO.ite ?_ ?_
   | refine LeO.bind ?_ (fun _ => ?_)
  ·intro y0 y1 y2 y3 y4 y5 y6 y7 y8 y9 y10 y11 y12 y13 y14 y15 y16 y17 y18 y19 y20 y21 y22
   unfold truceref17_Transfer.j3
   repeat' first
   | (with_reducible exact ih0 _ _ _ _ _ _ _)
   | (with_reducible exact ih1 _ _ _ _ _ _ _)
   | (with_reducible exact ih2 _ _ _ _ _ _ _ _ _ _)
   | (with_reducible exact ih3 _ _ _ _ _ _ _ _ _ _ _ _ _ _ _ _ _ _ _ _ _ _ _)
   | (with_reducible exact truceref17_Afford.mono _ _ _ _ _ _)
   | (with_reducible exact truceref17_named.mono _ _ _)
   | (with_reducible exact LeO.refl _)
   | (with_reducible exact LeO.none _)
   | (with_reducible refine LeO.ite ?_ ?_)
   | (with_reducible refine LeO.bind ?_ (fun _ => ?_))
   | exact ih0 _ _ _ _ _ _ _
   | exact ih1 _ _ _ _ _ _ _
   | exact ih2 _ _ _ _ _ _ _ _ _ _
   | exact ih3 _ _ _ _ _ _ _ _ _ _ _ _ _ _ _ _ _ _ _ _ _ _ _
   | exact truceref17_Afford.mono _ _ _ _ _ _
   | exact truceref17_named.mono _ _ _
   | exact LeO.none _
   | refine LeO.ite ?_ ?_
   | refine LeO.bind ?_ (fun _ => ?_)
theorem truceref17_Transfer.mono : ∀ a0 a1 a2 a3 a4 a5 k, LeO (truceref17_Transfer.f k a0 a1 a2 a3 a4 a5) (truceref17_Transfer.f (k + 1) a0 a1 a2 a3 a4 a5) := by
 intro a0 a1 a2 a3 a4 a5 k
 obtain ⟨ih0, ih1, ih2, ih3⟩ := truceref17_Transfer.mono_l k
 unfold truceref17_Transfer.f
 repeat' first
   | (with_reducible exact ih0 _ _ _ _ _ _ _)
   | (with_reducible exact ih1 _ _ _ _ _ _ _)
   | (with_reducible exact ih2 _ _ _ _ _ _ _ _ _ _)
   | (with_reducible exact ih3 _ _ _ _ _ _ _ _ _ _ _ _ _ _ _ _ _ _ _ _ _ _ _)
   | (with_reducible exact truceref17_Afford.mono _ _ _ _ _ _)
   | (with_reducible exact truceref17_named.mono _ _ _)
   | (with_reducible exact LeO.refl _)
   | (with_reducible exact LeO.none _)
   | (with_reducible refine LeO.ite ?_ ?_)
   | (with_reducible refine LeO.bind ?_ (fun _ => ?_))
   | exact ih0 _ _ _ _ _ _ _
   | exact ih1 _ _ _ _ _ _ _
   | exact ih2 _ _ _ _ _ _ _ _ _ _
   | exact ih3 _ _ _ _ _ _ _ _ _ _ _ _ _ _ _ _ _ _ _ _ _ _ _
   | exact truceref17_Afford.mono _ _ _ _ _ _
   | exact truceref17_named.mono _ _ _
   | exact LeO.none _
   | refine LeO.ite ?_ ?_
   | refine LeO.bind ?_ (fun _ => ?_)
def truceref17_Transfer.T4 : Bool × List (List Nat × List Nat) := (true, [([], []), ([], []), ([0, 1], [0, 1]), ([2], [2]), ([3], [3]), ([4], [4]), ([5], [5]), ([5], [5]), ([6, 7, 5], [5, 6, 7]), ([8, 5], [5, 8]), ([5], [5]), ([10, 5], [5, 10]), ([9, 11, 5], [5, 9, 11]), ([5, 12], [5, 12]), ([13, 5], [13]), ([14], [14]), ([15, 14], [14, 15]), ([16, 14, 14], [14, 16]), ([17], [17]), ([17], [17]), ([19, 17], [17, 19]), ([18, 20, 17], [17, 18, 20]), ([21, 17], [17, 21]), ([17], [17]), ([17], [17]), ([23, 24, 17], [17, 23, 24]), ([25, 17], [17, 25]), ([22, 26, 17], [17, 22, 26]), ([17, 27, 14], [14, 17, 27]), ([14, 28], [14, 28])])
def truceref17_Transfer.B4 : List Nat := [0, 0, 3, 7, 15, 31, 63, 63, 255, 511, 63, 1087, 4095, 8191, 16383, 32767, 65535, 131071, 262143, 262143, 786431, 2097151, 4194303, 262143, 262143, 25427967, 58982399, 134217727, 268435455, 536870911]
theorem truceref17_Transfer.tab4 : rtab .any (opsOf Try.f10 4) = truceref17_Transfer.T4 := by kernel_rfl
theorem truceref17_Transfer.bits4 : waitsOk truceref17_Transfer.T4.2 truceref17_Transfer.B4 = true := by kernel_rfl
abbrev blN := @blk_drewN
abbrev blD := @blk_drew
abbrev blA := @blk_alloc
abbrev qT0 : Array Bool := #[false, false, false, false, false, false, false, false, false, false, false, false, false, false, false, false, false, false, false, false, false, false, false, false, false, false, false, false, false, false]
abbrev qT1 : Array Bool := #[true, false, false, false, false, false, false, false, false, false, false, false, false, false, false, false, false, false, false, false, false, false, false, false, false, false, false, false, false, false]
abbrev qT2 : Array Bool := #[true, true, false, false, false, false, false, false, false, false, false, false, false, false, false, false, false, false, false, false, false, false, false, false, false, false, false, false, false, false]
abbrev qT3 : Array Bool := #[true, true, true, false, false, false, false, false, false, false, false, false, false, false, false, false, false, false, false, false, false, false, false, false, false, false, false, false, false, false]
abbrev qT4 : Array Bool := #[true, true, true, true, false, false, false, false, false, false, false, false, false, false, false, false, false, false, false, false, false, false, false, false, false, false, false, false, false, false]
abbrev qT5 : Array Bool := #[true, true, true, true, true, false, false, false, false, false, false, false, false, false, false, false, false, false, false, false, false, false, false, false, false, false, false, false, false, false]
abbrev qT6 : Array Bool := #[true, true, true, true, true, true, false, false, false, false, false, false, false, false, false, false, false, false, false, false, false, false, false, false, false, false, false, false, false, false]
abbrev qT7 : Array Bool := #[true, true, true, true, true, true, true, false, false, false, false, false, false, false, false, false, false, false, false, false, false, false, false, false, false, false, false, false, false, false]
abbrev qT8 : Array Bool := #[true, true, true, true, true, true, true, true, false, false, false, false, false, false, false, false, false, false, false, false, false, false, false, false, false, false, false, false, false, false]
abbrev qT9 : Array Bool := #[true, true, true, true, true, true, true, true, true, false, false, false, false, false, false, false, false, false, false, false, false, false, false, false, false, false, false, false, false, false]
abbrev qT10 : Array Bool := #[true, true, true, true, true, true, true, true, true, true, true, true, false, false, false, false, false, false, false, false, false, false, false, false, false, false, false, false, false, false]
abbrev qT11 : Array Bool := #[true, true, true, true, true, true, true, true, true, true, true, true, true, false, false, false, false, false, false, false, false, false, false, false, false, false, false, false, false, false]
abbrev qT12 : Array Bool := #[true, true, true, true, true, true, true, true, true, true, true, true, true, true, false, false, false, false, false, false, false, false, false, false, false, false, false, false, false, false]
abbrev qT13 : Array Bool := #[true, true, true, true, true, true, true, true, true, true, true, true, true, true, true, false, false, false, false, false, false, false, false, false, false, false, false, false, false, false]
abbrev qT14 : Array Bool := #[true, true, true, true, true, true, true, true, true, true, true, true, true, true, true, true, false, false, false, false, false, false, false, false, false, false, false, false, false, false]
abbrev qT15 : Array Bool := #[true, true, true, true, true, true, true, true, true, true, true, true, true, true, true, true, true, false, false, false, false, false, false, false, false, false, false, false, false, false]
abbrev qT16 : Array Bool := #[true, true, true, true, true, true, true, true, true, true, true, true, true, true, true, true, true, true, false, false, false, false, false, false, false, false, false, false, false, false]
abbrev qT17 : Array Bool := #[true, true, true, true, true, true, true, true, true, true, true, true, true, true, true, true, true, true, true, false, false, false, false, false, false, false, false, false, false, false]
abbrev qT18 : Array Bool := #[true, true, true, true, true, true, true, true, true, true, true, true, true, true, true, true, true, true, true, true, false, false, false, false, false, false, false, false, false, false]
abbrev qT19 : Array Bool := #[true, true, true, true, true, true, true, true, true, true, true, true, true, true, true, true, true, true, true, true, true, false, false, false, false, false, false, false, false, false]
abbrev qT20 : Array Bool := #[true, true, true, true, true, true, true, true, true, true, true, true, true, true, true, true, true, true, true, true, true, true, false, false, false, false, false, false, false, false]
abbrev qT21 : Array Bool := #[true, true, true, true, true, true, true, true, true, true, true, true, true, true, true, true, true, true, true, true, true, true, true, true, true, true, false, false, false, false]
abbrev qT22 : Array Bool := #[true, true, true, true, true, true, true, true, true, true, true, true, true, true, true, true, true, true, true, true, true, true, true, true, true, true, true, false, false, false]
abbrev qT23 : Array Bool := #[true, true, true, true, true, true, true, true, true, true, true, true, true, true, true, true, true, true, true, true, true, true, true, true, true, true, true, true, false, false]
abbrev qT24 : Array Bool := #[true, true, true, true, true, true, true, true, true, true, true, true, true, true, true, true, true, true, true, true, true, true, true, true, true, true, true, true, true, false]
abbrev qT25 : Array Bool := #[true, true, true, true, true, true, true, true, true, true, true, true, true, true, true, true, true, true, true, true, true, true, true, true, true, true, true, true, true, true]
abbrev qT26 : Array Bool := #[false, false, false, false, false, false]
abbrev qT27 : Array Bool := #[true, false, false, false, false, false]
abbrev qT28 : Array Bool := #[true, false, true, false, false, false]
abbrev qT29 : Array Bool := #[true, false, true, true, false, false]
abbrev qT30 : Array Bool := #[true, true, true, true, false, false]
abbrev qT31 : Array Bool := #[true, true, true, true, true, false]
abbrev qT32 : Array Bool := #[true, true, true, true, true, true]
abbrev qT33 : Array Bool := #[true, true, true, true, true, true, true, true, true, false, true, false, false, false, false, false, false, false, false, false, false, false, false, false, false, false, false, false, false, false]
abbrev qT34 : Array Bool := #[true, true, true, true, true, true, true, true, true, false, true, true, false, false, false, false, false, false, false, false, false, false, false, false, false, false, false, false, false, false]
abbrev qT35 : Array Bool := #[true, true, true, true, true, true, true, true, true, true, true, true, true, true, true, true, true, true, true, true, true, true, true, false, false, false, false, false, false, false]
abbrev qT36 : Array Bool := #[true, true, true, true, true, true, true, true, true, true, true, true, true, true, true, true, true, true, true, true, true, true, true, true, false, false, false, false, false, false]
abbrev qT37 : Array Bool := #[true, true, true, true, true, true, true, true, true, true, true, true, true, true, true, true, true, true, true, true, true, true, true, true, true, false, false, false, false, false]
abbrev qT38 : Array Bool := #[true, true, true, true, true, true, true, true, true, true, true, true, true, true, true, true, true, true, true, true, true, true, false, true, false, false, false, false, false, false]
abbrev qT39 : Array Bool := #[true, true, true, true, true, true, true, true, true, true, true, true, true, true, true, true, true, true, true, true, true, true, false, true, true, false, false, false, false, false]
abbrev qT40 : Array Bool := #[true, true, true, true, true, true, true, true, true, true, true, true, true, true, true, true, true, true, true, true, true, true, false, true, true, true, false, false, false, false]
abbrev qT41 : Array Bool := #[true, true, true, true, true, true, true, true, true, true, false, false, false, false, false, false, false, false, false, false, false, false, false, false, false, false, false, false, false, false]
abbrev qT42 : Array Bool := #[true, true, true, true, true, true, true, true, true, true, true, false, false, false, false, false, false, false, false, false, false, false, false, false, false, false, false, false, false, false]
abbrev qT43 : Array Bool := #[false, false, false, false, false, false, false]
abbrev qT44 : Array Bool := #[true, false, false, false, false, false, false]
abbrev qT45 : Array Bool := #[true, true, false, false, false, false, false]
abbrev qT46 : Array Bool := #[true, true, false, true, false, false, false]
abbrev qT47 : Array Bool := #[true, true, false, true, true, false, false]
abbrev qT48 : Array Bool := #[true, true, true, true, true, false, false]
abbrev qT49 : Array Bool := #[true, true, true, true, true, true, false]
abbrev qT50 : Array Bool := #[true, true, true, true, true, true, true]
end Go.Proofs.Ytmnphdgghjdkmaa.P
