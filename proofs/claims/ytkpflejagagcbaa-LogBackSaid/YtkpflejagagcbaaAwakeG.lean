import Derived.Test.YtkpflejagagcbaaPureL
import Derived.Test.YtkpflejagagcbaaLogG
import Derived.Test.YtkpflejagagcbaaPtruceref23Same
namespace Go.Proofs.Ytkpflejagagcbaa.P
set_option linter.unusedVariables false
set_option linter.unusedSimpArgs false
open Go.RowKit Go.Shelf Go.Proofs.YtkpflejagagcbaaW.PrintWords
/-! The chapter's example. -/
theorem wrap_nat1 (i : Nat) (h : i < 1000000) : wrap64 ((i : Int) + 1) = ((i + 1 : Nat) : Int) := by unfold wrap64; omega
theorem same_l0 (l : List ByteArray) (hl : l.length ≤ 100000) : ∀ (d i k : Nat), l.length - i ≤ d → i ≤ l.length → d < k → truceref23_Same.l0 k l l (i : Int) = some true := by
  intro d
  induction d with
  | zero =>
    intro i k hd hi hk
    obtain ⟨k, rfl⟩ : ∃ j, k = j + 1 := ⟨k - 1, by omega⟩
    rw [truceref23_Same.l0, if_neg (by omega)]
  | succ d ih =>
    intro i k hd hi hk
    obtain ⟨k, rfl⟩ : ∃ j, k = j + 1 := ⟨k - 1, by omega⟩
    rw [truceref23_Same.l0]
    by_cases h : i < l.length
    · rw [if_pos (by omega), if_pos (by omega), if_pos (by omega), if_pos rfl, wrap_nat1 i (by omega)]
      exact ih (i + 1) k (by omega) (by omega) (by omega)
    · rw [if_neg (by omega)]
theorem same_refl (l : List ByteArray) (hl : l.length ≤ 100000) (k : Nat) (hk : l.length < k) : truceref23_Same.f k l l = some true := by
  rw [truceref23_Same.f, if_pos rfl]
  exact same_l0 l hl l.length 0 k (by omega) (by omega) hk
theorem reps_str (w : World) (base : Nat) (ok : Nat → Prop) (l : List ByteArray) : Reps (Kd.string.M w base ok) 1 l (l.map Value.string) := by
  refine ⟨by simp, fun j p hp => ?_⟩
  have hj := (List.getElem?_eq_some_iff.1 hp).1
  have e : ((l.map Value.string).drop (j * 1)).take 1 = [Value.string p] := by
    rw [Nat.mul_one, ← List.map_drop, List.drop_eq_getElem_cons hj, List.map_cons, List.take_succ_cons, List.take_zero, (List.getElem?_eq_some_iff.1 hp).2]
  rw [e]
  rfl
theorem R_of_str {w : World} {base : Nat} {v : Value} {l : List ByteArray} (h : w.ownsRow base 9 1 v l.length (l.map Value.string)) (ok : Nat → Prop) (hok : ∀ k, base ≤ k → ok k) : Kd.R Kd.string 9 w base ok v l :=
  ⟨fun k hk => hok k (own_base h k hk), l.map Value.string, h, reps_str w base _ l⟩
theorem C_of_R {w : World} {base : Nat} {ok : Nat → Prop} {v : Value} {l : List ByteArray} (h : Kd.R Kd.string 9 w base ok v l) : ∃ A c, v = .slice A l.length c ∧ Kd.C Kd.string w A l.length l ∧ l.length ≤ c := by
  obtain ⟨_, cs, hown, _⟩ := id h
  have hv : ∃ A c, v = .slice A l.length c := by
    rcases hown.2 with ⟨rfl, hz⟩ | ⟨g, cap, cur, rfl, _⟩
    · exact ⟨none, 0, by rw [hz]⟩
    · exact ⟨_, _, rfl⟩
  obtain ⟨A, c, rfl⟩ := hv
  exact ⟨A, c, rfl, (Kd.V_reads' (Kd.R_V (base' := 0) h)).2.2, (Kd.V_reads' (Kd.R_V (base' := 0) h)).2.1⟩
def exA : ByteArray := ⟨#[97]⟩
def exB : ByteArray := ⟨#[98, 99]⟩
def exJ : ByteArray := ⟨#[0, 0, 0, 1, 120]⟩
theorem ex_all : allT (frameB exA ++ frameB exB ++ exJ) = [exA, exB] ∧ allN (frameB exA ++ frameB exB ++ exJ) = 19 ∧ (frameB exA ++ frameB exB ++ exJ).size = 24 := by
  have h1 : (frameB exA).size = 9 := frame_size (by decide)
  have h2 : (frameB exB).size = 10 := frame_size (by decide)
  have hj : ¬ recOk exJ := fun h => by have := h.1; exact absurd this (by decide)
  have a := all_join [exA, exB] (fun t ht => by simp at ht; rcases ht with rfl | rfl <;> decide) exJ
  have e : joinB [exA, exB] = frameB exA ++ frameB exB := by rw [joinB_cons, joinB_cons]; show frameB exA ++ (frameB exB ++ ⟨#[]⟩) = _; rw [app_nil]
  rw [e, (allT_no hj).1, (allT_no hj).2, ByteArray.size_append, h1, h2] at a
  refine ⟨a.1, a.2, ?_⟩
  rw [ByteArray.size_append, ByteArray.size_append, h1, h2]; rfl
def trucelaw23_awake.f : Option Bool := some true
set_option maxHeartbeats 1000000 in
theorem awake_any (w : World) : Calls Try.prog 7 #[] w fun e w' => e = .returned (.bool true) ∧ Below w.heap.size w w' := by
  obtain ⟨x1, x2, x3⟩ := ex_all
  have h1 : (frameB exA).size = 9 := frame_size (by decide)
  have h2 : (frameB exB).size = 10 := frame_size (by decide)
  have c1 := fun W => log_Frame.calls exA (frameB exA) W (frame_val _ (by decide))
  have c2 := fun W => log_Frame.calls exB (frameB exB) W (frame_val _ (by decide))
  have c3 := fun W => log_Frames.calls (frameB exA ++ frameB exB ++ exJ) [exA, exB] 19 W (by rw [frames_val _ (by omega), x1, x2]; rfl)
  have C := Aside0.mk (And.intro c1 (And.intro c2 c3))
  clear c1 c2 c3 x1 x2 x3
  have hA : exA = ⟨#[97]⟩ := rfl
  have hB : exB = ⟨#[98, 99]⟩ := rfl
  have hJ : exJ = ⟨#[0, 0, 0, 1, 120]⟩ := rfl
  have h3 : exJ.size = 5 := rfl
  generalize frameB exA = a at *
  generalize frameB exB = b at *
  go_enter Try.func7, Try.ntmps7
  rw [← hA, ← hB, ← hJ]
  have HE := Aside0.mk (And.intro hA (And.intro hB hJ))
  clear hA hB hJ
  go_wp2_with fail
  refine (C.out.1 _).mono ?_
  rintro e w1 ⟨rfl, hb⟩
  have HB := Aside0.mk hb
  clear hb
  go_wp2_with fail
  refine (C.out.2.1 _).mono ?_
  rintro e w2 ⟨rfl, hb⟩
  have HB2 := Aside0.mk (below_step HB.out hb)
  clear hb HB
  go_wp2_with fail
  refine (C.out.2.2 _).mono ?_
  rintro e w3 ⟨v, rfl, hR, hb⟩
  obtain ⟨A, c, rfl, hC, hlen⟩ := C_of_R hR
  have HB3 := Aside0.mk (below_step HB2.out hb)
  have hA := below_alloc (Below.refl w3.heap.size w3) (.cells #[.string exA, .string exB] 9)
  have hown : (w3.alloc (.cells #[.string exA, .string exB] 9)).ownsRow w3.heap.size 9 1 (.slice (some ⟨w3.heap.size, 0, none⟩) 2 2) 2 ([exA, exB].map Value.string) :=
    ⟨rfl, .inr ⟨w3.heap.size, 2, #[.string exA, .string exB], rfl, Nat.le_refl _, blk_new w3 _, Nat.le_refl _, by decide, rfl, rfl⟩⟩
  have hR2 : Kd.R Kd.string 9 (w3.alloc (.cells #[.string exA, .string exB] 9)) w3.heap.size (fun _ => True) (.slice (some ⟨w3.heap.size, 0, none⟩) 2 2) [exA, exB] := R_of_str hown _ (fun _ _ => trivial)
  obtain ⟨A2, c2, e2, hC2, hlen2⟩ := C_of_R hR2
  injection e2 with e21 _ e23
  subst e21 e23
  have T : Calls Try.prog 12 #[.slice A 2 c, .slice (some ⟨w3.heap.size, 0, none⟩) 2 2] (w3.alloc (.cells #[.string exA, .string exB] 9)) fun e w' => e = .returned (.bool true) ∧ Drawn0 (w3.alloc (.cells #[.string exA, .string exB] 9)) w' :=
    truceref23_Same.calls 5 A c [exA, exB] _ 2 [exA, exB] true _ (Kd.C_below hC hA) hlen hC2 hlen2 (same_refl _ (by decide) _ (by decide))
  have HT := Aside0.mk T
  clear T hR hb hA hown hR2 hC hlen hC2 hlen2 HB2
  rw [show ([exA, exB] : List ByteArray).length = 2 from rfl]
  go_wp2_with fail
  refine HT.out.mono ?_
  rintro e w4 ⟨rfl, ⟨nd, hw4⟩⟩
  have HB4 := Aside0.mk (show Below w.heap.size w w4 by rw [hw4]; exact pw_below_drewN (below_alloc HB3.out _) _)
  clear hw4
  go_wp2_with fail
  exact bodyPost_ret (v := .bool true) (by simp [results, Try.results7, go_sem]) rfl ⟨rfl, HB4.out⟩
theorem trucelaw23_awake.calls (r : Bool) (w : World) (h : trucelaw23_awake.f = some r) : Calls Try.prog 7 #[] w fun e w' => e = .returned (.bool r) ∧ Below w.heap.size w w' := by
  injection h with h
  subst h
  exact awake_any w
#print axioms trucelaw23_awake.calls
end Go.Proofs.Ytkpflejagagcbaa.P
