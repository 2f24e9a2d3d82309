import Derived.Test.YtkpflejagagcbaaLogFr
import Derived.Test.YtkpflejagagcbaaP0
namespace Go.Proofs.Ytkpflejagagcbaa.P
set_option linter.unusedVariables false
set_option linter.unusedSimpArgs false
open Go.RowKit Go.Shelf Go.Proofs.YtkpflejagagcbaaW.PrintWords
theorem reps9 (w : World) (base : Nat) (ok : Nat → Prop) (s : ByteArray) (n : Nat) : Reps (Kd.string.M w base ok) 1 (texts s n) (cellsS s n) := by
  induction n with
  | zero => exact Reps.none _ _
  | succ n ih =>
    rw [cellsS_succ, texts_succ]
    exact ih.snoc rfl rfl
theorem R_of_cells {w : World} {base : Nat} {v : Value} {s : ByteArray} {n : Nat} (h : w.ownsRow base 9 1 v n (cellsS s n)) (ok : Nat → Prop) (hok : ∀ k, base ≤ k → ok k) : Kd.R Kd.string 9 w base ok v (texts s n) := by
  refine ⟨fun k hk => hok k (own_base h k hk), cellsS s n, ?_, reps9 w base _ s n⟩
  rw [texts_len]
  exact h
theorem log_Frames.calls (s : ByteArray) (r1 : List ByteArray) (r2 : Int) (w : World) (h : log_Frames.f s = some (r1, r2)) :
    Calls Try.prog 8 #[.string s] w fun e w' => ∃ v0_ : Value, e = .returned (.tuple #[v0_, .int .i64 r2]) ∧ Kd.R Kd.string 9 w' w.heap.size (fun _ => True) v0_ r1 ∧ Below w.heap.size w w' := by
  unfold log_Frames.f at h
  split at h
  · rename_i hs
    injection h with h
    injection h with e1 e2
    subst e1 e2
    refine (callsIn_wide.1 (frames_in s hs w)).mono ?_
    rintro e w' ⟨v, rfl, ho, hb⟩
    exact ⟨v, rfl, R_of_cells ho _ (fun _ _ => trivial), hb⟩
  · cases h
#print axioms log_Frames.calls
end Go.Proofs.Ytkpflejagagcbaa.P
