import Derived.Test.YtmnphdgghjdkmaaGAffordW
namespace Go.Proofs.Ytmnphdgghjdkmaa.P
set_option linter.unusedVariables false
set_option linter.unusedSimpArgs false
open Go.RowKit Go.Shelf Go.Proofs.YtmnphdgghjdkmaaW.PrintWords
theorem rowL_of (w : World) (A : Option Addr) (l : List S40) (h : Kd.C k40 w A l.length l) : RowL w.heap.size w A l := fun W' hW => Kd.C_F k40_heap h W' (fun k hk _ => hW k hk)
theorem cellsF_len (f : Nat → List W64) (hf : ∀ k, (f k).length = 4) (n : Nat) : (cellsF f n).length = n * 4 := by
  induction n with
  | zero => rfl
  | succ n ih => rw [cellsF_succ, List.length_append, ih, ws_four _ (hf n)]; simp; omega
theorem reps_cells (w : World) (base : Nat) (ok : Nat → Prop) (f : Nat → List W64) (hf : ∀ k, (f k).length = 4) (n : Nat) : Reps (k24.M w base ok) 4 ((List.range n).map fun k => sw (f k)) (cellsF f n) := by
  induction n with
  | zero => exact Reps.none _ _
  | succ n ih =>
    rw [cellsF_succ, List.range_succ, List.map_append]
    refine ih.snoc ?_ ?_
    · rw [ws_four _ (hf n)]
      exact k24_mkM w base ok (sw (f n))
    · rw [ws_four _ (hf n)]; rfl
theorem R_of_cells {w : World} {base : Nat} {v : Value} {f : Nat → List W64} {n : Nat} (hf : ∀ k, (f k).length = 4) (h : w.ownsRow base 24 4 v n (cellsF f n)) (ok : Nat → Prop) (hok : ∀ k, base ≤ k → ok k) : Kd.R k24 24 w base ok v ((List.range n).map fun k => sw (f k)) := by
  refine ⟨fun k hk => hok k (own_base h k hk), cellsF f n, ?_, reps_cells w base _ f hf n⟩
  rw [List.length_map, List.length_range]
  exact h
theorem pay_Afford.calls (a0 a1 a2 a3 : Int) (A1 : Option Addr) (c1 : Nat) (l1 : List S40) (r : List S24) (w : World) (hr1 : Kd.C k40 w A1 l1.length l1) (hc1 : l1.length ≤ c1) (h : pay_Afford.f a0 a1 a2 a3 l1 = some r) :
    Calls Try.prog 12 #[.agg #[.int .u64 a0, .int .u64 a1, .int .u64 a2, .int .u64 a3], .slice A1 l1.length c1] w fun e w' => ∃ v0_ : Value, e = .returned (v0_) ∧ Kd.R k24 24 w' w.heap.size (fun _ => True) v0_ r ∧ Below w.heap.size w w' := by
  unfold pay_Afford.f at h
  split at h
  · rename_i hk
    injection h with h
    subst h
    rw [← ws_wl4 _ _ _ _ hk.1]
    refine (callsIn_wide.1 (afford_in (wl4 a0 a1 a2 a3) rfl l1 hk.2.1 A1 c1 w (rowL_of w A1 l1 hr1) hc1 (by omega))).mono ?_
    rintro e w' ⟨v, rfl, ho, hb⟩
    exact ⟨v, rfl, R_of_cells (fun k => cAt_len _ _ rfl k) ho _ (fun _ _ => trivial), hb⟩
  · cases h
#print axioms pay_Afford.calls
end Go.Proofs.Ytmnphdgghjdkmaa.P
