import Derived.Test.YtlkecihibmndbaaGReclaimW
namespace Go.Proofs.Ytlkecihibmndbaa.P
set_option linter.unusedVariables false
set_option linter.unusedSimpArgs false
open Go.RowKit Go.Shelf Go.Proofs.YtlkecihibmndbaaW.PrintWords
theorem claim_Reclaim.calls (P0_ : Nat → Prop) (A0 : Option Addr) (c0 : Nat) (l0 : List S39) (a1 : Int) (A2 : Option Addr) (c2 : Nat) (l2 : List S39) (r1 : List S39) (r2 : Int) (w : World) (hs0 : Kd.V k39 39 w w.heap.size (fun k_ => P0_ k_) (.slice A0 l0.length c0) l0)
    (hC2 : Kd.C k39 w A2 l2.length l2) (hc2 : l2.length ≤ c2) (h : claim_Reclaim.f l0 a1 l2 = some (r1, r2)) :
    Calls Try.prog 9 #[.slice A0 l0.length c0, .int .i64 a1, .slice A2 l2.length c2] w fun e w' => ∃ v0_ : Value, e = .returned (.tuple #[v0_, .int .i64 r2]) ∧ Kd.V k39 39 w' w.heap.size (fun k_ => (P0_ k_ ∨ w.heap.size ≤ k_)) v0_ r1 ∧ Below w.heap.size w w' := by
  have hlen := (Kd.V_reads' hs0).2.1
  have hC := (Kd.V_reads' hs0).2.2
  unfold claim_Reclaim.f at h
  split at h
  · rename_i hk
    have T := reclaim_any l0 hk.1 A0 c0 a1 l2 hk.2.2.1 A2 c2 w hC hlen hk.2.1 hC2 hc2 hk.2.2.2
    injection h with h
    injection h with e1 e2
    refine T.mono ?_
    rintro e w' ⟨h1, h2⟩
    by_cases hE : recE l0 a1 l2 = 0
    · obtain ⟨v, rfl, ho, hb⟩ := h2 hE
      rw [if_pos hE] at e1
      rw [hE] at e2
      subst e1 e2
      have hn : (gv l0 l2 a1.toNat 2).length = l0.length - 1 := by
        have hb0 : boundE l0 a1 l2 = 0 := by
          unfold recE at hE
          split at hE
          · rename_i hne; exact absurd hE hne
          · rename_i hne; exact Classical.not_not.1 hne
        obtain ⟨q, rfl, hf⟩ := fine_of hb0
        exact gv_len hf.hk 2
      refine ⟨v, rfl, Kd.V_mono (Kd.R_V (R_of_cells39 (by rw [hn]; exact ho) (fun k => w.heap.size ≤ k) (fun k hk => own_base ho k hk))) (fun k hk => .inr hk), hb⟩
    · obtain ⟨rfl, hb⟩ := h1 hE
      rw [if_neg hE] at e1
      subst e1 e2
      exact ⟨_, rfl, Kd.V_mono (Kd.V_below hs0 hb) (fun k hk => .inl hk), hb⟩
  · cases h
#print axioms claim_Reclaim.calls
end Go.Proofs.Ytlkecihibmndbaa.P
