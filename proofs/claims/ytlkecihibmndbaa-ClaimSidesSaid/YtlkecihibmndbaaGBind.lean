import Derived.Test.YtlkecihibmndbaaGBindA
namespace Go.Proofs.Ytlkecihibmndbaa.P
set_option linter.unusedVariables false
set_option linter.unusedSimpArgs false
open Go.RowKit Go.Shelf Go.Proofs.YtlkecihibmndbaaW.PrintWords
theorem claim_Bind.calls (P0_ : Nat → Prop) (A0 : Option Addr) (c0 : Nat) (l0 : List S39) (a1 : ByteArray) (a2 a3 a4_0 a4_1 a4_2 a4_3 a5_0 a5_1 a5_2 a5_3 : Int) (r1 : List S39) (r2 : Int) (w : World) (hs0 : Kd.V k39 39 w w.heap.size (fun k_ => P0_ k_) (.slice A0 l0.length c0) l0)
    (h : claim_Bind.f l0 a1 a2 a3 a4_0 a4_1 a4_2 a4_3 a5_0 a5_1 a5_2 a5_3 = some (r1, r2)) :
    Calls Try.prog 11 #[.slice A0 l0.length c0, .string a1, .int .i64 a2, .int .i64 a3, .agg #[.int .u64 a4_0, .int .u64 a4_1, .int .u64 a4_2, .int .u64 a4_3], .agg #[.int .u64 a5_0, .int .u64 a5_1, .int .u64 a5_2, .int .u64 a5_3]] w fun e w' => ∃ v0_ : Value, e = .returned (.tuple #[v0_, .int .i64 r2]) ∧ Kd.V k39 39 w' w.heap.size (fun k_ => (P0_ k_ ∨ w.heap.size ≤ k_)) v0_ r1 ∧ Below w.heap.size w w' := by
  have hlen := (Kd.V_reads' hs0).2.1
  have hC := (Kd.V_reads' hs0).2.2
  unfold claim_Bind.f at h
  split at h
  · rename_i hk
    have T := bind_any a1 a2 a3 (wl4 a4_0 a4_1 a4_2 a4_3) (wl4 a5_0 a5_1 a5_2 a5_3) rfl rfl l0 hk.2.2.1 A0 c0 w hC hlen hk.2.2.2
    rw [ws_wl4 _ _ _ _ hk.1, ws_wl4 _ _ _ _ hk.2.1] at T
    injection h with h
    injection h with e1 e2
    refine T.mono ?_
    rintro e w' ⟨h1, h2⟩
    by_cases hE : bindE l0 a1 a2 a3 (wl4 a4_0 a4_1 a4_2 a4_3) (wl4 a5_0 a5_1 a5_2 a5_3) = 0
    · obtain ⟨v, rfl, ho, hb⟩ := h2 hE
      rw [if_pos hE] at e1
      rw [hE] at e2
      subst e1 e2
      have hn : (bindL l0 a1 a2 a3 (wl4 a4_0 a4_1 a4_2 a4_3) (wl4 a5_0 a5_1 a5_2 a5_3)).length = l0.length + 1 := by simp [bindL]
      refine ⟨v, rfl, Kd.V_mono (Kd.R_V (R_of_cells39 (by rw [hn]; exact ho) (fun k => w.heap.size ≤ k) (fun k hk => own_base ho k hk))) (fun k hk => .inr hk), hb⟩
    · obtain ⟨rfl, hb⟩ := h1 hE
      rw [if_neg hE] at e1
      subst e1 e2
      exact ⟨_, rfl, Kd.V_mono (Kd.V_below hs0 hb) (fun k hk => .inl hk), hb⟩
  · cases h
#print axioms claim_Bind.calls
end Go.Proofs.Ytlkecihibmndbaa.P
