import Derived.Test.YtmnphdgghjdkmaaGTransA
namespace Go.Proofs.Ytmnphdgghjdkmaa.P
set_option linter.unusedVariables false
set_option linter.unusedSimpArgs false
open Go.RowKit Go.Shelf Go.Proofs.YtmnphdgghjdkmaaW.PrintWords
theorem reps40 (w : World) (base : Nat) (ok : Nat → Prop) (l : List S40) : Reps (k40.M w base ok) 8 l (cells40 l) := by
  refine ⟨cells40_len l, fun j p hp => ?_⟩
  have hj := (List.getElem?_eq_some_iff.1 hp).1
  have hs : l = l.take j ++ p :: l.drop (j + 1) := by
    rw [← (List.getElem?_eq_some_iff.1 hp).2, ← List.drop_eq_getElem_cons hj, List.take_append_drop]
  have hc : cells40 l = cells40 (l.take j) ++ ((rowA p).toList ++ cells40 (l.drop (j + 1))) := by
    conv => lhs; rw [hs]
    simp [cells40]
  have hl : (cells40 (l.take j)).length = j * 8 := by rw [cells40_len, List.length_take]; congr 1; omega
  rw [hc, List.drop_append_of_le_length (by omega), List.drop_of_length_le (by omega), List.nil_append, List.take_append_of_le_length (by show 8 ≤ 8; omega), List.take_of_length_le (by show 8 ≤ 8; omega)]
  exact k40_mkM w base ok p
theorem R_of_cells40 {w : World} {base : Nat} {v : Value} {l : List S40} (h : w.ownsRow base 40 8 v l.length (cells40 l)) (ok : Nat → Prop) (hok : ∀ k, v.ownBlock = some k → ok k) : Kd.R k40 40 w base ok v l :=
  ⟨hok, cells40 l, h, reps40 w base _ l⟩
theorem pay_Transfer.calls (a0 a1 a2 a3 : Int) (P1_ : Nat → Prop) (A1 : Option Addr) (c1 : Nat) (l1 : List S40) (A2 : Option Addr) (c2 : Nat) (l2 : List Int) (r1 : List S40) (r2 : List S24) (r3 r4 r5 r6 r7 : Int) (w : World) (hs1 : Kd.V k40 40 w w.heap.size (fun k_ => P1_ k_) (.slice A1 l1.length c1) l1) (hr2 : Kd.C (Kd.int .i64) w A2 l2.length l2) (hc2 : l2.length ≤ c2) (h : pay_Transfer.f a0 a1 a2 a3 l1 l2 = some (r1, r2, r3, r4, r5, r6, r7)) :
    Calls Try.prog 9 #[.agg #[.int .u64 a0, .int .u64 a1, .int .u64 a2, .int .u64 a3], .slice A1 l1.length c1, .slice A2 l2.length c2] w fun e w' => ∃ v0_ v1_ : Value, e = .returned (.tuple #[v0_, v1_, .agg #[.int .u64 r3, .int .u64 r4, .int .u64 r5, .int .u64 r6], .int .i64 r7]) ∧ Kd.V k40 40 w' w.heap.size (fun k_ => (P1_ k_ ∨ w.heap.size ≤ k_) ∧ some k_ ≠ (v1_ : Value).ownBlock) v0_ r1 ∧ Kd.R k24 24 w' w.heap.size (fun k_ => (w.heap.size ≤ k_)) v1_ r2 ∧ Below w.heap.size w w' := by
  have hlen := (Kd.V_reads' hs1).2.1
  have hF := Kd.V_F hs1
  have hrow : RowL w.heap.size w A1 l1 := fun X hX => hF X (fun k _ hlt => hX k hlt)
  unfold pay_Transfer.f at h
  split at h
  · rename_i hk
    have T := callsIn_wide.1 (transfer_in (wl4 a0 a1 a2 a3) rfl l1 hk.2.1 A1 c1 l2 A2 c2 w hrow hlen hk.2.2.1 hr2 hc2 hk.2.2.2)
    rw [ws_wl4 _ _ _ _ hk.1] at T
    split at h
    · rename_i hcv
      injection h with h
      injection h with e1 h
      injection h with e2 h
      injection h with e3 h
      injection h with e4 h
      injection h with e5 h
      injection h with e6 e7
      subst e1 e2
      refine T.mono ?_
      rintro e w' ⟨_, h0⟩
      obtain ⟨v0, v1, rfl, ho0, ho1, hne, hb⟩ := h0 hcv
      have hl0 : ((List.range l1.length).map (oAt (wl4 a0 a1 a2 a3) l1 l2)).length = l1.length := by simp
      refine ⟨v0, v1, ?_, ?_, R_of_cells (fun k => nAt_len _ _ _ rfl k) ho1 _ (fun k hk => hk), hb⟩
      · rw [ws_four _ (lAt_len _ _ _ rfl _), ← e3, ← e4, ← e5, ← e6, ← e7]
        rfl
      · refine Kd.V_mono (Kd.R_V (R_of_cells40 (l := (List.range l1.length).map (oAt (wl4 a0 a1 a2 a3) l1 l2)) (by rw [hl0]; exact ho0) (fun k => w.heap.size ≤ k ∧ some k ≠ v1.ownBlock) (fun k hk => ⟨own_base ho0 k hk, fun e => hne k hk e.symm⟩))) ?_
        intro k hk
        exact ⟨.inr hk.1, hk.2⟩
    · rename_i hcv
      injection h with h
      injection h with e1 h
      injection h with e2 h
      injection h with e3 h
      injection h with e4 h
      injection h with e5 h
      injection h with e6 e7
      subst e1 e2 e3 e4 e5 e6 e7
      refine T.mono ?_
      rintro e w' ⟨h0, _⟩
      obtain ⟨rfl, hb⟩ := h0 hcv
      refine ⟨_, _, rfl, ?_, Kd.R_nil _ _ _ _ _, hb⟩
      exact Kd.V_mono (Kd.V_below hs1 hb) (fun k hk => ⟨.inl hk, by simp [Value.ownBlock]⟩)
  · cases h
#print axioms pay_Transfer.calls
end Go.Proofs.Ytmnphdgghjdkmaa.P
