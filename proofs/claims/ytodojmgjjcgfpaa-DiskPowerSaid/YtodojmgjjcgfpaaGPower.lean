import Derived.Test.YtodojmgjjcgfpaaPureA
import Derived.Test.YtodojmgjjcgfpaaPeqA23
namespace Go.Proofs.Ytodojmgjjcgfpaa.P
set_option linter.unusedVariables false
open Go.RowKit Go.Proofs.YtodojmgjjcgfpaaW.PrintWords Go.Proofs.YtodojmgjjcgfpaaW.PrintLast Go.Proofs.YtodojmgjjcgfpaaW.PrintMore
attribute [local go_sem high] eqA23
theorem fit_f {D T : ByteArray} {F : Int} (O : Bool) (h : ¬ (D.size + T.size ≤ 131072 ∧ -1 ≤ F ∧ F ≤ 131072)) : truceref22_Fit.f D T F O = some false := by rw [fit_eq, decide_eq_false h]
theorem fit_t {D T : ByteArray} {F : Int} (O : Bool) (h : D.size + T.size ≤ 131072 ∧ -1 ≤ F ∧ F ≤ 131072) : truceref22_Fit.f D T F O = some true := by rw [fit_eq, decide_eq_true h]
set_option maxHeartbeats 1000000 in
theorem power_long (D T s : ByteArray) (F : Int) (O : Bool) (w : World) (h : 200000 < D.size) :
    Calls Try.prog 4 #[.agg #[.string D, .string T, .int .i64 F, .bool O], .string s] w fun e w' => e = .returned (.bool true) ∧ Below w.heap.size w w' := by
  have h1 : decide ((200000 : Int) < D.size) = true := by simp; omega
  go_enter Try.func4, Try.ntmps4
  go_wp2_with fail
  refine (awake_calls _).mono ?_
  rintro e w1 ⟨rfl, hb⟩
  have HB := Aside0.mk (below_step (below_alloc (Below.refl _ _) _) hb)
  clear hb
  go_wp2_with fail
  go_ret
  exact ⟨rfl, HB.out⟩
set_option maxHeartbeats 1000000 in
theorem power_text (D T s : ByteArray) (F : Int) (O : Bool) (w : World) (h0 : D.size ≤ 200000) (h : 1000 < s.size) :
    Calls Try.prog 4 #[.agg #[.string D, .string T, .int .i64 F, .bool O], .string s] w fun e w' => e = .returned (.bool true) ∧ Below w.heap.size w w' := by
  have h1 : decide ((200000 : Int) < D.size) = false := by simp; omega
  have h2 : decide ((1000 : Int) < s.size) = true := by simp; omega
  go_enter Try.func4, Try.ntmps4
  go_wp2_with fail
  refine (awake_calls _).mono ?_
  rintro e w1 ⟨rfl, hb⟩
  have HB := Aside0.mk (below_step (below_alloc (Below.refl _ _) _) hb)
  clear hb
  go_wp2_with fail
  go_ret
  exact ⟨rfl, HB.out⟩
set_option maxHeartbeats 1000000 in
theorem power_unfit (D T s : ByteArray) (F : Int) (O : Bool) (w : World) (h0 : D.size ≤ 200000) (h : s.size ≤ 1000) (hf : ¬ (D.size + T.size ≤ 131072 ∧ -1 ≤ F ∧ F ≤ 131072)) :
    Calls Try.prog 4 #[.agg #[.string D, .string T, .int .i64 F, .bool O], .string s] w fun e w' => e = .returned (.bool true) ∧ Below w.heap.size w w' := by
  have h1 : decide ((200000 : Int) < D.size) = false := by simp; omega
  have h2 : decide ((1000 : Int) < s.size) = false := by simp; omega
  have Hf := Aside0.mk (fit_f O hf)
  clear hf
  go_enter Try.func4, Try.ntmps4
  go_wp2_with fail
  refine (truceref22_Fit.calls _ _ _ _ _ _ Hf.out).mono ?_
  rintro e w1 ⟨rfl, hb⟩
  have HB := Aside0.mk (below_step (below_alloc (Below.refl _ _) _) hb)
  clear hb
  go_wp2_with fail
  refine (awake_calls _).mono ?_
  rintro e w2 ⟨rfl, hb⟩
  have HB2 := Aside0.mk (below_step HB.out hb)
  clear hb
  go_wp2_with fail
  go_ret
  exact ⟨rfl, HB2.out⟩
set_option maxHeartbeats 4000000 in
theorem power_off (D T s : ByteArray) (F : Int) (w : World) (hD : D.size ≤ 200000) (hs : s.size ≤ 1000) (hf : D.size + T.size ≤ 131072 ∧ -1 ≤ F ∧ F ≤ 131072) :
    Calls Try.prog 4 #[.agg #[.string D, .string T, .int .i64 F, .bool true], .string s] w fun e w' => e = .returned (.bool true) ∧ Below w.heap.size w w' := by
  have h1 : decide ((200000 : Int) < D.size) = false := by simp; omega
  have h2 : decide ((1000 : Int) < s.size) = false := by simp; omega
  have Hf := Aside0.mk (fit_t true hf)
  have Hw : Aside0 (disk_Write.f D T F true s = some (D, T, F, true, 26)) := ⟨by unfold disk_Write.f; rw [if_pos (by refine ⟨?_, ?_, ?_, ?_, ?_⟩ <;> omega), if_pos rfl]⟩
  have Hs : Aside0 (disk_Sync.f D T F true = some (D, T, F, true, 26)) := ⟨by unfold disk_Sync.f; rw [if_pos rfl]⟩
  have Ha : Aside0 (disk_Arm.f D T F true 3 = some (D, T, F, true)) := ⟨by unfold disk_Arm.f; rw [if_pos rfl]⟩
  clear hf hD hs
  go_enter Try.func4, Try.ntmps4
  go_wp2_with fail
  refine (truceref22_Fit.calls _ _ _ _ _ _ Hf.out).mono ?_
  rintro e w1 ⟨rfl, hb⟩
  have K1 := Aside0.mk (blk_below (blk_new w _) hb)
  have HB1 := Aside0.mk (below_step (below_alloc (Below.refl _ _) _) hb)
  clear hb
  have hc := cells4 K1.out
  have G1 := Aside0.mk (Nat.le_refl w.heap.size)
  go_wp2_with fail
  refine (disk_Write.calls _ _ _ _ _ _ _ _ _ _ _ Hw.out).mono ?_
  rintro e w2 ⟨rfl, hb⟩
  have K2 := Aside0.mk (blk_below K1.out hb)
  have HB2 := Aside0.mk (below_step HB1.out hb)
  clear hb hc K1 HB1
  have hc := cells4 K2.out
  have hl := blk_lt K2.out
  have hl2 : ¬ w.heap.size = w2.heap.size := by omega
  go_wp2_with fail
  refine (disk_Sync.calls _ _ _ _ _ _ _ _ _ _ Hs.out).mono ?_
  rintro e w3 ⟨rfl, hb⟩
  have K3 := Aside0.mk (blk_below (blk_alloc K2.out _) hb)
  have K3a := Aside0.mk (blk_below (blk_new w2 _) hb)
  have HB3 := Aside0.mk (below_step (below_alloc HB2.out _) hb)
  have hl3 := blk_lt K3.out
  have hl3a := blk_lt K3a.out
  have hc3 := cells4 K3.out
  have hc3a := cells4 K3a.out
  clear hb hc K2 HB2
  obtain ⟨g2, hg2⟩ : ∃ g, g = w2.heap.size := ⟨_, rfl⟩
  rw [← hg2] at K3a hl hl2 hl3a hc3a ⊢
  clear hg2
  have hl4 : ¬ w.heap.size = w3.heap.size := by omega
  have hl5 : ¬ g2 = w3.heap.size := by omega
  go_wp2_with fail
  generalize hW : w3.alloc _ = W
  have hc4 : W.cell? ⟨w.heap.size, 0, none⟩ = some (.string D) ∧ W.cell? ⟨w.heap.size, 1, none⟩ = some (.string T) ∧ W.cell? ⟨w.heap.size, 2, none⟩ = some (.int .i64 F) ∧ W.cell? ⟨w.heap.size, 3, none⟩ = some (.bool true) := by
    subst hW; exact (cells4 (blk_alloc K3.out _)).1
  have hc5 : W.cell? ⟨g2, 0, none⟩ = some (.string D) ∧ W.cell? ⟨g2, 1, none⟩ = some (.string T) ∧ W.cell? ⟨g2, 2, none⟩ = some (.int .i64 F) ∧ W.cell? ⟨g2, 3, none⟩ = some (.bool true) := by
    subst hW; exact (cells4 (blk_alloc K3a.out _)).1
  have hc6 : W.cell? ⟨w3.heap.size, 0, none⟩ = some (.string D) ∧ W.cell? ⟨w3.heap.size, 1, none⟩ = some (.string T) ∧ W.cell? ⟨w3.heap.size, 2, none⟩ = some (.int .i64 F) ∧ W.cell? ⟨w3.heap.size, 3, none⟩ = some (.bool true) := by
    subst hW; exact (cells4 (blk_new w3 _)).1
  have HBW : Aside0 (Below w.heap.size w W) := by subst hW; exact ⟨below_alloc HB3.out _⟩
  obtain ⟨g3, hg3⟩ : ∃ g, g = w3.heap.size := ⟨_, rfl⟩
  rw [← hg3] at hc6 ⊢
  clear hg3 hW hc3 hc3a hl hl2 hl3 hl3a hl4 hl5 K3 K3a HB3
  go_region_held3 (fun w' => w'.cell? ⟨w.heap.size, 0, none⟩ = some (.string D) ∧ w'.cell? ⟨w.heap.size, 1, none⟩ = some (.string T) ∧ w'.cell? ⟨w.heap.size, 2, none⟩ = some (.int .i64 F) ∧ w'.cell? ⟨w.heap.size, 3, none⟩ = some (.bool true) ∧
    w'.cell? ⟨g2, 0, none⟩ = some (.string D) ∧ w'.cell? ⟨g2, 1, none⟩ = some (.string T) ∧ w'.cell? ⟨g2, 2, none⟩ = some (.int .i64 F) ∧ w'.cell? ⟨g2, 3, none⟩ = some (.bool true) ∧
    w'.cell? ⟨g3, 0, none⟩ = some (.string D) ∧ w'.cell? ⟨g3, 1, none⟩ = some (.string T) ∧ w'.cell? ⟨g3, 2, none⟩ = some (.int .i64 F) ∧ w'.cell? ⟨g3, 3, none⟩ = some (.bool true))
    (first | go_keep | (go_split_ands; (repeat' apply And.intro) <;> first | exact pw_cell_below hb7 (by assumption) | exact pw_cell_below hb9 (by assumption)))
    (first | (go_at_call 9; refine (disk_Arm.calls _ _ _ _ _ _ _ _ _ _ Ha.out).mono ?_; rintro e w4 ⟨rfl, hb9⟩) | (go_at_call 7; refine (awake_calls _).mono ?_; rintro e w5 ⟨rfl, hb7⟩))
  have HBE := Aside0.mk (below_step (below_step (pw_below_drewN HBW.out 1) hb9) hb7)
  clear hb9 hb7
  go_wp2
  go_ret
  exact ⟨rfl, HBE.out⟩
/-- The power is there: what a write leaves, in its three ways. -/
theorem write_ways (D T s : ByteArray) (F : Int) (hs : s.size ≤ 1000) (hf : D.size + T.size ≤ 131072 ∧ -1 ≤ F ∧ F ≤ 131072) :
    (disk_Write.f D T F false s = some (D, T, F, false, 3)) ∨ (∃ T' F', disk_Write.f D T F false s = some (D, T', F', true, 26)) ∨ (∃ T' F', disk_Write.f D T F false s = some (D, T', F', false, 0)) := by
  unfold disk_Write.f
  rw [if_pos (by refine ⟨?_, ?_, ?_, ?_, ?_⟩ <;> omega), if_neg (by simp)]
  split
  · exact .inl rfl
  · split
    · exact .inr (.inr ⟨_, _, rfl⟩)
    · split
      · exact .inr (.inl ⟨_, _, rfl⟩)
      · exact .inr (.inr ⟨_, _, rfl⟩)
set_option maxHeartbeats 4000000 in
theorem power_on (D T s T' : ByteArray) (F F' : Int) (O' : Bool) (c : Int) (w : World) (hD : D.size ≤ 200000) (hs : s.size ≤ 1000) (hf : D.size + T.size ≤ 131072 ∧ -1 ≤ F ∧ F ≤ 131072)
    (Hw : Aside0 (disk_Write.f D T F false s = some (D, T', F', O', c))) (hc : Aside0 (c = 3 ∧ T' = T ∧ F' = F ∧ O' = false ∨ c = 26 ∧ O' = true ∨ c = 0 ∧ O' = false)) :
    Calls Try.prog 4 #[.agg #[.string D, .string T, .int .i64 F, .bool false], .string s] w fun e w' => e = .returned (.bool true) ∧ Below w.heap.size w w' := by
  have h1 : decide ((200000 : Int) < D.size) = false := by simp; omega
  have h2 : decide ((1000 : Int) < s.size) = false := by simp; omega
  have hDT : D.size + T.size ≤ 131072 := hf.1
  have Hf := Aside0.mk (fit_t false hf)
  have Hs : Aside0 (disk_Sync.f D T F false = some (D ++ T, ⟨#[]⟩, F, false, 0)) := ⟨by unfold disk_Sync.f; rw [if_neg (by simp), if_pos (by omega)]⟩
  clear hf hD hs
  have hc' := hc.out
  clear hc
  rcases hc' with ⟨rfl, rfl, rfl, rfl⟩ | ⟨rfl, rfl⟩ | ⟨rfl, rfl⟩
  all_goals
    go_enter Try.func4, Try.ntmps4
    go_wp2_with fail
    refine (truceref22_Fit.calls _ _ _ _ _ _ Hf.out).mono ?_
    rintro e w1 ⟨rfl, hb⟩
    have K1 := Aside0.mk (blk_below (blk_new w _) hb)
    have HB1 := Aside0.mk (below_step (below_alloc (Below.refl _ _) _) hb)
    clear hb
    have hc := cells4 K1.out
    go_wp2_with fail
    refine (disk_Write.calls _ _ _ _ _ _ _ _ _ _ _ Hw.out).mono ?_
    rintro e w2 ⟨rfl, hb⟩
    have K2 := Aside0.mk (blk_below K1.out hb)
    have HB2 := Aside0.mk (below_step HB1.out hb)
    clear hb hc K1 HB1
    have hc := cells4 K2.out
    have hl := blk_lt K2.out
    have hl2 : ¬ w.heap.size = w2.heap.size := by omega
    go_wp2_with fail
    refine (disk_Sync.calls _ _ _ _ _ _ _ _ _ _ Hs.out).mono ?_
    rintro e w3 ⟨rfl, hb⟩
    have K3 := Aside0.mk (blk_below (blk_alloc K2.out _) hb)
    have K3a := Aside0.mk (blk_below (blk_new w2 _) hb)
    have HB3 := Aside0.mk (below_step (below_alloc HB2.out _) hb)
    have hl3 := blk_lt K3.out
    have hl3a := blk_lt K3a.out
    have hc3 := cells4 K3.out
    have hc3a := cells4 K3a.out
    clear hb hc K2 HB2
    obtain ⟨g2, hg2⟩ : ∃ g, g = w2.heap.size := ⟨_, rfl⟩
    rw [← hg2] at K3a hl hl2 hl3a hc3a ⊢
    clear hg2
    have hl4 : ¬ w.heap.size = w3.heap.size := by omega
    have hl5 : ¬ g2 = w3.heap.size := by omega
    go_wp2_with fail
    refine (awake_calls _).mono ?_
    rintro e w4 ⟨rfl, hb⟩
    have HB4 := Aside0.mk (below_step (below_alloc HB3.out _) hb)
    clear hb hc3 hc3a
    go_wp2_with fail
    go_ret
    exact ⟨rfl, HB4.out⟩
theorem power_calls (D T s : ByteArray) (F : Int) (O : Bool) (w : World) :
    Calls Try.prog 4 #[.agg #[.string D, .string T, .int .i64 F, .bool O], .string s] w fun e w' => e = .returned (.bool true) ∧ Below w.heap.size w w' := by
  by_cases h1 : 200000 < D.size
  · exact power_long D T s F O w h1
  by_cases h2 : 1000 < s.size
  · exact power_text D T s F O w (by omega) h2
  by_cases hf : D.size + T.size ≤ 131072 ∧ -1 ≤ F ∧ F ≤ 131072
  case neg => exact power_unfit D T s F O w (by omega) (by omega) hf
  cases O with
  | true => exact power_off D T s F w (by omega) (by omega) hf
  | false =>
    rcases write_ways D T s F (by omega) hf with h | ⟨T', F', h⟩ | ⟨T', F', h⟩
    · exact power_on D T s T F F false 3 w (by omega) (by omega) hf ⟨h⟩ ⟨.inl ⟨rfl, rfl, rfl, rfl⟩⟩
    · exact power_on D T s T' F F' true 26 w (by omega) (by omega) hf ⟨h⟩ ⟨.inr (.inl ⟨rfl, rfl⟩)⟩
    · exact power_on D T s T' F F' false 0 w (by omega) (by omega) hf ⟨h⟩ ⟨.inr (.inr ⟨rfl, rfl⟩)⟩
end Go.Proofs.Ytodojmgjjcgfpaa.P
