import Derived.Test.YtmnphdgghjdkmaaGCheck
import Derived.Test.YtmnphdgghjdkmaaHeldIn
namespace Go.Proofs.Ytmnphdgghjdkmaa.P
set_option linter.unusedVariables false
set_option linter.unusedSimpArgs false
open Go.RowKit Go.Shelf Go.Proofs.YtmnphdgghjdkmaaW.PrintWords
/-! What pay.Transfer leans on: slices.Contains; rows of allocations whose amounts change. -/
set_option maxHeartbeats 1000000 in
theorem indexI_any (W : List Int) (x : Int) (A2 : Option Addr) (c2 : Nat) (w : World) (hW : Kd.C (Kd.int .i64) w A2 W.length W) (hW1 : W.length ≤ 1000) :
    Calls Try.prog 30 #[.slice A2 W.length c2, .int .i64 x] w fun e w' => (∃ r : Int, e = .returned (.int .i64 r) ∧ (decide (0 ≤ r) = decide (x ∈ W))) ∧ w = w' := by
  have HW := Aside0.mk hW
  clear hW
  go_enter Try.func30, Try.ntmps30
  go_wp2
  go_loopw [8] (fun i wr => ∃ k : Nat, k ≤ W.length ∧ i = .int .i64 (k : Nat) ∧ (∀ j, j < k → W.getD j 0 ≠ x) ∧ w = wr) (fun i _ => W.length - (intOf i).toNat)
  case atStart => exact ⟨0, by omega, rfl, fun j hj => by omega, rfl⟩
  case round =>
    obtain ⟨k, hk, rfl, hz, rfl⟩ := hrel
    have HZ := Aside0.mk hz
    clear hz
    by_cases hlt : k < W.length
    · obtain ⟨ad, e, hcell⟩ := Kd.at_int HW.out (k : Int) (by omega) (by omega)
      subst e
      have hr : rd W (k : Int) = W.getD k 0 := by simp [rd]
      rw [hr, Int.toNat_natCast] at hcell
      have hmem : W.getD k 0 ∈ W := by simp only [List.getD_eq_getElem?_getD, List.getElem?_eq_getElem hlt, Option.getD_some]; exact List.getElem_mem hlt
      have HM := Aside0.mk hmem
      have hki : (k : Int) < (W.length : Int) := by omega
      generalize hy : W.getD k 0 = y at *
      have HY := Aside0.mk hy
      clear hr hmem hy
      by_cases hx : x = y
      · have hb : (x == y) = true := by simp [hx]
        have HX := Aside0.mk hx
        clear hx
        go_wp2
        refine bodyPost_ret (v := .int .i64 (k : Int)) (by simp [results, Try.results30, go_sem]) rfl ⟨⟨k, rfl, ?_⟩, rfl⟩
        rw [decide_eq_true (show x ∈ W by rw [HX.out]; exact HM.out)]
        simp
      · have hb : (x == y) = false := by simp [hx]
        have HX := Aside0.mk hx
        clear hx
        go_wp2
        refine ⟨⟨k + 1, by omega, by go_num, ?_, trivial⟩, by simp [intOf]; omega⟩
        intro j hj
        by_cases hjk : j = k
        · subst hjk; rw [HY.out]; exact fun e => HX.out e.symm
        · exact HZ.out j (by omega)
    · obtain rfl : k = W.length := by omega
      go_wp2
      refine bodyPost_ret (v := .int .i64 (-1)) (by simp [results, Try.results30, go_sem]) rfl ⟨⟨-1, rfl, ?_⟩, rfl⟩
      have : x ∉ W := by
        intro hx
        obtain ⟨j, hj, rfl⟩ := List.getElem_of_mem hx
        have := HZ.out j hj
        rw [List.getD_eq_getElem?_getD, List.getElem?_eq_getElem hj, Option.getD_some] at this
        exact this rfl
      rw [decide_eq_false this]
      rfl
theorem containsI_any (W : List Int) (x : Int) (A2 : Option Addr) (c2 : Nat) (w : World) (hW : Kd.C (Kd.int .i64) w A2 W.length W) (hW1 : W.length ≤ 1000) :
    Calls Try.prog 20 #[.slice A2 W.length c2, .int .i64 x] w fun e w' => e = .returned (.bool (decide (x ∈ W))) ∧ w = w' := by
  have C1 := Aside0.mk (indexI_any W x A2 c2 w hW hW1)
  clear hW
  go_enter Try.func20, Try.ntmps20
  go_wp2_with fail
  refine C1.out.mono ?_
  rintro e w1 ⟨⟨r, rfl, hr⟩, rfl⟩
  go_wp2
  exact bodyPost_ret (v := .bool (decide (x ∈ W))) (by simp [results, Try.results20, go_sem, hr]) rfl ⟨rfl, rfl⟩
/-- A cell of a row that is owned is written. -/
theorem own_write {W : World} {base : Nat} {e : TypeId} {size n g cap : Nat} {xs : List Value} (h : W.ownsRow base e size (.slice (some ⟨g, 0, none⟩) n cap) n xs) (k : Nat) (u : Value) :
    (W.setCell ⟨g, k, none⟩ u).ownsRow base e size (.slice (some ⟨g, 0, none⟩) n cap) n (xs.set k u) := by
  obtain ⟨h1, h2 | ⟨g', cap', cur, e1, hb, hg, hc, hm, hs, ht⟩⟩ := h
  · cases h2.1
  · injection e1 with e1 _ e3
    injection e1 with e1
    injection e1 with e1 _ _
    subst e1 e3
    refine ⟨by rw [List.length_set, h1], .inr ⟨g, cap, cur.setIfInBounds k u, rfl, hb, blk_set hg k u, hc, hm, by rw [Array.size_setIfInBounds, hs], ?_⟩⟩
    rw [Array.toList_setIfInBounds, List.take_set, ht]
theorem own_cell {W : World} {base : Nat} {e : TypeId} {size n g cap : Nat} {xs : List Value} (h : W.ownsRow base e size (.slice (some ⟨g, 0, none⟩) n cap) n xs) (k : Nat) (u : Value) (hk : xs[k]? = some u) :
    W.cell? ⟨g, k, none⟩ = some u ∧ W.frozen? ⟨g, k, none⟩ = false := by
  obtain ⟨h1, h2 | ⟨g', cap', cur, e1, hb, hg, hc, hm, hs, ht⟩⟩ := h
  · cases h2.1
  · injection e1 with e1 _ e3
    injection e1 with e1
    injection e1 with e1 _ _
    subst e1 e3
    refine ⟨(blk_cell hg k).trans ?_, blk_frozen hg k⟩
    rw [← ht] at hk
    rw [← Array.getElem?_toList]
    rw [List.getElem?_take] at hk
    split at hk
    · exact hk
    · cases hk
def putA (a : S40) (L : List W64) : S40 := ⟨a.f0, sw L, a.f2, a.f3, a.f4⟩
theorem cells40_put (L1 L2 : List S40) (a : S40) (D : List W64) :
    ((((cells40 (L1 ++ a :: L2)).set (L1.length * 8 + 1) (.int .u64 (vw (gw D 0)))).set (L1.length * 8 + 2) (.int .u64 (vw (gw D 1)))).set (L1.length * 8 + 3) (.int .u64 (vw (gw D 2)))).set (L1.length * 8 + 4) (.int .u64 (vw (gw D 3))) = cells40 (L1 ++ putA a D :: L2) := by
  have h : ∀ b, cells40 (L1 ++ b :: L2) = cells40 L1 ++ ((rowA b).toList ++ cells40 L2) := fun b => by simp [cells40]
  have hl := cells40_len L1
  rw [h, h]
  have st : ∀ (X : List Value) (i : Nat) (u : Value), (cells40 L1 ++ X).set (L1.length * 8 + i) u = cells40 L1 ++ X.set i u := fun X i u => by
    rw [List.set_append_right _ _ (by omega), hl, Nat.add_sub_cancel_left]
  rw [st, st, st, st]
  congr 1
theorem cells40_at (L1 L2 : List S40) (a : S40) (i : Nat) (u : Value) (h : (rowA a).toList[i]? = some u) : (cells40 (L1 ++ a :: L2))[L1.length * 8 + i]? = some u := by
  have hl := cells40_len L1
  have hi : i < (rowA a).toList.length := (List.getElem?_eq_some_iff.1 h).1
  rw [show cells40 (L1 ++ a :: L2) = cells40 L1 ++ ((rowA a).toList ++ cells40 L2) by simp [cells40], List.getElem?_append_right (by omega), hl, Nat.add_sub_cancel_left, List.getElem?_append_left hi]
  exact h
def wl (L : List W64) : List Value := L.map fun b => Value.int .u64 (vw b)
theorem wl_eq (L : List W64) : (wl L).toArray = ws L := rfl
theorem range_of {W : World} {g : Nat} {t : TypeId} {L : List W64} (h : Holds W g t L) : W.rangeAt g 0 (wl L) := by
  intro j v hv
  rw [Nat.zero_add]
  have hj : j < L.length := by
    have := (List.getElem?_eq_some_iff.1 hv).1
    simpa [wl] using this
  rw [h.cell j hj]
  simp only [wl, List.getElem?_map, List.getElem?_eq_getElem hj] at hv
  simp only [gw, List.getD, List.getElem?_eq_getElem hj]
  simpa using hv
/-- The allocations behind k rounds. -/
def outK (H : List W64) (l : List S40) (W : List Int) (k : Nat) : List S40 := (List.range k).map (oAt H l W) ++ l.drop k
theorem outK_split (H : List W64) (l : List S40) (W : List Int) (k : Nat) (hk : k < l.length) : outK H l W k = (List.range k).map (oAt H l W) ++ at40 l k :: l.drop (k + 1) := by
  rw [outK, List.drop_eq_getElem_cons hk]
  congr 2
  simp [at40, List.getD_eq_getElem?_getD, List.getElem?_eq_getElem hk]
theorem outK_succ (H : List W64) (l : List S40) (W : List Int) (k : Nat) (hk : k < l.length) : outK H l W (k + 1) = (List.range k).map (oAt H l W) ++ putA (at40 l k) (subk (am (at40 l k)) (nAt H l W k) 4).1 :: l.drop (k + 1) := by
  rw [outK, List.range_succ, List.map_append]
  simp [oAt, putA]
theorem outK_zero (H : List W64) (l : List S40) (W : List Int) : outK H l W 0 = l := by simp [outK]
theorem outK_end (H : List W64) (l : List S40) (W : List Int) : outK H l W l.length = (List.range l.length).map (oAt H l W) := by simp [outK]
theorem nAt_len (H : List W64) (l : List S40) (W : List Int) (hH : H.length = 4) (k : Nat) : (nAt H l W k).length = 4 := by
  rw [nAt]
  split
  · rfl
  · exact cAt_len H l hH k
theorem lAt_len (H : List W64) (l : List S40) (W : List Int) (hH : H.length = 4) (k : Nat) : (lAt H l W k).length = 4 := by
  cases k with
  | zero => exact hH
  | succ k => 
    rw [lAt, subk_len]
    induction k with
    | zero => exact hH
    | succ k ih => rw [lAt, subk_len, ih]
theorem skip_no1 {l : List S40} {W : List Int} {k : Nat} (h0 : (at40 l k).f2 = 0) (h1 : W.length = 0) : ¬ skip l W k := by
  rintro (h | ⟨h, _⟩)
  · exact h h0
  · omega
theorem skip_no2 {l : List S40} {W : List Int} {k : Nat} (h0 : (at40 l k).f2 = 0) (h1 : (k : Int) ∈ W) : ¬ skip l W k := by
  rintro (h | ⟨_, h⟩)
  · exact h h0
  · exact h h1
theorem skip_yes1 {l : List S40} {W : List Int} {k : Nat} (h0 : (at40 l k).f2 ≠ 0) : skip l W k := .inl h0
theorem skip_yes2 {l : List S40} {W : List Int} {k : Nat} (h1 : W.length ≠ 0) (h2 : (k : Int) ∉ W) : skip l W k := .inr ⟨by omega, h2⟩
end Go.Proofs.Ytmnphdgghjdkmaa.P
