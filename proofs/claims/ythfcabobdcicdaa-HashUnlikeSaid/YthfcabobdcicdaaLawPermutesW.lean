import Derived.Test.YthfcabobdcicdaaSame
import Derived.Test.YthfcabobdcicdaaGAwake
import Derived.Deep.RegionHeld3
import Derived.Deep.MidRow
import Derived.ChangeKeysEq
namespace Go.Proofs.Ythfcabobdcicdaa.P
set_option linter.unusedVariables false
set_option linter.unusedSimpArgs false
open Go.RowKit Go.Proofs.YthfcabobdcicdaaW.PrintWords
def wl (L : List W64) : List Value := L.map fun b => Value.int .u64 (vw b)
theorem wl_eq (L : List W64) : (wl L).toArray = ws L := rfl
theorem range_of {W : World} {g : Nat} {t : TypeId} {L : List W64} (h : Holds W g t L) : W.rangeAt g 0 (wl L) := by
  intro j v hv
  rw [Nat.zero_add]
  have hj : j < L.length := by
    have := (List.getElem?_eq_some_iff.1 hv).1
    simpa [wl] using this
  rw [h.cell j hj]
  simp only [wl, List.getElem?_map, List.getElem?_eq_getElem hj] at hv
  simp only [gw, List.getD, List.getElem?_eq_getElem hj]
  simpa using hv
theorem range_below {W w1 : World} {g : Nat} {L : List W64} (h : W.rangeAt g 0 (wl L)) (hb : Below W.heap.size W w1) : w1.rangeAt g 0 (wl L) := by
  intro j v hv
  have hg := World.block_lt_of_cell? W ⟨g, 0 + j, none⟩ (h j v hv)
  rw [← h j v hv]
  exact hb.cell (p := ⟨g, 0 + j, none⟩) hg
theorem eqItems_ws (d : Nat) (A B : List W64) : ∀ (is : List Nat) (w : World), (∀ i ∈ is, i < A.length ∧ i < B.length) → (Op.eqItems (d + 1) 22 1 (ws A) (ws B) is).run Try.prog w = .ok (is.all fun i => gw A i == gw B i) w
  | [], w, _ => by simp [Op.eqItems]
  | i :: is, w, h => by
    have hi := h i (by simp)
    have ih := eqItems_ws d A B is w (fun j hj => h j (by simp [hj]))
    have hag : ∀ w, (isAgg 22).run Try.prog w = .ok false w := fun w => by simp [isAgg, run_underlying Try.underlying22]
    have hq : ∀ (a b : Int) (w : World), (Op.equalIn (d + 1) 22 (.int .u64 a) (.int .u64 b)).run Try.prog w = .ok (a == b) w := fun a b w => by simp [Op.equalIn, run_underlying Try.underlying22]
    have ha := ws_get A i hi.1
    have hb := ws_get B i hi.2
    have hp : ∀ (X : List W64), i < X.length → (part 22 (ws X) (i * 1)).run Try.prog w = .ok (.int .u64 (vw (gw X i))) w := fun X hX => by
      simp [part, hag, ws_get X i hX]
    rw [Op.eqItems]
    simp only [Sem.run_bind, hp A hi.1, hp B hi.2, Result.andThen_ok, hq]
    have hv : (vw (gw A i) == vw (gw B i)) = (gw A i == gw B i) := by
      rw [Bool.eq_iff_iff, beq_iff_eq, beq_iff_eq]
      constructor
      · intro e
        have := congrArg (BitVec.ofInt 64) e
        rwa [of_vw, of_vw] at this
      · intro e; rw [e]
    rw [hv, List.all_cons]
    cases gw A i == gw B i
    · simp
    · simp [ih]
theorem run_eq_ws (d : Nat) (A B : List W64) (hA : A.length = 25) (hB : B.length = 25) (w : World) : (Op.equalIn (d + 2) 23 (.agg (ws A)) (.agg (ws B))).run Try.prog w = .ok (decide (A = B)) w := by
  have hi : ∃ i, Try.prog.info? 22 = some i := by
    have h : (Try.prog.info? 22).isSome = true := by kernel_rfl
    exact Option.isSome_iff_exists.1 h
  obtain ⟨i, hi⟩ := hi
  have hc : Try.prog.cellsOf 22 = 1 := by kernel_rfl
  rw [run_equalIn_array w (d + 1) _ _ Try.underlying23 hi, hc, eqItems_ws d A B (List.range 25) w (fun i hi => by simp at hi; omega)]
  congr 1
  rw [Bool.eq_iff_iff, List.all_eq_true, decide_eq_true_iff]
  constructor
  · intro h
    apply List.ext_getElem (by omega)
    intro k h1 h2
    have := h k (by simp; omega)
    rw [beq_iff_eq] at this
    simpa [gw, List.getD, List.getElem?_eq_getElem h1, List.getElem?_eq_getElem h2] using this
  · rintro rfl k _
    simp
set_option maxHeartbeats 4000000 in
theorem permutes_core (L : List W64) (hL : L.length = 25) (A : List W64) (hl : A.length = 25) (w : World)
    (c1 : ∀ w, Calls Try.prog 8 #[.agg (ws L)] w fun e w' => e = .returned (.agg (ws A)) ∧ Below w.heap.size w w')
    (c2 : ∀ w, Calls Try.prog 9 #[.agg (ws L)] w fun e w' => e = .returned (.agg (ws A)) ∧ Below w.heap.size w w') :
    Calls Try.prog 3 #[.agg (ws L)] w fun e w' => e = .returned (.bool true) ∧ Below w.heap.size w w' := by
  have H := Aside0.mk (And.intro c1 c2)
  have heq := fun d w => run_eq_ws d A A hl hl w
  simp only [decide_true] at heq
  have HEQ := Aside0.mk heq
  clear c1 c2 heq
  have hu : Try.prog.underlying 23 = some (.array 25 22) := Try.underlying23
  have hi : (Try.prog.info? 23).map (·.size) = some (wl L).length := by rw [show (wl L).length = 25 by simp [wl, hL]]; kernel_rfl
  have hr : (w.alloc (.cells (ws L) 23)).rangeAt w.heap.size 0 (wl L) := range_of (t := 23) (show Holds _ _ _ _ from blk_new w _)
  have HB := Aside0.mk (below_alloc (Below.refl w.heap.size w) (.cells (ws L) 23))
  go_enter Try.func3, Try.ntmps3
  go_wp2_with fail
  generalize hW : w.alloc (.cells (ws L) 23) = W at *
  refine wp_region_held_drew (S := fun w' => w'.rangeAt w.heap.size 0 (wl L)) (by kernel_rfl) (by exact hr) (fun hHeld => ?_)
  refine wpAnyH_take (i := 0) (v := .agg (wl L).toArray) rfl (by kernel_rfl) (by kernel_rfl) (by kernel_rfl) (fun _ _ _ h => h) (yieldsIf_load_mid rfl 23 _ rfl w.heap.size 0 rfl (wl L) _ (fun _ h => h) hu rfl hi) hHeld ?_
  simp only [Act.put, List.setIfInBounds_toArray, List.set_cons_zero, List.set_cons_succ]
  refine wpAnyH_take (i := 2) (v := .agg (wl L).toArray) rfl (by kernel_rfl) (by kernel_rfl) (by kernel_rfl) (fun _ _ _ h => h) (yieldsIf_load_mid rfl 23 _ rfl w.heap.size 0 rfl (wl L) _ (fun _ h => h) hu rfl hi) hHeld ?_
  simp only [Act.put, List.setIfInBounds_toArray, List.set_cons_zero, List.set_cons_succ]
  refine wpAnyH_ready (rs := [1]) (by kernel_rfl) (by simp) ?_
  refine AllReadyH.cons rfl (fun K hK => ?_) AllReadyH.nil
  go_simp
  refine (H.out.1 _).mono ?_
  rintro e w1 ⟨rfl, hb1⟩
  refine hK.out _ _ (range_below (by exact hHeld) hb1) (fun hHeld1 => ?_)
  clear hK K hHeld
  have HB1 := Aside0.mk (below_step (below_drew1 HB.out) hb1)
  clear hb1 HB
  try simp only [Act.put, List.setIfInBounds_toArray, List.set_cons_zero, List.set_cons_succ]
  refine wpAnyH_ready (rs := [3]) (by kernel_rfl) (by simp) ?_
  refine AllReadyH.cons rfl (fun K hK => ?_) AllReadyH.nil
  go_simp
  refine (H.out.2 _).mono ?_
  rintro e w2 ⟨rfl, hb2⟩
  refine hK.out _ _ (range_below hHeld1 hb2) (fun hHeld2 => ?_)
  clear hK K hHeld1
  have HB2 := Aside0.mk (below_step HB1.out hb2)
  clear hb2 HB1
  try simp only [Act.put, List.setIfInBounds_toArray, List.set_cons_zero, List.set_cons_succ]
  have HH := Aside0.mk hHeld2
  clear hHeld2 hr hu hi hW
  refine wpAnyH_ready (rs := [4]) (by kernel_rfl) (by simp) ?_
  refine AllReadyH.cons rfl (fun K hK => ?_) AllReadyH.nil
  have heq := HEQ.out
  go_simp
  refine hK.out _ _ HH.out (fun hHeld => ?_)
  clear hK K
  try simp only [Act.put, List.setIfInBounds_toArray, List.set_cons_zero, List.set_cons_succ]
  refine wpAnyH_ready (rs := [5]) (by kernel_rfl) (by simp) ?_
  refine AllReadyH.cons rfl (fun K hK => ?_) AllReadyH.nil
  go_simp
  refine hK.out _ _ HH.out (fun hHeld => ?_)
  clear hK K
  try simp only [Act.put, List.setIfInBounds_toArray, List.set_cons_zero, List.set_cons_succ]
  refine wpAnyH_ready (rs := [6]) (by kernel_rfl) (by simp) ?_
  refine AllReadyH.cons rfl (fun K hK => ?_) AllReadyH.nil
  go_simp
  refine (awake_any _).mono ?_
  rintro e w3 ⟨rfl, hb3⟩
  refine hK.out _ _ (range_below HH.out hb3) (fun hHeld3 => ?_)
  clear hK K
  have HB3 := Aside0.mk (below_step HB2.out hb3)
  clear hb3
  try simp only [Act.put, List.setIfInBounds_toArray, List.set_cons_zero, List.set_cons_succ]
  refine wpAnyH_ready (rs := [7]) (by kernel_rfl) (by simp) ?_
  refine AllReadyH.cons rfl (fun K hK => ?_) AllReadyH.nil
  go_simp
  refine hK.out _ _ hHeld3 (fun hHeld => ?_)
  clear hK K
  try simp only [Act.put, List.setIfInBounds_toArray, List.set_cons_zero, List.set_cons_succ]
  refine wpAnyH_ready (rs := [8]) (by kernel_rfl) (by simp) ?_
  refine AllReadyH.cons rfl (fun K hK => ?_) AllReadyH.nil
  go_simp
  refine hK.out _ _ hHeld3 (fun hHeld => ?_)
  clear hK K
  try simp only [Act.put, List.setIfInBounds_toArray, List.set_cons_zero, List.set_cons_succ]
  refine wpAnyH_done (by kernel_rfl) ?_ _
  go_wp2
  exact bodyPost_ret (v := .bool true) (by simp [results, Try.results3, go_sem]) rfl ⟨rfl, HB3.out⟩
theorem permutes_any (L : List W64) (hL : L.length = 25) (w : World) : Calls Try.prog 3 #[.agg (ws L)] w fun e w' => e = .returned (.bool true) ∧ Below w.heap.size w w' :=
  permutes_core L hL (permuted L) ((permuted_len L).trans hL) w (permute_any L hL) (by rw [permuted_eq L hL]; exact rpermute_any L hL)
end Go.Proofs.Ythfcabobdcicdaa.P
