import Derived.Test.YthfcabobdcicdaaPerm
import Derived.Test.YthfcabobdcicdaaLawPermutesW
namespace Go.Proofs.Ythfcabobdcicdaa.P
set_option linter.unusedVariables false
set_option linter.unusedSimpArgs false
open Go.RowKit Go.Proofs.YthfcabobdcicdaaW.PrintWords
set_option maxHeartbeats 4000000 in
theorem unlike_core (L : List W64) (hL : L.length = 25) (k : Int) (b : W64) (w : World) (p : Nat) (hp : (k % 18446744073709551616) % 25 = (p : Int)) (M : List W64) (hM : L.set p (gw L p ^^^ b) = M) (A B : List W64) (hA : A.length = 25) (hB : B.length = 25)
    (k1 : ∀ w, Calls Try.prog 8 #[.agg (ws L)] w fun e w' => e = .returned (.agg (ws A)) ∧ Below w.heap.size w w')
    (k2 : ∀ w, Calls Try.prog 8 #[.agg (ws M)] w fun e w' => e = .returned (.agg (ws B)) ∧ Below w.heap.size w w') (hb0 : decide (A = B) = (vw b == 0)) :
    Calls Try.prog 5 #[.agg (ws L), .int .i64 k, .int .u64 (vw b)] w fun e w' => e = .returned (.bool true) ∧ Below w.heap.size w w' := by
  have hi : (Try.prog.info? 23).map (·.size) = some 25 := by kernel_rfl
  have Hi := Aside0.mk hi
  clear hi
  have HK := Aside0.mk (And.intro k1 k2)
  have heq := fun d w => run_eq_ws d A B hA hB w
  rw [hb0] at heq
  have HEQ := Aside0.mk heq
  have HMM := Aside0.mk hM
  clear k1 k2 heq hb0 hM hA hB
  have hp25 : p < 25 := by omega
  have e1 : (IntKind.u64.wrap k).tmod 25 = (p : Int) := by rw [IntKind.wrap_u64, Int.tmod_eq_emod_of_nonneg (by omega)]; exact hp
  have e2 : wrap64 (p : Int) = (p : Int) := by unfold wrap64; omega
  clear hp
  have T := two w (.cells (ws L) 23) (.cells (ws (List.replicate 25 0)) 23)
  rw [← zeros25] at T
  have HT := Aside0.mk T
  clear T
  go_enter Try.func5, Try.ntmps5
  go_wp2_with (first | (refine load_ws rfl 23 _ rfl w.heap.size rfl 23 L 25 _ (by exact blk_new w _) hL Try.underlying23 rfl Hi.out ?_) | (refine load_ws rfl 23 _ rfl w.heap.size rfl 23 L 25 _ (by exact HT.out.1) hL Try.underlying23 rfl Hi.out ?_) | (refine store_ws rfl 23 _ _ rfl (w.heap.size+1) rfl 23 (List.replicate 25 0) L 25 rfl (by exact HT.out.2.1) (by simp) hL Hi.out ?_; intro w1 hR hB hF hS; have c0 := hR.cell p (by omega); have c1 := hR.free p; have HR1 := Aside0.mk hR; have HB1 := Aside0.mk hB; have HF1 := Aside0.mk hF; clear hR hB hF hS))
  rw [vw_xor]
  have hS0 : Holds (w1.setCell ⟨w.heap.size + 1, p, none⟩ (.int .u64 (vw (gw L p ^^^ b)))) w.heap.size 23 L := (HF1.out w.heap.size 23 L (by omega) HT.out.1).far (by show w.heap.size ≠ w.heap.size + 1; omega) _
  have hT0 : Holds (w1.setCell ⟨w.heap.size + 1, p, none⟩ (.int .u64 (vw (gw L p ^^^ b)))) (w.heap.size + 1) 23 M := by rw [← HMM.out]; exact HR1.out.set p _
  have hBB : Below w.heap.size w (w1.setCell ⟨w.heap.size + 1, p, none⟩ (.int .u64 (vw (gw L p ^^^ b)))) := below_set (HT.out.2.2.trans (HB1.out w.heap.size (by omega))) (by show w.heap.size ≤ w.heap.size + 1; omega)
  have hML : M.length = 25 := by rw [← HMM.out, List.length_set]; exact hL
  generalize w1.setCell ⟨w.heap.size + 1, p, none⟩ (.int .u64 (vw (gw L p ^^^ b))) = W at *
  have HBB := Aside0.mk hBB
  have hu : Try.prog.underlying 23 = some (.array 25 22) := Try.underlying23
  have hi : (Try.prog.info? 23).map (·.size) = some (wl L).length := by rw [show (wl L).length = 25 by simp [wl, hL]]; exact Hi.out
  have hi2 : (Try.prog.info? 23).map (·.size) = some (wl M).length := by rw [show (wl M).length = 25 by simp [wl, hML]]; exact Hi.out
  clear HT HR1 HB1 HF1 hBB c0 c1 e1 e2
  refine wp_region_held_drew (S := fun w' => w'.rangeAt w.heap.size 0 (wl L) ∧ w'.rangeAt (w.heap.size + 1) 0 (wl M)) (by kernel_rfl) ⟨range_of hS0, range_of hT0⟩ (fun hHeld => ?_)
  clear hS0 hT0
  refine wpAnyH_take (i := 0) (v := .agg (wl L).toArray) rfl (by kernel_rfl) (by kernel_rfl) (by kernel_rfl) (fun _ _ _ h => h) (yieldsIf_load_mid rfl 23 _ rfl w.heap.size 0 rfl (wl L) _ (fun _ h => h.1) hu rfl hi) hHeld ?_
  simp only [Act.put, List.setIfInBounds_toArray, List.set_cons_zero, List.set_cons_succ]
  refine wpAnyH_take (i := 2) (v := .agg (wl M).toArray) rfl (by kernel_rfl) (by kernel_rfl) (by kernel_rfl) (fun _ _ _ h => h) (yieldsIf_load_mid rfl 23 _ rfl (w.heap.size + 1) 0 rfl (wl M) _ (fun _ h => h.2) hu rfl hi2) hHeld ?_
  simp only [Act.put, List.setIfInBounds_toArray, List.set_cons_zero, List.set_cons_succ]
  clear hu hi hi2
  refine wpAnyH_take (i := 5) (v := .int .u64 (vw b)) rfl (by kernel_rfl) (by kernel_rfl) (by kernel_rfl) (fun _ _ _ h => h) (Or.inl ⟨by rfl, fun _ _ => by go_simp⟩) hHeld ?_
  simp only [Act.put, List.setIfInBounds_toArray, List.set_cons_zero, List.set_cons_succ]
  refine wpAnyH_take (i := 6) (v := .bool (vw b == 0)) rfl (by kernel_rfl) (by kernel_rfl) (by kernel_rfl) (fun _ _ _ h => h) (Or.inl ⟨by rfl, fun _ _ => by go_simp⟩) hHeld ?_
  simp only [Act.put, List.setIfInBounds_toArray, List.set_cons_zero, List.set_cons_succ]
  generalize (vw b == 0) = z at *
  refine wpAnyH_ready (rs := [1]) (by kernel_rfl) (by simp) ?_
  refine AllReadyH.cons rfl (fun K hK => ?_) AllReadyH.nil
  go_simp
  refine (HK.out.1 _).mono ?_
  rintro e w2 ⟨rfl, hb1⟩
  refine hK.out _ _ ⟨range_below hHeld.1 hb1, range_below hHeld.2 hb1⟩ (fun hHeld1 => ?_)
  clear hK K hHeld
  have HB1 := Aside0.mk (below_step (below_drew1 HBB.out) hb1)
  clear hb1 HBB
  try simp only [Act.put, List.setIfInBounds_toArray, List.set_cons_zero, List.set_cons_succ]
  refine wpAnyH_ready (rs := [3]) (by kernel_rfl) (by simp) ?_
  refine AllReadyH.cons rfl (fun K hK => ?_) AllReadyH.nil
  go_simp
  refine (HK.out.2 _).mono ?_
  rintro e w3 ⟨rfl, hb2⟩
  refine hK.out _ _ ⟨range_below hHeld1.1 hb2, range_below hHeld1.2 hb2⟩ (fun hHeld2 => ?_)
  clear hK K hHeld1
  have HB2 := Aside0.mk (below_step HB1.out hb2)
  clear hb2 HB1
  try simp only [Act.put, List.setIfInBounds_toArray, List.set_cons_zero, List.set_cons_succ]
  have HH := Aside0.mk hHeld2
  clear hHeld2
  refine wpAnyH_ready (rs := [4]) (by kernel_rfl) (by simp) ?_
  refine AllReadyH.cons rfl (fun K hK => ?_) AllReadyH.nil
  have heq := HEQ.out
  go_simp
  clear heq
  refine hK.out _ _ HH.out (fun hHeld => ?_)
  clear hK K hHeld
  try simp only [Act.put, List.setIfInBounds_toArray, List.set_cons_zero, List.set_cons_succ]
  refine wpAnyH_ready (rs := [7]) (by kernel_rfl) (by simp) ?_
  refine AllReadyH.cons rfl (fun K hK => ?_) AllReadyH.nil
  go_simp
  refine hK.out _ _ HH.out (fun hHeld => ?_)
  clear hK K hHeld
  try simp only [Act.put, List.setIfInBounds_toArray, List.set_cons_zero, List.set_cons_succ]
  refine wpAnyH_ready (rs := [8]) (by kernel_rfl) (by simp) ?_
  refine AllReadyH.cons rfl (fun K hK => ?_) AllReadyH.nil
  go_simp
  refine hK.out _ _ HH.out (fun hHeld => ?_)
  clear hK K hHeld
  try simp only [Act.put, List.setIfInBounds_toArray, List.set_cons_zero, List.set_cons_succ]
  refine wpAnyH_ready (rs := [9]) (by kernel_rfl) (by simp) ?_
  refine AllReadyH.cons rfl (fun K hK => ?_) AllReadyH.nil
  go_simp
  refine (awake_any _).mono ?_
  rintro e w4 ⟨rfl, hb3⟩
  refine hK.out _ _ ⟨range_below HH.out.1 hb3, range_below HH.out.2 hb3⟩ (fun hHeld3 => ?_)
  clear hK K
  have HB3 := Aside0.mk (below_step HB2.out hb3)
  clear hb3
  try simp only [Act.put, List.setIfInBounds_toArray, List.set_cons_zero, List.set_cons_succ]
  refine wpAnyH_ready (rs := [10]) (by kernel_rfl) (by simp) ?_
  refine AllReadyH.cons rfl (fun K hK => ?_) AllReadyH.nil
  go_simp
  refine hK.out _ _ hHeld3 (fun hHeld => ?_)
  clear hK K hHeld
  try simp only [Act.put, List.setIfInBounds_toArray, List.set_cons_zero, List.set_cons_succ]
  refine wpAnyH_ready (rs := [11]) (by kernel_rfl) (by simp) ?_
  refine AllReadyH.cons rfl (fun K hK => ?_) AllReadyH.nil
  go_simp
  refine hK.out _ _ hHeld3 (fun hHeld => ?_)
  clear hK K hHeld
  try simp only [Act.put, List.setIfInBounds_toArray, List.set_cons_zero, List.set_cons_succ]
  refine wpAnyH_done (by kernel_rfl) ?_ _
  go_wp2
  exact bodyPost_ret (v := .bool true) (by simp [results, Try.results5, go_sem]) rfl ⟨rfl, HB3.out⟩
theorem unlike_any (L : List W64) (hL : L.length = 25) (k n : Int) (hn : (Lit.int .u64 n).wf = true) (w : World) :
    Calls Try.prog 5 #[.agg (ws L), .int .i64 k, .int .u64 n] w fun e w' => e = .returned (.bool true) ∧ Below w.heap.size w w' := by
  obtain ⟨b, hb⟩ : ∃ b : W64, vw b = n := by
    simp only [Lit.wf, Bool.and_eq_true, decide_eq_true_eq] at hn
    have h1 : (0 : Int) ≤ n := hn.1
    have h2 : n ≤ 18446744073709551615 := hn.2
    refine ⟨BitVec.ofInt 64 n, ?_⟩
    unfold vw
    rw [BitVec.toNat_ofInt]
    omega
  rw [← hb]
  obtain ⟨p, hp⟩ : ∃ p : Nat, (k % 18446744073709551616) % 25 = (p : Int) := ⟨((k % 18446744073709551616) % 25).toNat, by omega⟩
  have hp25 : p < 25 := by omega
  have hM : (L.set p (gw L p ^^^ b)).length = 25 := by rw [List.length_set]; exact hL
  refine unlike_core L hL k b w p hp _ rfl (permuted L) (permuted (L.set p (gw L p ^^^ b))) ((permuted_len L).trans hL) ((permuted_len _).trans hM) (permute_any L hL) (permute_any _ hM) ?_
  rw [Bool.eq_iff_iff, decide_eq_true_iff, beq_iff_eq]
  constructor
  · intro h
    have e := permuted_inj L _ hL hM h
    have g := congrArg (fun l => gw l p) e
    rw [gw_set_same _ _ _ (by omega)] at g
    have g' : gw L p ^^^ (gw L p ^^^ b) = gw L p ^^^ gw L p := by rw [← g]
    rw [← BitVec.xor_assoc, BitVec.xor_self, BitVec.zero_xor] at g'
    rw [g']; rfl
  · intro h
    have hb0 : b = 0#64 := by
      apply BitVec.eq_of_toNat_eq
      unfold vw at h
      simpa using h
    have hs : L.set p (gw L p ^^^ b) = L := by
      apply list25_ext _ _ hM hL
      intro i hi
      by_cases e : p = i
      · subst e; rw [gw_set_same _ _ _ (by omega), hb0, BitVec.xor_zero]
      · rw [gw_set_other _ _ _ _ e]
    rw [hs]
end Go.Proofs.Ythfcabobdcicdaa.P
