import Derived.Test.YtkpflejagagcbaaGTurn
import Derived.Test.YtkpflejagagcbaaWs
import Derived.Outline
import Derived.Deep.QuietTactic
import Derived.BigQuiet
import Derived.BigRegion
import Derived.StillTailTactics
namespace Go.Proofs.Ytkpflejagagcbaa.P
set_option linter.unusedVariables false
open Go.RowKit Go.Proofs.YtkpflejagagcbaaW.PrintWords
def foldO (L : List W64) : Nat → List W64
  | 0 => L
  | k + 1 => (foldO L k).set k (gw (foldO L k) k ^^^ (~~~ gw L (k - k % 5 + (k + 1) % 5) &&& gw L (k - k % 5 + (k + 2) % 5)))
theorem foldO_len (L : List W64) (k : Nat) : (foldO L k).length = L.length := by induction k with | zero => rfl | succ k ih => simp [foldO, ih]
def folded (L : List W64) : List W64 := foldO L 25
set_option maxHeartbeats 1000000 in
theorem folded_any (L : List W64) (hL : L.length = 25) (w : World) :
    Calls Try.prog 30 #[.agg (ws L)] w fun e w' => e = .returned (.agg (ws (folded L))) ∧ Below w.heap.size w w' := by
  have hi : (Try.prog.info? 55).map (·.size) = some 25 := by kernel_rfl
  have Hi := Aside0.mk hi
  clear hi
  go_enter Try.func30, Try.ntmps30
  have T := three w (.cells (ws L) 55) (.cells (ws (List.replicate 25 0)) 55) (.cells (ws (List.replicate 25 0)) 55)
  have HT0 := Aside0.mk T.2.2.2
  have HTR := Aside0.mk T.2.1
  have HT := Aside0.mk T
  clear T
  go_wp2_with (first | (refine load_ws rfl 55 _ rfl w.heap.size rfl 55 L 25 _ (by exact (blk_alloc (blk_new w _) _)) hL Try.underlying55 rfl Hi.out ?_) | (refine store_ws rfl 55 _ _ rfl (w.heap.size+1+1) rfl 55 (List.replicate 25 0) L 25 rfl (by rw [← zeros25] at HT; exact HT.out.2.2.1) (by simp) hL Hi.out ?_; intro w1 hR hB hF hS; have HR1 := Aside0.mk hR; have HB1 := Aside0.mk hB; have HF1 := Aside0.mk hF; clear hR hB hF hS))
  have hR0 := HT0.out
  rw [zeros25] at HB1 HF1
  have HW1 := Aside0.mk (HT0.out.trans (HB1.out w.heap.size (by omega)))
  have HA1 : Aside0 (Holds w1 w.heap.size 55 L) := Aside0.mk (HF1.out _ _ _ (by omega) HT.out.1)
  have HR2 : Aside0 (Holds w1 (w.heap.size + 1) 55 (List.replicate 25 0)) := Aside0.mk (HF1.out _ _ _ (by omega) HTR.out)
  clear hR0 HB1 HF1 HT0 HT HTR
  go_loopw [7] (fun i wr => ∃ k : Nat, k ≤ 25 ∧ i = .int .i64 k ∧ Holds wr w.heap.size 55 L ∧ Holds wr (w.heap.size + 1) 55 (List.replicate 25 0) ∧ Holds wr (w.heap.size + 1 + 1) 55 (foldO L k) ∧ Below w.heap.size w wr) (fun i _ => 25 - (intOf i).toNat)
  case atStart =>
    exact ⟨0, by omega, rfl, HA1.out, HR2.out, HR1.out, HW1.out⟩
  case round =>
    clear HA1 HR2 HR1 HW1
    obtain ⟨k, hk, rfl, ha, hr, hc, hb⟩ := hrel
    have HA := Aside0.mk ha
    have HR := Aside0.mk hr
    have HC := Aside0.mk hc
    have HB := Aside0.mk hb
    clear ha hr hc hb
    by_cases hlt : k < 25
    · obtain ⟨c, hc⟩ : ∃ c, k - k % 5 = c := ⟨_, rfl⟩
      obtain ⟨m, hm⟩ : ∃ m, (k + 1) % 5 = m := ⟨_, rfl⟩
      obtain ⟨n, hn⟩ : ∃ n, (k + 2) % 5 = n := ⟨_, rfl⟩
      obtain ⟨d, hd⟩ : ∃ d, k % 5 = d := ⟨_, rfl⟩
      obtain ⟨p, hp⟩ : ∃ p, c + m = p := ⟨_, rfl⟩
      obtain ⟨q, hq⟩ : ∃ q, c + n = q := ⟨_, rfl⟩
      have hcm : p < 25 := by omega
      have hcn : q < 25 := by omega
      have e5 : IntKind.i64.wrap ((c : Int) + (m : Int)) = (p : Int) := by rw [IntKind.wrap_i64]; omega
      have e6 : IntKind.i64.wrap ((c : Int) + (n : Int)) = (q : Int) := by rw [IntKind.wrap_i64]; omega
      have h4 : (k : Int) % 5 = (d : Int) := by omega
      have h5 : (k : Int) - (d : Int) = (c : Int) := by omega
      have h6 : ((k : Int) + 1) % 5 = (m : Int) := by omega
      have h7 : ((k : Int) + 2) % 5 = (n : Int) := by omega
      have HE := Aside0.mk (And.intro hc (And.intro hm (And.intro hn (And.intro hp hq))))
      have E5 := Aside0.mk e5
      have E6 := Aside0.mk e6
      clear hc hm hn hd hp hq e5 e6
      have c0 := HC.out.cell k (by rw [foldO_len]; omega)
      have c1 := HA.out.cell p (by omega)
      have c2 := HA.out.cell q (by omega)
      have c3 := HC.out.free k
      go_wp2
      have e1 : IntKind.i64.wrap ((k : Int) + 1) = (k : Int) + 1 := by rw [IntKind.wrap_i64]; omega
      have e2 : IntKind.i64.wrap ((k : Int) + 2) = (k : Int) + 2 := by rw [IntKind.wrap_i64]; omega
      have e3 : ((k : Int) + 1).tmod 5 = (m : Int) := by rw [Int.tmod_eq_emod_of_nonneg (by omega)]; exact h6
      have e4 : ((k : Int) + 2).tmod 5 = (n : Int) := by rw [Int.tmod_eq_emod_of_nonneg (by omega)]; exact h7
      have e5 := E5.out
      have e6 := E6.out
      have i1 : (p : Int) < 25 := by omega
      have i2 : (q : Int) < 25 := by omega
      have i3 : (k : Int) < 25 := by omega
      have i4 : (0 : Int) ≤ (p : Int) := by omega
      have i5 : (0 : Int) ≤ (q : Int) := by omega
      refine wp_region_still_tail 21 (by kernel_rfl) (by kernel_rfl) ?_
      simp only [List.take_succ_cons, List.take_zero, List.drop_succ_cons, List.drop_zero]
      repeat still_step
      refine wpStill_nil ?_
      change wpList _ _ _ _ _ wr.drew
      simp only [vw_not, vw_xor, vw_and]
      clear e1 e2 e3 e4 e5 e6 c1 c2
      go_wp2
      have hst : (foldO L k).set k (gw (foldO L k) k ^^^ (~~~ gw L p &&& gw L q)) = foldO L (k + 1) := by
        obtain ⟨h1, h2, h3, h4, h5⟩ := HE.out
        rw [foldO, h1, h2, h3, h4, h5]
      refine ⟨⟨k + 1, by omega, by go_num, ?_, ?_, ?_, ?_⟩, by simp [intOf]; omega⟩
      · exact HA.out.far (by simp; omega) _
      · exact HR.out.far (by simp) _
      · rw [← hst]; exact HC.out.set k _
      · refine below_set (pw_below_drewN HB.out 1) ?_
        omega
    · obtain rfl : k = 25 := by omega
      have hA25 : (foldO L 25).length = 25 := by rw [foldO_len]; exact hL
      have hML : folded L = foldO L 25 := rfl
      obtain ⟨A, hA⟩ : ∃ A, foldO L 25 = A := ⟨_, rfl⟩
      rw [hA] at HC hA25 hML
      have HA25 := Aside0.mk hA25
      have HML := Aside0.mk hML
      clear hML hA25 hlt hk hA
      rw [show ((25 : Nat) : Int) = 25 from rfl]
      go_wp2_with (first | (refine load_ws rfl 55 _ rfl (w.heap.size+1+1) rfl 55 A 25 _ HC.out HA25.out Try.underlying55 rfl Hi.out ?_) | (refine store_ws rfl 55 _ _ rfl (w.heap.size+1) rfl 55 (List.replicate 25 0) A 25 rfl HR.out (by simp) HA25.out Hi.out ?_; intro w1 hR hB hF hS; have HR1 := Aside0.mk hR; have HB1 := Aside0.mk hB; clear hR hB hF hS))
      refine ret_ws rfl _ _ (w.heap.size + 1) 55 A rfl HR1.out HA25.out Try.underlying55 rfl Hi.out rfl ⟨by rw [HML.out], HB.out.trans (HB1.out _ (by omega))⟩
end Go.Proofs.Ytkpflejagagcbaa.P
