import Derived.Test.YtkpflejagagcbaaGTurn
import Derived.Test.YtkpflejagagcbaaWs
import Derived.Outline
import Derived.Deep.QuietTactic
import Derived.BigQuiet
import Derived.StillTailTactics
namespace Go.Proofs.Ytkpflejagagcbaa.P
set_option linter.unusedVariables false
open Go.RowKit Go.Proofs.YtkpflejagagcbaaW.PrintWords
def mixC (L : List W64) : Nat → List W64
  | 0 => List.replicate 5 0
  | k + 1 => (mixC L k).set (k % 5) (gw (mixC L k) (k % 5) ^^^ gw L k)
theorem mixC_len (L : List W64) (k : Nat) : (mixC L k).length = 5 := by induction k with | zero => rfl | succ k ih => simp [mixC, ih]
def mixA (L C : List W64) : Nat → List W64
  | 0 => L
  | k + 1 => (mixA L C k).set k (gw (mixA L C k) k ^^^ (gw C ((k + 4) % 5) ^^^ (gw C ((k + 1) % 5)).rotateLeft 1))
theorem mixA_len (L C : List W64) (k : Nat) : (mixA L C k).length = L.length := by induction k with | zero => rfl | succ k ih => simp [mixA, ih]
def mixed (L : List W64) : List W64 := mixA L (mixC L 25) 25
set_option maxHeartbeats 1000000 in
theorem mixed_any (L : List W64) (hL : L.length = 25) (w : World) :
    Calls Try.prog 28 #[.agg (ws L)] w fun e w' => e = .returned (.agg (ws (mixed L))) ∧ Below w.heap.size w w' := by
  have hi : (Try.prog.info? 55).map (·.size) = some 25 := by kernel_rfl
  have Hi := Aside0.mk hi
  clear hi
  go_enter Try.func28, Try.ntmps28
  go_wp2_with (refine load_ws rfl 55 _ rfl w.heap.size rfl 55 L 25 _ (by exact ((blk_alloc (blk_alloc (blk_new w _) _) _))) hL Try.underlying55 rfl Hi.out ?_)
  have hx := fun (k : Nat) (hk : k < 25) (W : World) => run_index_ws (P := Try.prog) Try.underlying55 Try.underlying29 (by kernel_rfl) L k hk hL W
  have HX := Aside0.mk hx
  clear hx
  go_loopw [8] (fun i wr => ∃ k : Nat, k ≤ 25 ∧ i = .int .i64 k ∧ Holds wr w.heap.size 55 L ∧ Holds wr (w.heap.size + 1) 55 (List.replicate 25 0) ∧ Holds wr (w.heap.size + 1 + 1) 53 (mixC L k) ∧ Below w.heap.size w wr) (fun i _ => 25 - (intOf i).toNat)
  case atStart =>
    have T := three w (.cells (ws L) 55) (.cells (ws (List.replicate 25 0)) 55) (.cells (ws (List.replicate 5 0)) 53)
    rw [← zeros25, ← zeros5] at T
    exact ⟨0, by omega, rfl, T.1, T.2.1, T.2.2.1, T.2.2.2⟩
  case round =>
    obtain ⟨k, hk, rfl, ha, hr, hc, hb⟩ := hrel
    have HA := Aside0.mk ha
    have HR := Aside0.mk hr
    have HC := Aside0.mk hc
    have HB := Aside0.mk hb
    clear ha hr hc hb
    by_cases hlt : k < 25
    · obtain ⟨m, hm⟩ : ∃ m, k % 5 = m := ⟨_, rfl⟩
      have hm5 : m < 5 := by omega
      have h4 : (k : Int) % 5 = (m : Int) := by omega
      have HM := Aside0.mk hm
      clear hm
      have h0 := HX.out k hlt
      have h1 : m < (mixC L k).length := by rw [mixC_len]; omega
      have h2 := HC.out.cell m h1
      have h3 := HC.out.free m
      have h5 := vw_xor (gw (mixC L k) m) (gw L k)
      clear h1
      go_wp2
      have hst : (mixC L k).set m (gw (mixC L k) m ^^^ gw L k) = mixC L (k + 1) := by rw [mixC, HM.out]
      refine ⟨⟨k + 1, by omega, by go_num, ?_, ?_, ?_, ?_⟩, by simp [intOf]; omega⟩
      · exact HA.out.far (by simp; omega) _
      · exact HR.out.far (by simp) _
      · rw [← hst]; exact HC.out.set m _
      · refine below_set HB.out ?_
        omega
    · obtain rfl : k = 25 := by omega
      go_wp2
      rw [show ((25 : Nat) : Int) = 25 from rfl]
      obtain ⟨C, hC⟩ : ∃ C, mixC L 25 = C := ⟨_, rfl⟩
      rw [hC] at HC
      have hCl : C.length = 5 := by rw [← hC, mixC_len]
      have HCE := Aside0.mk hC
      clear hC
      go_loopw [20] (fun i wq => ∃ k : Nat, k ≤ 25 ∧ i = .int .i64 k ∧ Holds wq w.heap.size 55 (mixA L C k) ∧ Holds wq (w.heap.size + 1) 55 (List.replicate 25 0) ∧ Holds wq (w.heap.size + 1 + 1) 53 C ∧ Below w.heap.size w wq) (fun i _ => 25 - (intOf i).toNat)
      case atStart => exact ⟨0, by omega, rfl, HA.out, HR.out, HC.out, HB.out⟩
      case round =>
        clear HA HR HC HB hk hlt
        obtain ⟨k, hk, rfl, ha, hr, hc, hb⟩ := hrel
        have HA := Aside0.mk ha
        have HR := Aside0.mk hr
        have HC := Aside0.mk hc
        have HB := Aside0.mk hb
        clear ha hr hc hb
        by_cases hlt : k < 25
        · obtain ⟨m, hm⟩ : ∃ m, (k + 4) % 5 = m := ⟨_, rfl⟩
          obtain ⟨n, hn⟩ : ∃ n, (k + 1) % 5 = n := ⟨_, rfl⟩
          have hm5 : m < 5 := by omega
          have hn5 : n < 5 := by omega
          have h4 : ((k : Int) + 4) % 5 = (m : Int) := by omega
          have h4' : ((k : Int) + 1) % 5 = (n : Int) := by omega
          have HM := Aside0.mk hm
          have HN := Aside0.mk hn
          clear hm hn
          have h1 : k < (mixA L C k).length := by rw [mixA_len]; omega
          have c0 := HA.out.cell k h1
          have c1 := HC.out.cell m (by omega)
          have c2 := HC.out.cell n (by omega)
          have c3 := HA.out.free k
          have h5 := fun a b => vw_xor a b
          clear h1
          have H4 := Aside0.mk h4
          have H4' := Aside0.mk h4'
          have H5 := Aside0.mk h5
          clear h4 h4' h5
          go_wp2
          have i1 : (m : Int) < 5 := by omega
          have i2 : (n : Int) < 5 := by omega
          have i3 : (k : Int) < 25 := by omega
          have e1 : IntKind.i64.wrap ((k : Int) + 4) = (k : Int) + 4 := by rw [IntKind.wrap_i64]; omega
          have e2 : IntKind.i64.wrap ((k : Int) + 1) = (k : Int) + 1 := by rw [IntKind.wrap_i64]; omega
          have e3 : ((k : Int) + 4).tmod 5 = (m : Int) := by rw [Int.tmod_eq_emod_of_nonneg (by omega)]; exact H4.out
          have e4 : ((k : Int) + 1).tmod 5 = (n : Int) := by rw [Int.tmod_eq_emod_of_nonneg (by omega)]; exact H4'.out
          refine wp_region_still_tail 17 (by kernel_rfl) (by kernel_rfl) ?_
          simp only [List.take_succ_cons, List.take_zero, List.drop_succ_cons, List.drop_zero]
          repeat still_step
          still_call ((turn_any (gw C n) 1 (by omega) (by omega) _).mono fun e w' h => ⟨h.1, h.2.symm⟩)
          repeat still_step
          refine wpStill_nil ?_
          change wpList _ _ _ _ _ wr.drew
          simp only [vw_xor]
          clear e1 e2 e3 e4 c1 c2
          go_wp2
          have hst : (mixA L C k).set k (gw (mixA L C k) k ^^^ (gw C m ^^^ (gw C n).rotateLeft 1)) = mixA L C (k + 1) := by rw [mixA, HM.out, HN.out]
          refine ⟨⟨k + 1, by omega, by go_num, ?_, ?_, ?_, ?_⟩, by simp [intOf]; omega⟩
          · rw [← hst]; exact HA.out.set k _
          · exact HR.out.far (by simp) _
          · exact HC.out.far (by simp; omega) _
          · refine below_set (pw_below_drewN HB.out 1) ?_
            omega
        · obtain rfl : k = 25 := by omega
          have hA25 : (mixA L C 25).length = 25 := by rw [mixA_len]; exact hL
          have hML : mixed L = mixA L C 25 := by rw [mixed, HCE.out]
          obtain ⟨A, hA⟩ : ∃ A, mixA L C 25 = A := ⟨_, rfl⟩
          rw [hA] at HA hA25 hML
          have HA25 := Aside0.mk hA25
          have HML := Aside0.mk hML
          clear hML hA25 hL HX hlt hk HCE
          clear hCl hA
          rw [show ((25 : Nat) : Int) = 25 from rfl]
          go_wp2_with (first | (refine load_ws rfl 55 _ rfl w.heap.size rfl 55 A 25 _ HA.out HA25.out Try.underlying55 rfl Hi.out ?_) | (refine store_ws rfl 55 _ _ rfl (w.heap.size+1) rfl 55 (List.replicate 25 0) A 25 rfl HR.out (by simp) HA25.out Hi.out ?_; intro w1 hR hB hF hS; have HR1 := Aside0.mk hR; have HB1 := Aside0.mk hB; clear hR hB hF hS))
          refine ret_ws rfl _ _ (w.heap.size + 1) 55 A rfl HR1.out HA25.out Try.underlying55 rfl Hi.out rfl ⟨by rw [HML.out], HB.out.trans (HB1.out _ (by omega))⟩
end Go.Proofs.Ytkpflejagagcbaa.P
