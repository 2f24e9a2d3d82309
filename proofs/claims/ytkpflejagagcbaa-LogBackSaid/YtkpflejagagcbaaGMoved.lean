import Derived.Test.YtkpflejagagcbaaGTurn
import Derived.Test.YtkpflejagagcbaaWs
import Derived.Outline
import Derived.Deep.QuietTactic
import Derived.BigQuiet
import Derived.BigRegion
import Derived.StillTailTactics
namespace Go.Proofs.Ytkpflejagagcbaa.P
set_option linter.unusedVariables false
open Go.RowKit Go.Proofs.YtkpflejagagcbaaW.PrintWords
def mAt : Nat → Nat
  | 0 => 1
  | t + 1 => mAt t / 5 + 5 * ((2 * (mAt t % 5) + 3 * (mAt t / 5)) % 5)
def mN : Nat → Nat
  | 0 => 0
  | t + 1 => mN t + (t + 1)
theorem mAt_lt (t : Nat) : mAt t < 25 := by induction t with | zero => decide | succ t ih => rw [mAt]; omega
theorem mN_le (t : Nat) (h : t ≤ 25) : mN t ≤ 25 * t := by induction t with | zero => decide | succ t ih => rw [mN]; have := ih (by omega); omega
def mv (L : List W64) : Nat → W64 × List W64
  | 0 => (gw L 1, L)
  | t + 1 => (gw (mv L t).2 (mAt (t + 1)), (mv L t).2.set (mAt (t + 1)) ((mv L t).1.rotateLeft (mN (t + 1) % 64)))
theorem mv_len (L : List W64) (k : Nat) : (mv L k).2.length = L.length := by induction k with | zero => rfl | succ k ih => simp [mv, ih]
def moved (L : List W64) : List W64 := (mv L 24).2
set_option maxHeartbeats 1000000 in
theorem moved_any (L : List W64) (hL : L.length = 25) (w : World) :
    Calls Try.prog 29 #[.agg (ws L)] w fun e w' => e = .returned (.agg (ws (moved L))) ∧ Below w.heap.size w w' := by
  have hi : (Try.prog.info? 55).map (·.size) = some 25 := by kernel_rfl
  have Hi := Aside0.mk hi
  clear hi
  go_enter Try.func29, Try.ntmps29
  have c0 := ws_get L 1 (by omega)
  go_wp2_with fail
  clear c0
  have T := two w (.cells (ws L) 55) (.cells (ws (List.replicate 25 0)) 55)
  rw [← zeros25] at T
  go_loopw [3, 4, 5, 11] (fun s3 s4 s5 i wr => ∃ k : Nat, k ≤ 24 ∧ i = .int .i64 k ∧ s3 = .int .i64 (mAt k : Nat) ∧ s4 = .int .u64 (mN k : Nat) ∧ s5 = .int .u64 (vw (mv L k).1) ∧ Holds wr w.heap.size 55 (mv L k).2 ∧ Holds wr (w.heap.size + 1) 55 (List.replicate 25 0) ∧ Below w.heap.size w wr) (fun _ _ _ i _ => 24 - (intOf i).toNat)
  case atStart =>
    exact ⟨0, by omega, rfl, rfl, rfl, rfl, T.1, T.2.1, T.2.2⟩
  case round =>
    clear T
    obtain ⟨k, hk, rfl, rfl, rfl, rfl, ha, hr, hb⟩ := hrel
    have HA := Aside0.mk ha
    have HR := Aside0.mk hr
    have HB := Aside0.mk hb
    clear ha hr hb
    by_cases hlt : k < 24
    · have ha := mAt_lt k
      have hb := mAt_lt (k + 1)
      have hn := mN_le k (by omega)
      have hmv : mAt (k + 1) = mAt k / 5 + 5 * ((2 * (mAt k % 5) + 3 * (mAt k / 5)) % 5) := rfl
      have hmn : mN (k + 1) = mN k + (k + 1) := rfl
      have hc0 := HA.out.cell (mAt (k + 1)) (by rw [mv_len]; omega)
      have hc1 := HA.out.free (mAt (k + 1))
      have hst : mv L (k + 1) = (gw (mv L k).2 (mAt (k + 1)), (mv L k).2.set (mAt (k + 1)) ((mv L k).1.rotateLeft (mN (k + 1) % 64))) := rfl
      have HST := Aside0.mk hst
      clear hst
      generalize mv L k = S at *
      have kb : ∃ b, mAt (k + 1) = b := ⟨_, rfl⟩
      have kn : ∃ b, mN (k + 1) = b := ⟨_, rfl⟩
      obtain ⟨b, kb⟩ := kb
      obtain ⟨n', kn⟩ := kn
      rw [kb] at hb hmv hc0 hc1 HST
      rw [kn] at hmn HST
      generalize mAt k = a at *
      generalize mN k = n at *
      obtain ⟨S1, S2⟩ := S
      obtain ⟨x, hx⟩ : ∃ x, a % 5 = x := ⟨_, rfl⟩
      obtain ⟨y, hy⟩ : ∃ y, a / 5 = y := ⟨_, rfl⟩
      rw [hx, hy] at hmv
      obtain ⟨z, hz⟩ : ∃ z, (2 * x + 3 * y) % 5 = z := ⟨_, rfl⟩
      rw [hz] at hmv
      obtain ⟨r, hr⟩ : ∃ r, n' % 64 = r := ⟨_, rfl⟩
      rw [hr] at HST
      have f1 : (a : Int) % 5 = (x : Int) := by omega
      have f2 : (a : Int) / 5 = (y : Int) := by omega
      have f3 : (2 * (x : Int) + 3 * (y : Int)) % 5 = (z : Int) := by omega
      have f4 : (y : Int) + 5 * (z : Int) = (b : Int) := by omega
      have f5 : (n : Int) + ((k : Int) + 1) = (n' : Int) := by omega
      have f6 : (n' : Int) % 64 = (r : Int) := by omega
      have hr64 : r < 64 := by omega
      have hx5 : x < 5 := by omega
      have hy5 : y < 5 := by omega
      have hz5 : z < 5 := by omega
      have hn' : n' ≤ 625 := by omega
      have KB := Aside0.mk (And.intro kb kn)
      clear hx hy hz hmv hmn hr kb kn
      go_wp2
      have e1 : ((n' : Nat) : Int).tmod 64 = (r : Int) := by rw [Int.tmod_eq_emod_of_nonneg (by omega)]; exact f6
      have i1 : (b : Int) < 25 := by omega
      have i2 : (0 : Int) ≤ (b : Int) := by omega
      refine wp_region_still_tail 9 (by kernel_rfl) (by kernel_rfl) ?_
      simp only [List.take_succ_cons, List.take_zero, List.drop_succ_cons, List.drop_zero]
      repeat still_step
      still_call ((turn_any S1 (r : Int) (by omega) (by omega) _).mono fun e w' h => ⟨h.1, h.2.symm⟩)
      repeat still_step
      refine wpStill_nil ?_
      change wpList _ _ _ _ _ wr.drew
      clear e1
      go_wp2
      refine ⟨⟨k + 1, by omega, by go_num, by rw [KB.out.1], by rw [KB.out.2], by rw [HST.out], ?_, ?_, ?_⟩, by simp [intOf]; omega⟩
      · rw [HST.out]; exact HA.out.set b _
      · exact HR.out.far (by simp) _
      · refine below_drew1 (below_set HB.out ?_)
        simp
    · obtain rfl : k = 24 := by omega
      have hA25 : (mv L 24).2.length = 25 := by rw [mv_len]; exact hL
      have hML : moved L = (mv L 24).2 := rfl
      obtain ⟨A, hA⟩ : ∃ A, mv L 24 = A := ⟨_, rfl⟩
      rw [hA] at HA hA25 hML
      rw [hA]
      obtain ⟨A1, A⟩ := A
      have HA25 := Aside0.mk hA25
      have HML := Aside0.mk hML
      clear hML hA25 hlt hk hA
      have H24 := mAt_lt 24
      generalize mAt 24 = a at *
      generalize mN 24 = n at *
      clear H24
      rw [show ((24 : Nat) : Int) = 24 from rfl]
      go_wp2_with (first | (refine load_ws rfl 55 _ rfl w.heap.size rfl 55 A 25 _ HA.out HA25.out Try.underlying55 rfl Hi.out ?_) | (refine store_ws rfl 55 _ _ rfl (w.heap.size+1) rfl 55 (List.replicate 25 0) A 25 rfl HR.out (by simp) HA25.out Hi.out ?_; intro w1 hR hB hF hS; have HR1 := Aside0.mk hR; have HB1 := Aside0.mk hB; clear hR hB hF hS))
      refine ret_ws rfl _ _ (w.heap.size + 1) 55 A rfl HR1.out HA25.out Try.underlying55 rfl Hi.out rfl ⟨by rw [HML.out], HB.out.trans (HB1.out _ (by omega))⟩
end Go.Proofs.Ytkpflejagagcbaa.P
