import Derived.Test.YtkpflejagagcbaaGMixed
import Derived.Test.YtkpflejagagcbaaGMoved
import Derived.Test.YtkpflejagagcbaaGFolded
namespace Go.Proofs.Ytkpflejagagcbaa.P
set_option linter.unusedVariables false
open Go.RowKit Go.Proofs.YtkpflejagagcbaaW.PrintWords
def lnext (l : W64) : W64 := if 255 < vw (l <<< 1) then (l <<< 1) ^^^ 0x171#64 else l <<< 1
def inn (L : List W64) (l : W64) : Nat → List W64 × W64
  | 0 => (L, l)
  | j + 1 => ((inn L l j).1.set 0 (gw (inn L l j).1 0 ^^^ ((inn L l j).2 &&& 1#64) <<< (2 ^ j - 1)), lnext (inn L l j).2)
def hp (L : List W64) : Nat → List W64 × W64
  | 0 => (L, 1)
  | k + 1 => inn (folded (moved (mixed (hp L k).1))) (hp L k).2 7
theorem iota_eq (m : W64) (j : Nat) (h : j < 7) : IntKind.u64.wrap (bits BinOp.and IntKind.u64 (vw m) 1 * 2 ^ min (IntKind.u64.wrap (IntKind.u64.wrap (2 ^ j) - 1)).toNat 64) = vw ((m &&& 1#64) <<< (2 ^ j - 1)) := by
  have h1 : min (IntKind.u64.wrap (IntKind.u64.wrap (2 ^ j) - 1)).toNat 64 = 2 ^ j - 1 := by
    rcases (by omega : j = 0 ∨ j = 1 ∨ j = 2 ∨ j = 3 ∨ j = 4 ∨ j = 5 ∨ j = 6) with rfl | rfl | rfl | rfl | rfl | rfl | rfl <;> decide
  rw [h1, show (1 : Int) = vw 1#64 from rfl, vw_and, vw_shl]
theorem mixed_len (L : List W64) : (mixed L).length = L.length := mixA_len _ _ _
theorem moved_len (L : List W64) : (moved L).length = L.length := mv_len _ _
theorem folded_len (L : List W64) : (folded L).length = L.length := foldO_len _ _
theorem inn_len (L : List W64) (l : W64) (k : Nat) : (inn L l k).1.length = L.length := by induction k with | zero => rfl | succ k ih => simp [inn, ih]
theorem hp_len (L : List W64) (k : Nat) : (hp L k).1.length = L.length := by induction k with | zero => rfl | succ k ih => rw [hp, inn_len, folded_len, moved_len, mixed_len, ih]
def permuted (L : List W64) : List W64 := (hp L 24).1
set_option maxHeartbeats 1000000 in
theorem permute_any (L : List W64) (hL : L.length = 25) (w : World) :
    Calls Try.prog 21 #[.agg (ws L)] w fun e w' => e = .returned (.agg (ws (permuted L))) ∧ Below w.heap.size w w' := by
  have hi : (Try.prog.info? 55).map (·.size) = some 25 := by kernel_rfl
  have Hi := Aside0.mk hi
  clear hi
  go_enter Try.func21, Try.ntmps21
  have T := three w (.cells (ws L) 40) (.cells (ws (List.replicate 25 0)) 40) (.cells (ws (List.replicate 25 0)) 55)
  have hi' : (Try.prog.info? 40).map (·.size) = some 25 := by kernel_rfl
  have Hi' := Aside0.mk hi'
  clear hi'
  rw [← zeros25] at T
  have HT := Aside0.mk T
  clear T
  go_wp2_with (first | (refine load_ws rfl 40 _ rfl w.heap.size rfl 40 L 25 _ (by exact (blk_alloc (blk_new w _) _)) hL Try.underlying40 rfl Hi'.out ?_) | (refine store_ws rfl 55 _ _ rfl (w.heap.size+1+1) rfl 55 (List.replicate 25 0) L 25 rfl (by exact HT.out.2.2.1) (by simp) hL Hi.out ?_; intro w1 hR hB hF hS; have HR1 := Aside0.mk hR; have HB1 := Aside0.mk hB; have HF1 := Aside0.mk hF; clear hR hB hF hS))
  have HW1 := Aside0.mk (HT.out.2.2.2.trans (HB1.out w.heap.size (by omega)))
  have HR2 : Aside0 (Holds w1 (w.heap.size + 1) 40 (List.replicate 25 0)) := Aside0.mk (HF1.out _ _ _ (by omega) HT.out.2.1)
  clear HB1 HF1 HT
  go_loopw [4, 7] (fun s4 i wr => ∃ k : Nat, k ≤ 24 ∧ i = .int .i64 k ∧ s4 = .int .u64 (vw (hp L k).2) ∧ Holds wr (w.heap.size + 1) 40 (List.replicate 25 0) ∧ Holds wr (w.heap.size + 1 + 1) 55 (hp L k).1 ∧ Below w.heap.size w wr) (fun _ i _ => 24 - (intOf i).toNat)
  case atStart =>
    exact ⟨0, by omega, rfl, rfl, HR2.out, HR1.out, HW1.out⟩
  case round =>
    clear HR2 HR1 HW1
    obtain ⟨k, hk, rfl, rfl, hr, hc, hb⟩ := hrel
    have HR := Aside0.mk hr
    have HC := Aside0.mk hc
    have HB := Aside0.mk hb
    clear hr hc hb
    by_cases hlt : k < 24
    · have hS1 : (hp L k).1.length = 25 := by rw [hp_len]; exact hL
      have hst : hp L (k + 1) = inn (folded (moved (mixed (hp L k).1))) (hp L k).2 7 := rfl
      have HST := Aside0.mk hst
      clear hst
      generalize hp L k = S at *
      obtain ⟨S, l⟩ := S
      have HS := Aside0.mk hS1
      clear hS1
      go_wp2_with (refine load_ws rfl 55 _ rfl (w.heap.size+1+1) rfl 55 S 25 _ HC.out HS.out Try.underlying55 rfl Hi.out ?_)
      refine (mixed_any S HS.out _).mono ?_
      rintro e w2 ⟨rfl, hb⟩
      have HR2 := Aside0.mk (HR.out.below hb)
      have HC2 := Aside0.mk (HC.out.below hb)
      have HB2 := Aside0.mk (below_step HB.out hb)
      clear hb HR HC HB
      have h1 := mixed_len S
      rw [HS.out] at h1
      have HM1 := Aside0.mk h1
      clear h1
      go_wp2_with fail
      refine (moved_any (mixed S) HM1.out _).mono ?_
      rintro e w3 ⟨rfl, hb⟩
      have HR3 := Aside0.mk (HR2.out.below hb)
      have HC3 := Aside0.mk (HC2.out.below hb)
      have HB3 := Aside0.mk (below_step HB2.out hb)
      clear hb HR2 HC2 HB2
      have h1 := moved_len (mixed S)
      rw [HM1.out] at h1
      have HM2 := Aside0.mk h1
      clear h1
      go_wp2_with fail
      refine (folded_any (moved (mixed S)) HM2.out _).mono ?_
      rintro e w4 ⟨rfl, hb⟩
      have HR4 := Aside0.mk (HR3.out.below hb)
      have HC4 := Aside0.mk (HC3.out.below hb)
      have HB4 := Aside0.mk (below_step HB3.out hb)
      clear hb HR3 HC3 HB3
      have h1 := folded_len (moved (mixed S))
      rw [HM2.out] at h1
      have HM3 := Aside0.mk h1
      clear h1
      generalize folded (moved (mixed S)) = F at *
      go_wp2_with (refine store_ws rfl 55 _ _ rfl (w.heap.size+1+1) rfl 55 S F 25 rfl HC4.out HS.out HM3.out Hi.out ?_; intro w5 hR hB hF hS; have HC5 := Aside0.mk hR; have HB5 := Aside0.mk (HB4.out.trans (hB w.heap.size (by omega))); have HR5 := Aside0.mk (hF _ _ _ (by omega) HR4.out); clear hR hB hF hS HC4 HB4 HR4)
      go_loopw [4, 13] (fun s4 i wr => ∃ j : Nat, j ≤ 7 ∧ i = .int .i64 j ∧ s4 = .int .u64 (vw (inn F l j).2) ∧ Holds wr (w.heap.size + 1) 40 (List.replicate 25 0) ∧ Holds wr (w.heap.size + 1 + 1) 55 (inn F l j).1 ∧ Below w.heap.size w wr) (fun _ i _ => 7 - (intOf i).toNat)
      case atStart =>
        exact ⟨0, by omega, rfl, rfl, HR5.out, HC5.out, HB5.out⟩
      case round =>
        clear HR5 HC5 HB5
        obtain ⟨j, hj, rfl, rfl, hr, hc, hb⟩ := hrel
        have HR := Aside0.mk hr
        have HC := Aside0.mk hc
        have HB := Aside0.mk hb
        clear hr hc hb
        by_cases hlt' : j < 7
        · have hS1 : (inn F l j).1.length = 25 := by rw [inn_len]; exact HM3.out
          have hst : inn F l (j + 1) = ((inn F l j).1.set 0 (gw (inn F l j).1 0 ^^^ ((inn F l j).2 &&& 1#64) <<< (2 ^ j - 1)), lnext (inn F l j).2) := rfl
          have HJT := Aside0.mk hst
          clear hst
          generalize inn F l j = T at *
          obtain ⟨T, m⟩ := T
          have c0 := HC.out.cell 0 (by simp only [] at hS1 ⊢; omega)
          have c1 := HC.out.free 0
          have HJ := Aside0.mk hS1
          clear hS1
          go_wp2
          refine wp_region_still_tail 10 (by kernel_rfl) (by kernel_rfl) ?_
          simp only [List.take_succ_cons, List.take_zero, List.drop_succ_cons, List.drop_zero]
          repeat still_step
          refine wpStill_nil ?_
          change wpList _ _ _ _ _ wr.drew
          rw [iota_eq m j hlt', vw_xor]
          have hsh := vw_shl m 1
          rw [Int.pow_one] at hsh
          go_wp2
          all_goals
            have hst1 : inn F l (j + 1) = (T.set 0 (gw T 0 ^^^ (m &&& 1#64) <<< (2 ^ j - 1)), lnext m) := HJT.out
            refine ⟨⟨j + 1, by omega, by go_num, ?_, ?_, ?_, ?_⟩, by simp [intOf]; omega⟩
          all_goals first
            | (rw [hst1]; exact HC.out.set 0 _)
            | (exact HR.out.far (by simp) _)
            | (exact below_drew1 (below_set HB.out (by show w.heap.size ≤ w.heap.size + 1 + 1; omega)))
            | (rw [hst1]; show _ = Value.int IntKind.u64 (vw (lnext m)); rw [lnext, if_neg (by omega)])
            | (rw [hst1]; show _ = Value.int IntKind.u64 (vw (lnext m)); rw [lnext, if_pos (by omega), ← vw_xor]; rfl)
        · obtain rfl : j = 7 := by omega
          rw [show ((7 : Nat) : Int) = 7 from rfl]
          rw [← HST.out] at HC ⊢
          clear HM1 HM2 HM3 hj hlt' HST
          obtain ⟨T, hT⟩ : ∃ T, hp L (k + 1) = T := ⟨_, rfl⟩
          rw [hT] at HC ⊢
          have HST := Aside0.mk hT
          clear hT
          obtain ⟨T, m⟩ := T
          go_wp2
          refine ⟨⟨k + 1, by omega, by go_num, by rw [HST.out], HR.out, by rw [HST.out]; exact HC.out, HB.out⟩, by simp [intOf]; omega⟩
    · obtain rfl : k = 24 := by omega
      have hA25 : (hp L 24).1.length = 25 := by rw [hp_len]; exact hL
      have hML : permuted L = (hp L 24).1 := rfl
      obtain ⟨A, hA⟩ : ∃ A, hp L 24 = A := ⟨_, rfl⟩
      rw [hA] at HC hA25 hML
      rw [hA]
      obtain ⟨A, A1⟩ := A
      have HA25 := Aside0.mk hA25
      have HML := Aside0.mk hML
      clear hML hA25 hlt hk hA
      rw [show ((24 : Nat) : Int) = 24 from rfl]
      go_wp2_with (first | (refine load_ws rfl 55 _ rfl (w.heap.size+1+1) rfl 55 A 25 _ HC.out HA25.out Try.underlying55 rfl Hi.out ?_) | (refine store_ws rfl 40 _ _ rfl (w.heap.size+1) rfl 40 (List.replicate 25 0) A 25 rfl HR.out (by simp) HA25.out Hi'.out ?_; intro w1 hR hB hF hS; have HR1 := Aside0.mk hR; have HB1 := Aside0.mk hB; clear hR hB hF hS))
      refine ret_ws rfl _ _ (w.heap.size + 1) 40 A rfl HR1.out HA25.out Try.underlying40 rfl Hi'.out rfl ⟨by rw [HML.out], HB.out.trans (HB1.out _ (by omega))⟩
end Go.Proofs.Ytkpflejagagcbaa.P
