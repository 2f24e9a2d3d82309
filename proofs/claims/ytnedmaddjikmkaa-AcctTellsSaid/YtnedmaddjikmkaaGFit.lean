import Derived.Test.YtnedmaddjikmkaaPureFit
import Derived.Test.YtnedmaddjikmkaaPeqA25
import Derived.Test.YtnedmaddjikmkaaWLast
import Derived.Deep.LoopGhost
import Derived.Shelf.RegionOpen
/- acct.Fit, walked: it tells whether accounts can be. -/
namespace Go.Proofs.Ytnedmaddjikmkaa.P
set_option linter.unusedVariables false
set_option linter.unusedSimpArgs false
open Go.RowKit Go.Shelf Go.Proofs.YtnedmaddjikmkaaW.PrintWords Go.Proofs.YtnedmaddjikmkaaW.PrintLast
attribute [local go_sem] Oper.semAt_some
attribute [local go_sem high] eqA25
theorem asum_ok (l : List S39) (hl : okL l) (asset : ByteArray) (A : Option Addr) (c : Nat) (w : World) (hC : Kd.C k39 w A l.length l) (hlen : l.length ≤ c) (hl1 : l.length ≤ 100000) :
    Calls Try.prog 19 #[.slice A l.length c, .string asset] w fun e w' => e = .returned (.tuple #[.agg (ws (sumV l asset)), .bool (sumT asset l zero4).isSome]) ∧ Below w.heap.size w w' := by
  have hv := asum_val hl hl1 asset _ (Nat.lt_succ_self _)
  have hs := ws_four _ (sumV_len l asset)
  cases h : sumT asset l zero4 with
  | none =>
    rw [h] at hv
    refine (acct_Sum.calls _ A c l asset _ _ _ _ _ w hC hlen hv).mono ?_
    rintro e w' ⟨rfl, hb⟩
    refine ⟨?_, hb⟩
    have : sumV l asset = zero4 := by unfold sumV; rw [h]; rfl
    rw [this]
    rfl
  | some r =>
    rw [h] at hv
    refine (acct_Sum.calls _ A c l asset _ _ _ _ _ w hC hlen hv).mono ?_
    rintro e w' ⟨rfl, hb⟩
    refine ⟨?_, hb⟩
    have : sumV l asset = r := by unfold sumV; rw [h]; rfl
    rw [hs, this]
    rfl
set_option maxRecDepth 100000 in
theorem clos_any (A : Option Addr) (c : Nat) (l : List S39) (hl : okL l) (hlen : l.length ≤ c) (hl1 : l.length ≤ 100000) (gb : Nat) (x : S39) (w : World) (hb : Box w gb 22 #[.slice A l.length c]) (hC : Kd.C k39 w A l.length l) :
    Calls Try.prog 32 #[.agg (rowA x), .pointer (some ⟨gb, 0, none⟩)] w fun e w' => e = .returned (.bool (!(sumT x.f1 l zero4).isSome)) ∧ Below w.heap.size w w' := by
  have hu25 := Try.underlying25
  have hu39 := Try.underlying39
  have Hi25 := Aside0.mk (show (Try.prog.info? 25).map (·.size) = some 4 by kernel_rfl)
  have hx : Box (w.alloc (.cells (rowA x) 39)) w.heap.size 39 (rowA x) := blk_new w _
  have HT := Aside0.mk (below_alloc (Below.refl w.heap.size w) (.cells (rowA x) 39))
  have hb1 : Box (w.alloc (.cells (rowA x) 39)) gb 22 #[.slice A l.length c] := blk_alloc hb _
  have b0 := hb1.cell 0 _ rfl
  have b1 := hx.cell 1 (.string x.f1) rfl
  have HSM := Aside0.mk (fun (X : World) (hX : Kd.C k39 X A l.length l) => asum_ok l hl x.f1 A c X hX hlen hl1)
  have HC1 := Aside0.mk (Kd.C_below hC HT.out)
  have HSV := Aside0.mk (sumV_len l x.f1)
  clear hl hlen hl1 hC hb hb1 hx
  generalize (sumT x.f1 l zero4).isSome = ok at *
  generalize sumV l x.f1 = SV at *
  go_enter Try.func32, Try.ntmps32
  go_wp2_with fail
  refine (HSM.out _ HC1.out).mono ?_
  rintro e wa ⟨rfl, hba⟩
  have hn10 := blk_new wa (.cells #[Value.int .u64 0, .int .u64 0, .int .u64 0, .int .u64 0] 25)
  go_wp2_with (refine store_ws rfl 25 _ _ rfl wa.heap.size rfl 25 (List.replicate 4 0) SV 4 rfl hn10 rfl HSV.out Hi25.out ?_)
  intro wb h10 hbl hf3 hs3
  clear hf3 hs3
  have hbb := below_step hba ((below_alloc (Below.refl wa.heap.size wa) (.cells #[Value.int .u64 0, .int .u64 0, .int .u64 0, .int .u64 0] 25)).trans (hbl _ (Nat.le_refl _)))
  have HWb := Aside0.mk (below_step HT.out hbb)
  clear h10 hbl hbb hba hn10 b0 b1
  go_wp2_with fail
  exact bodyPost_ret (v := .bool (!ok)) (by simp [results, Try.results32, go_sem]) rfl ⟨rfl, HWb.out⟩
set_option maxRecDepth 100000 in
set_option maxHeartbeats 1000000 in
theorem index_any (A : Option Addr) (c : Nat) (l : List S39) (hl : okL l) (hlen : l.length ≤ c) (hl1 : l.length ≤ 100000) (gb : Nat) (w : World) (hb : Box w gb 22 #[.slice A l.length c]) (hC : Kd.C k39 w A l.length l) :
    Calls Try.prog 39 #[.slice A l.length c, .func (.func 32) #[] #[.pointer (some ⟨gb, 0, none⟩)]] w fun e w' => ∃ r : Int, e = .returned (.int .i64 r) ∧ (0 ≤ r ↔ ∃ j, j < l.length ∧ ¬ FitSum l j) ∧ Below w.heap.size w w' := by
  have hu39 := Try.underlying39
  have HCL := Aside0.mk (fun (x : S39) (X : World) (hX : Below w.heap.size w X) => clos_any A c l hl hlen hl1 gb x X (blk_below hb hX) (Kd.C_below hC hX))
  have HC := Aside0.mk hC
  clear hb hC hl
  go_enter Try.func39, Try.ntmps39
  go_wp2_with fail
  go_loopw [8] (fun i wr => ∃ k : Nat, k ≤ l.length ∧ i = .int .i64 (k : Nat) ∧ (∀ j, j < k → FitSum l j) ∧ Below w.heap.size w wr) (fun i _ => l.length - (intOf i).toNat)
  case atStart => exact ⟨0, by omega, rfl, fun j hj => by omega, Below.refl _ _⟩
  case round =>
    obtain ⟨k, hk, rfl, hz, hbw⟩ := hrel
    have HZ := Aside0.mk hz
    have HW := Aside0.mk hbw
    clear hz hbw
    by_cases hlt : k < l.length
    · obtain ⟨ad, hA, _⟩ := HC.out.2.2 (by omega)
      subst hA
      obtain ⟨b0, b1, b2, b3, b4, b5⟩ := cells6 (Kd.C_below HC.out HW.out) k hlt
      have hki : (k : Int) < (l.length : Int) := by omega
      go_wp2_with fail
      refine (HCL.out (at39 l k) _ HW.out).mono ?_
      rintro e w1 ⟨rfl, hb1⟩
      have HW1 := Aside0.mk (below_step HW.out hb1)
      clear hb1 b0 b1 b2 b3 b4 b5 HW
      by_cases hx : FitSum l k
      · have hx' : (sumT (at39 l k).f1 l zero4).isSome = true := hx
        rw [hx']
        clear hx'
        go_wp2_with fail
        refine ⟨⟨k + 1, by omega, by go_num, fun j hj => ?_, HW1.out⟩, by simp [intOf]; omega⟩
        by_cases hjk : j = k
        · subst hjk; exact hx
        · exact HZ.out j (by omega)
      · have hx' : (sumT (at39 l k).f1 l zero4).isSome = false := Bool.eq_false_iff.2 hx
        rw [hx']
        clear hx'
        go_wp2_with fail
        exact bodyPost_ret (v := .int .i64 (k : Int)) (by simp [results, Try.results39, go_sem]) rfl ⟨k, rfl, ⟨fun _ => ⟨k, hlt, hx⟩, fun _ => by omega⟩, HW1.out⟩
    · obtain rfl : k = l.length := by omega
      go_wp2_with fail
      exact bodyPost_ret (v := .int .i64 (-1)) (by simp [results, Try.results39, go_sem]) rfl ⟨-1, rfl, ⟨fun h => absurd h (by decide), fun ⟨j, h1, h2⟩ => absurd (HZ.out j h1) h2⟩, HW.out⟩
theorem contains_any (A : Option Addr) (c : Nat) (l : List S39) (hl : okL l) (hlen : l.length ≤ c) (hl1 : l.length ≤ 100000) (gb : Nat) (w : World) (hb : Box w gb 22 #[.slice A l.length c]) (hC : Kd.C k39 w A l.length l) :
    Calls Try.prog 31 #[.slice A l.length c, .func (.func 32) #[] #[.pointer (some ⟨gb, 0, none⟩)]] w fun e w' => ∃ r : Int, e = .returned (.bool (decide (0 ≤ r))) ∧ (0 ≤ r ↔ ∃ j, j < l.length ∧ ¬ FitSum l j) ∧ Below w.heap.size w w' := by
  have C1 := Aside0.mk (index_any A c l hl hlen hl1 gb w hb hC)
  clear hb hC hl
  go_enter Try.func31, Try.ntmps31
  go_wp2_with fail
  refine C1.out.mono ?_
  rintro e w1 ⟨r, rfl, hr, hbw⟩
  have HR := Aside0.mk (And.intro hr hbw)
  clear hr hbw C1
  go_wp2_with fail
  exact bodyPost_ret (v := .bool (decide (0 ≤ r))) (by simp [results, Try.results31, go_sem]) rfl ⟨r, rfl, HR.out.1, HR.out.2⟩
set_option maxRecDepth 100000 in
set_option maxHeartbeats 4000000 in
theorem afit_any (l : List S39) (hl : okL l) (A : Option Addr) (c : Nat) (w : World) (hC : Kd.C k39 w A l.length l) (hlen : l.length ≤ c) (hl1 : l.length ≤ 100000) :
    Calls Try.prog 20 #[.slice A l.length c] w fun e w' => ∃ b, e = .returned (.bool b) ∧ (b = true ↔ FitL l) ∧ Below w.heap.size w w' := by
  have hu22 := Try.underlying22
  have hu25 := Try.underlying25
  have hu39 := Try.underlying39
  have Hi39 := Aside0.mk (show (Try.prog.info? 39).map (·.size) = some 6 by kernel_rfl)
  have hb : Box (w.alloc (.cells #[.slice A l.length c] 22)) w.heap.size 22 #[.slice A l.length c] := blk_new w _
  have hbel := below_alloc (Below.refl w.heap.size w) (.cells #[.slice A l.length c] 22)
  have HL := Aside0.mk (fun (X : World) (hX : Below (w.alloc (.cells #[.slice A l.length c] 22)).heap.size (w.alloc (.cells #[.slice A l.length c] 22)) X) => below_step hbel hX)
  have HC := Aside0.mk (Kd.C_below hC hbel)
  have HBX0 := Aside0.mk hb
  have b0 := hb.cell 0 _ rfl
  clear hbel hC hb
  by_cases c0 : l.length ≤ 1000
  · have i0 : decide ((1000 : Int) < (l.length : Int)) = false := decide_eq_false (by omega)
    have i00 : decide (1000 < l.length) = false := decide_eq_false (by omega)
    go_enter Try.func20, Try.ntmps20
    go_wp2_with fail
    generalize w.alloc (.cells #[.slice A l.length c] 22) = w1 at *
    clear i0 i00
    go_loopw [10] (fun i wr => ∃ k : Nat, k ≤ l.length ∧ i = .int .i64 (k : Nat) ∧ (∀ j, j < k → FitRow l j) ∧ Below w1.heap.size w1 wr) (fun i _ => l.length - (intOf i).toNat)
    case atStart => exact ⟨0, by omega, rfl, fun j hj => by omega, Below.refl _ _⟩
    case round =>
      clear b0
      obtain ⟨k, hk, rfl, hz, hbw⟩ := hrel
      have HZ := Aside0.mk hz
      have HW := Aside0.mk hbw
      clear hz hbw
      by_cases hlt : k < l.length
      · obtain ⟨ad, hA, _⟩ := HC.out.2.2 (by omega)
        subst hA
        obtain ⟨b0, b1, b2, b3, b4, b5⟩ := cells6 (Kd.C_below HC.out HW.out) k hlt
        have hki : (k : Int) < (l.length : Int) := by omega
        have hn := blk_new wr (.cells #[Value.string ByteArray.empty, .string ByteArray.empty, .int .u64 0, .int .u64 0, .int .u64 0, .int .u64 0] 39)
        go_wp2_with (refine store_cs rfl 39 _ _ rfl wr.heap.size rfl 39 #[Value.string ByteArray.empty, .string ByteArray.empty, .int .u64 0, .int .u64 0, .int .u64 0, .int .u64 0] (rowA (at39 l k)) rfl hn rfl Hi39.out (by simp [rowA, Value.oneCell']) ?_)
        intro w5 hx5 hbut hs5
        have HX := Aside0.mk hx5
        have hb5 := But.below (below_alloc (Below.refl wr.heap.size wr) (.cells #[Value.string ByteArray.empty, .string ByteArray.empty, .int .u64 0, .int .u64 0, .int .u64 0, .int .u64 0] 39)) hbut (Nat.le_refl _) (Nat.le_refl _)
        have HW5 := Aside0.mk (below_step HW.out hb5)
        clear hx5 hbut hs5 hb5 hn b0 b1 b2 b3 b4 b5 HW
        generalize wr.heap.size = g4 at *
        have HCW := Aside0.mk (fun (X : World) (hX : Below w5.heap.size w5 X) => Kd.C_below HC.out (below_step HW5.out hX))
        have HBX := Aside0.mk (blk_below HBX0.out HW5.out)
        go_wp2_with fail
        by_cases c1 : (at39 l k).f0.size = 20
        · have i1 : ((((at39 l k).f0.size : Nat) : Int) != 20) = false := by simp; omega
          have C1 := Aside0.mk c1
          clear c1
          by_cases c2 : (at39 l k).f1.size = 20
          · have i2 : ((((at39 l k).f1.size : Nat) : Int) != 20) = false := by simp; omega
            have C2 := Aside0.mk c2
            clear c2
            by_cases c3 : (at39 l k).f2 = z25
            · have i3 : ((at39 l k).f2.f0 == 0 && ((at39 l k).f2.f1 == 0 && ((at39 l k).f2.f2 == 0 && ((at39 l k).f2.f3 == 0)))) = true := by rw [z_flag, decide_eq_true c3]
              have C3 := Aside0.mk c3
              clear c3
              refine wp_put (fun a0 a' w' => a' = ((((((((((((((((((((((((((((((a0.put (some 15) (.pointer (some ⟨g4, 0, none⟩))).put (some 16) (.string (at39 l k).f0)).put (some 17) (.int .i64 ((at39 l k).f0.size : Nat))).put (some 18) (.bool false)).put (some 19) (.bool false)).put (some 20) (.pointer (some ⟨g4, 1, none⟩))).put (some 21) (.string (at39 l k).f1)).put (some 22) (.int .i64 ((at39 l k).f1.size : Nat))).put (some 23) (.bool false)).put (some 24) (.bool false)).put (some 25) (.bool false)).put (some 26) (.pointer (some ⟨g4, 2, none⟩))).put (some 27) (.agg #[.int .u64 (at39 l k).f2.f0, .int .u64 (at39 l k).f2.f1, .int .u64 (at39 l k).f2.f2, .int .u64 (at39 l k).f2.f3])).put (some 28) (.agg #[.int .u64 0, .int .u64 0, .int .u64 0, .int .u64 0])).put (some 29) (.bool true)).put (some 30) (.bool true)).put (some 31) (.bool true)).put (some 32) (undef)).put (some 33) (undef)).put (some 34) (undef)).put (some 35) (undef)).put (some 36) (undef)).put (some 37) (undef)).put (some 38) (undef)).put (some 39) (undef)).put (some 40) (undef)).put (some 41) (undef)).put (some 42) (undef)).put (some 43) (undef)).put (some 44) (.bool true)) ∧ Below w5.heap.size w5 w') ?hreg ?hnext
              case hreg =>
                refine wp_region_held_drew (S := fun X => Below w5.heap.size w5 X) (by kernel_rfl) (below_drew1 (Below.refl _ _)) (fun hHeld => ?_)
                generalize w5.drew = W0 at *
                try simp only [Act.put, List.getElem_toArray, List.getElem_cons_zero, List.getElem_cons_succ, List.setIfInBounds_toArray, List.set_cons_zero, List.set_cons_succ]
                refine wpAnyH_take (i := 0) (v := .pointer (some ⟨g4, 0, none⟩)) rfl (by kernel_rfl) (by kernel_rfl) (by kernel_rfl) (fun _ _ _ h => absurd h.1 (by simp)) (.inl ⟨by rfl, fun _ _ => by go_simp⟩) hHeld ?_
                try simp only [Act.put, List.getElem_toArray, List.getElem_cons_zero, List.getElem_cons_succ, List.setIfInBounds_toArray, List.set_cons_zero, List.set_cons_succ]
                refine wpAnyH_take (i := 1) (v := .string (at39 l k).f0) rfl (by kernel_rfl) (by kernel_rfl) (by kernel_rfl) (fun _ _ _ h => absurd h.1 (by simp)) (.inl ⟨by rfl, fun X' hS => by have hx : Box X' g4 39 (rowA (at39 l k)) := blk_below HX.out hS; have b0 := hx.cell 0 (.string (at39 l k).f0) rfl; go_simp⟩) hHeld ?_
                try simp only [Act.put, List.getElem_toArray, List.getElem_cons_zero, List.getElem_cons_succ, List.setIfInBounds_toArray, List.set_cons_zero, List.set_cons_succ]
                refine wpAnyH_take (i := 2) (v := .int .i64 ((at39 l k).f0.size : Nat)) rfl (by kernel_rfl) (by kernel_rfl) (by kernel_rfl) (fun _ _ _ h => absurd h.1 (by simp)) (.inl ⟨by rfl, fun _ _ => by go_simp⟩) hHeld ?_
                try simp only [Act.put, List.getElem_toArray, List.getElem_cons_zero, List.getElem_cons_succ, List.setIfInBounds_toArray, List.set_cons_zero, List.set_cons_succ]
                refine wpAnyH_take (i := 3) (v := .bool false) rfl (by kernel_rfl) (by kernel_rfl) (by kernel_rfl) (fun _ _ _ h => absurd h.1 (by simp)) (.inl ⟨by rfl, fun _ _ => by go_simp⟩) hHeld ?_
                try simp only [Act.put, List.getElem_toArray, List.getElem_cons_zero, List.getElem_cons_succ, List.setIfInBounds_toArray, List.set_cons_zero, List.set_cons_succ]
                refine wpAnyH_take (i := 4) (v := .bool false) rfl (by kernel_rfl) (by kernel_rfl) (by kernel_rfl) (fun _ _ _ h => absurd h.1 (by simp)) (.inl ⟨by rfl, fun _ _ => by go_simp⟩) hHeld ?_
                try simp only [Act.put, List.getElem_toArray, List.getElem_cons_zero, List.getElem_cons_succ, List.setIfInBounds_toArray, List.set_cons_zero, List.set_cons_succ]
                refine wpAnyH_take (i := 5) (v := .pointer (some ⟨g4, 1, none⟩)) rfl (by kernel_rfl) (by kernel_rfl) (by kernel_rfl) (fun _ _ _ h => absurd h.1 (by simp)) (.inl ⟨by rfl, fun _ _ => by go_simp⟩) hHeld ?_
                try simp only [Act.put, List.getElem_toArray, List.getElem_cons_zero, List.getElem_cons_succ, List.setIfInBounds_toArray, List.set_cons_zero, List.set_cons_succ]
                refine wpAnyH_take (i := 6) (v := .string (at39 l k).f1) rfl (by kernel_rfl) (by kernel_rfl) (by kernel_rfl) (fun _ _ _ h => absurd h.1 (by simp)) (.inl ⟨by rfl, fun X' hS => by have hx : Box X' g4 39 (rowA (at39 l k)) := blk_below HX.out hS; have b1 := hx.cell 1 (.string (at39 l k).f1) rfl; go_simp⟩) hHeld ?_
                try simp only [Act.put, List.getElem_toArray, List.getElem_cons_zero, List.getElem_cons_succ, List.setIfInBounds_toArray, List.set_cons_zero, List.set_cons_succ]
                refine wpAnyH_take (i := 7) (v := .int .i64 ((at39 l k).f1.size : Nat)) rfl (by kernel_rfl) (by kernel_rfl) (by kernel_rfl) (fun _ _ _ h => absurd h.1 (by simp)) (.inl ⟨by rfl, fun _ _ => by go_simp⟩) hHeld ?_
                try simp only [Act.put, List.getElem_toArray, List.getElem_cons_zero, List.getElem_cons_succ, List.setIfInBounds_toArray, List.set_cons_zero, List.set_cons_succ]
                refine wpAnyH_take (i := 8) (v := .bool false) rfl (by kernel_rfl) (by kernel_rfl) (by kernel_rfl) (fun _ _ _ h => absurd h.1 (by simp)) (.inl ⟨by rfl, fun _ _ => by go_simp⟩) hHeld ?_
                try simp only [Act.put, List.getElem_toArray, List.getElem_cons_zero, List.getElem_cons_succ, List.setIfInBounds_toArray, List.set_cons_zero, List.set_cons_succ]
                refine wpAnyH_take (i := 9) (v := .bool false) rfl (by kernel_rfl) (by kernel_rfl) (by kernel_rfl) (fun _ _ _ h => absurd h.1 (by simp)) (.inl ⟨by rfl, fun _ _ => by go_simp⟩) hHeld ?_
                try simp only [Act.put, List.getElem_toArray, List.getElem_cons_zero, List.getElem_cons_succ, List.setIfInBounds_toArray, List.set_cons_zero, List.set_cons_succ]
                refine wpAnyH_take (i := 10) (v := .bool false) rfl (by kernel_rfl) (by kernel_rfl) (by kernel_rfl) (fun _ _ _ h => absurd h.1 (by simp)) (.inl ⟨by rfl, fun _ _ => by go_simp⟩) hHeld ?_
                try simp only [Act.put, List.getElem_toArray, List.getElem_cons_zero, List.getElem_cons_succ, List.setIfInBounds_toArray, List.set_cons_zero, List.set_cons_succ]
                refine wpAnyH_take (i := 11) (v := .pointer (some ⟨g4, 2, none⟩)) rfl (by kernel_rfl) (by kernel_rfl) (by kernel_rfl) (fun _ _ _ h => absurd h.1 (by simp)) (.inl ⟨by rfl, fun _ _ => by go_simp⟩) hHeld ?_
                try simp only [Act.put, List.getElem_toArray, List.getElem_cons_zero, List.getElem_cons_succ, List.setIfInBounds_toArray, List.set_cons_zero, List.set_cons_succ]
                refine wpAnyH_take (i := 12) (v := .agg #[.int .u64 (at39 l k).f2.f0, .int .u64 (at39 l k).f2.f1, .int .u64 (at39 l k).f2.f2, .int .u64 (at39 l k).f2.f3]) rfl (by kernel_rfl) (by kernel_rfl) (by kernel_rfl) (fun _ _ _ h => absurd h.1 (by simp)) (.inl ⟨by rfl, fun X' hS => by have hx : Box X' g4 39 (rowA (at39 l k)) := blk_below HX.out hS; have b2 := hx.cell 2 (.int .u64 (at39 l k).f2.f0) rfl; have b3 := hx.cell 3 (.int .u64 (at39 l k).f2.f1) rfl; have b4 := hx.cell 4 (.int .u64 (at39 l k).f2.f2) rfl; have b5 := hx.cell 5 (.int .u64 (at39 l k).f2.f3) rfl; go_simp⟩) hHeld ?_
                try simp only [Act.put, List.getElem_toArray, List.getElem_cons_zero, List.getElem_cons_succ, List.setIfInBounds_toArray, List.set_cons_zero, List.set_cons_succ]
                refine wpAnyH_take (i := 13) (v := .agg #[.int .u64 0, .int .u64 0, .int .u64 0, .int .u64 0]) rfl (by kernel_rfl) (by kernel_rfl) (by kernel_rfl) (fun _ _ _ h => absurd h.1 (by simp)) (.inl ⟨by rfl, fun _ _ => by go_simp⟩) hHeld ?_
                try simp only [Act.put, List.getElem_toArray, List.getElem_cons_zero, List.getElem_cons_succ, List.setIfInBounds_toArray, List.set_cons_zero, List.set_cons_succ]
                refine wpAnyH_take (i := 14) (v := .bool true) rfl (by kernel_rfl) (by kernel_rfl) (by kernel_rfl) (fun _ _ _ h => absurd h.1 (by simp)) (.inl ⟨by rfl, fun _ _ => by go_simp⟩) hHeld ?_
                try simp only [Act.put, List.getElem_toArray, List.getElem_cons_zero, List.getElem_cons_succ, List.setIfInBounds_toArray, List.set_cons_zero, List.set_cons_succ]
                refine wpAnyH_take (i := 15) (v := .bool true) rfl (by kernel_rfl) (by kernel_rfl) (by kernel_rfl) (fun _ _ _ h => absurd h.1 (by simp)) (.inl ⟨by rfl, fun _ _ => by go_simp⟩) hHeld ?_
                try simp only [Act.put, List.getElem_toArray, List.getElem_cons_zero, List.getElem_cons_succ, List.setIfInBounds_toArray, List.set_cons_zero, List.set_cons_succ]
                refine wpAnyH_take (i := 16) (v := .bool true) rfl (by kernel_rfl) (by kernel_rfl) (by kernel_rfl) (fun _ _ _ h => absurd h.1 (by simp)) (.inl ⟨by rfl, fun _ _ => by go_simp⟩) hHeld ?_
                try simp only [Act.put, List.getElem_toArray, List.getElem_cons_zero, List.getElem_cons_succ, List.setIfInBounds_toArray, List.set_cons_zero, List.set_cons_succ]
                refine wpAnyH_take (i := 17) (v := undef) rfl (by kernel_rfl) (by kernel_rfl) (by kernel_rfl) (fun _ _ _ h => absurd h.1 (by simp)) (.inr ⟨by rfl, rfl⟩) hHeld ?_
                try simp only [Act.put, List.getElem_toArray, List.getElem_cons_zero, List.getElem_cons_succ, List.setIfInBounds_toArray, List.set_cons_zero, List.set_cons_succ]
                refine wpAnyH_take (i := 18) (v := undef) rfl (by kernel_rfl) (by kernel_rfl) (by kernel_rfl) (fun _ _ _ h => absurd h.1 (by simp)) (.inr ⟨by rfl, rfl⟩) hHeld ?_
                try simp only [Act.put, List.getElem_toArray, List.getElem_cons_zero, List.getElem_cons_succ, List.setIfInBounds_toArray, List.set_cons_zero, List.set_cons_succ]
                refine wpAnyH_take (i := 19) (v := undef) rfl (by kernel_rfl) (by kernel_rfl) (by kernel_rfl) (fun _ _ _ h => absurd h.1 (by simp)) (.inr ⟨by rfl, rfl⟩) hHeld ?_
                try simp only [Act.put, List.getElem_toArray, List.getElem_cons_zero, List.getElem_cons_succ, List.setIfInBounds_toArray, List.set_cons_zero, List.set_cons_succ]
                refine wpAnyH_take (i := 20) (v := undef) rfl (by kernel_rfl) (by kernel_rfl) (by kernel_rfl) (fun _ _ _ h => absurd h.1 (by simp)) (.inr ⟨by rfl, rfl⟩) hHeld ?_
                try simp only [Act.put, List.getElem_toArray, List.getElem_cons_zero, List.getElem_cons_succ, List.setIfInBounds_toArray, List.set_cons_zero, List.set_cons_succ]
                refine wpAnyH_take (i := 21) (v := undef) rfl (by kernel_rfl) (by kernel_rfl) (by kernel_rfl) (fun _ _ _ h => absurd h.1 (by simp)) (.inr ⟨by rfl, rfl⟩) hHeld ?_
                try simp only [Act.put, List.getElem_toArray, List.getElem_cons_zero, List.getElem_cons_succ, List.setIfInBounds_toArray, List.set_cons_zero, List.set_cons_succ]
                refine wpAnyH_take (i := 22) (v := undef) rfl (by kernel_rfl) (by kernel_rfl) (by kernel_rfl) (fun _ _ _ h => absurd h.1 (by simp)) (.inr ⟨by rfl, rfl⟩) hHeld ?_
                try simp only [Act.put, List.getElem_toArray, List.getElem_cons_zero, List.getElem_cons_succ, List.setIfInBounds_toArray, List.set_cons_zero, List.set_cons_succ]
                refine wpAnyH_take (i := 23) (v := undef) rfl (by kernel_rfl) (by kernel_rfl) (by kernel_rfl) (fun _ _ _ h => absurd h.1 (by simp)) (.inr ⟨by rfl, rfl⟩) hHeld ?_
                try simp only [Act.put, List.getElem_toArray, List.getElem_cons_zero, List.getElem_cons_succ, List.setIfInBounds_toArray, List.set_cons_zero, List.set_cons_succ]
                refine wpAnyH_take (i := 24) (v := undef) rfl (by kernel_rfl) (by kernel_rfl) (by kernel_rfl) (fun _ _ _ h => absurd h.1 (by simp)) (.inr ⟨by rfl, rfl⟩) hHeld ?_
                try simp only [Act.put, List.getElem_toArray, List.getElem_cons_zero, List.getElem_cons_succ, List.setIfInBounds_toArray, List.set_cons_zero, List.set_cons_succ]
                refine wpAnyH_take (i := 25) (v := undef) rfl (by kernel_rfl) (by kernel_rfl) (by kernel_rfl) (fun _ _ _ h => absurd h.1 (by simp)) (.inr ⟨by rfl, rfl⟩) hHeld ?_
                try simp only [Act.put, List.getElem_toArray, List.getElem_cons_zero, List.getElem_cons_succ, List.setIfInBounds_toArray, List.set_cons_zero, List.set_cons_succ]
                refine wpAnyH_take (i := 26) (v := undef) rfl (by kernel_rfl) (by kernel_rfl) (by kernel_rfl) (fun _ _ _ h => absurd h.1 (by simp)) (.inr ⟨by rfl, rfl⟩) hHeld ?_
                try simp only [Act.put, List.getElem_toArray, List.getElem_cons_zero, List.getElem_cons_succ, List.setIfInBounds_toArray, List.set_cons_zero, List.set_cons_succ]
                refine wpAnyH_take (i := 27) (v := undef) rfl (by kernel_rfl) (by kernel_rfl) (by kernel_rfl) (fun _ _ _ h => absurd h.1 (by simp)) (.inr ⟨by rfl, rfl⟩) hHeld ?_
                try simp only [Act.put, List.getElem_toArray, List.getElem_cons_zero, List.getElem_cons_succ, List.setIfInBounds_toArray, List.set_cons_zero, List.set_cons_succ]
                refine wpAnyH_take (i := 28) (v := undef) rfl (by kernel_rfl) (by kernel_rfl) (by kernel_rfl) (fun _ _ _ h => absurd h.1 (by simp)) (.inr ⟨by rfl, rfl⟩) hHeld ?_
                try simp only [Act.put, List.getElem_toArray, List.getElem_cons_zero, List.getElem_cons_succ, List.setIfInBounds_toArray, List.set_cons_zero, List.set_cons_succ]
                refine wpAnyH_take (i := 29) (v := .bool true) rfl (by kernel_rfl) (by kernel_rfl) (by kernel_rfl) (fun _ _ _ h => absurd h.1 (by simp)) (.inl ⟨by rfl, fun _ _ => by go_simp⟩) hHeld ?_
                try simp only [Act.put, List.getElem_toArray, List.getElem_cons_zero, List.getElem_cons_succ, List.setIfInBounds_toArray, List.set_cons_zero, List.set_cons_succ]
                refine wpAnyH_done (by kernel_rfl) ?_ _
                refine ⟨rfl, ?_, hHeld⟩
                try rfl
              case hnext =>
                rintro _ w6 ⟨rfl, hb6⟩
                try simp only [Act.put, List.getElem_toArray, List.getElem_cons_zero, List.getElem_cons_succ, List.setIfInBounds_toArray, List.set_cons_zero, List.set_cons_succ]
                have HW6 := Aside0.mk (below_step HW5.out hb6)
                clear hb6 HCW HX HBX HW5
                go_wp2_with fail
                exact bodyPost_ret (v := .bool false) (by simp [results, Try.results20, go_sem]) rfl ⟨false, rfl, ⟨fun h => (by cases h), fun F => absurd (F.rows k hlt) (fun fr => fr.nz C3.out)⟩, HL.out _ HW6.out⟩
            · have i3 : ((at39 l k).f2.f0 == 0 && ((at39 l k).f2.f1 == 0 && ((at39 l k).f2.f2 == 0 && ((at39 l k).f2.f3 == 0)))) = false := by rw [z_flag, decide_eq_false c3]
              by_cases c4 : 0 < k
              · have i4 : decide ((0 : Int) < (k : Int)) = true := decide_eq_true (by omega)
                have i6 : decide (0 < k) = true := decide_eq_true c4
                have HK1 := Aside0.mk (show IntKind.i64.wrap ((k : Int) - 1) = ((k - 1 : Nat) : Int) from by rw [i64_w]; exact wrap_nat0 k c4 (by omega))
                have i5 : ((k - 1 : Nat) : Int) < (l.length : Int) := by omega
                refine wp_put (fun a0 a' w' => a' = ((((((((((((((((((((((((((((((a0.put (some 15) (.pointer (some ⟨g4, 0, none⟩))).put (some 16) (.string (at39 l k).f0)).put (some 17) (.int .i64 ((at39 l k).f0.size : Nat))).put (some 18) (.bool false)).put (some 19) (.bool false)).put (some 20) (.pointer (some ⟨g4, 1, none⟩))).put (some 21) (.string (at39 l k).f1)).put (some 22) (.int .i64 ((at39 l k).f1.size : Nat))).put (some 23) (.bool false)).put (some 24) (.bool false)).put (some 25) (.bool false)).put (some 26) (.pointer (some ⟨g4, 2, none⟩))).put (some 27) (.agg #[.int .u64 (at39 l k).f2.f0, .int .u64 (at39 l k).f2.f1, .int .u64 (at39 l k).f2.f2, .int .u64 (at39 l k).f2.f3])).put (some 28) (.agg #[.int .u64 0, .int .u64 0, .int .u64 0, .int .u64 0])).put (some 29) (.bool false)).put (some 30) (.bool false)).put (some 31) (.bool false)).put (some 32) (.int .i64 (k : Nat))).put (some 33) (.bool true)).put (some 34) (.bool true)).put (some 35) (.slice (some ad) l.length c)).put (some 36) (.int .i64 (k : Nat))).put (some 37) (.int .i64 ((k - 1 : Nat) : Int))).put (some 38) (.pointer (some (ad.add ((k - 1) * 6))))).put (some 39) (.agg #[.string (at39 l (k - 1)).f0, .string (at39 l (k - 1)).f1, .int .u64 (at39 l (k - 1)).f2.f0, .int .u64 (at39 l (k - 1)).f2.f1, .int .u64 (at39 l (k - 1)).f2.f2, .int .u64 (at39 l (k - 1)).f2.f3])).put (some 40) (.agg #[.string (at39 l k).f0, .string (at39 l k).f1, .int .u64 (at39 l k).f2.f0, .int .u64 (at39 l k).f2.f1, .int .u64 (at39 l k).f2.f2, .int .u64 (at39 l k).f2.f3])).put (some 41) (.int .i64 (ordA (at39 l (k - 1)) (at39 l k).f0 (at39 l k).f1))).put (some 42) (.bool (decide (0 ≤ ordA (at39 l (k - 1)) (at39 l k).f0 (at39 l k).f1)))).put (some 43) (.bool (decide (0 ≤ ordA (at39 l (k - 1)) (at39 l k).f0 (at39 l k).f1)))).put (some 44) (.bool (decide (0 ≤ ordA (at39 l (k - 1)) (at39 l k).f0 (at39 l k).f1)))) ∧ Below w5.heap.size w5 w') ?hreg ?hnext
                case hreg =>
                  refine wp_region_held_drew (S := fun X => Below w5.heap.size w5 X) (by kernel_rfl) (below_drew1 (Below.refl _ _)) (fun hHeld => ?_)
                  generalize w5.drew = W0 at *
                  try simp only [Act.put, List.getElem_toArray, List.getElem_cons_zero, List.getElem_cons_succ, List.setIfInBounds_toArray, List.set_cons_zero, List.set_cons_succ]
                  refine wpAnyH_take (i := 0) (v := .pointer (some ⟨g4, 0, none⟩)) rfl (by kernel_rfl) (by kernel_rfl) (by kernel_rfl) (fun _ _ _ h => absurd h.1 (by simp)) (.inl ⟨by rfl, fun _ _ => by go_simp⟩) hHeld ?_
                  try simp only [Act.put, List.getElem_toArray, List.getElem_cons_zero, List.getElem_cons_succ, List.setIfInBounds_toArray, List.set_cons_zero, List.set_cons_succ]
                  refine wpAnyH_take (i := 1) (v := .string (at39 l k).f0) rfl (by kernel_rfl) (by kernel_rfl) (by kernel_rfl) (fun _ _ _ h => absurd h.1 (by simp)) (.inl ⟨by rfl, fun X' hS => by have hx : Box X' g4 39 (rowA (at39 l k)) := blk_below HX.out hS; have b0 := hx.cell 0 (.string (at39 l k).f0) rfl; go_simp⟩) hHeld ?_
                  try simp only [Act.put, List.getElem_toArray, List.getElem_cons_zero, List.getElem_cons_succ, List.setIfInBounds_toArray, List.set_cons_zero, List.set_cons_succ]
                  refine wpAnyH_take (i := 2) (v := .int .i64 ((at39 l k).f0.size : Nat)) rfl (by kernel_rfl) (by kernel_rfl) (by kernel_rfl) (fun _ _ _ h => absurd h.1 (by simp)) (.inl ⟨by rfl, fun _ _ => by go_simp⟩) hHeld ?_
                  try simp only [Act.put, List.getElem_toArray, List.getElem_cons_zero, List.getElem_cons_succ, List.setIfInBounds_toArray, List.set_cons_zero, List.set_cons_succ]
                  refine wpAnyH_take (i := 3) (v := .bool false) rfl (by kernel_rfl) (by kernel_rfl) (by kernel_rfl) (fun _ _ _ h => absurd h.1 (by simp)) (.inl ⟨by rfl, fun _ _ => by go_simp⟩) hHeld ?_
                  try simp only [Act.put, List.getElem_toArray, List.getElem_cons_zero, List.getElem_cons_succ, List.setIfInBounds_toArray, List.set_cons_zero, List.set_cons_succ]
                  refine wpAnyH_take (i := 4) (v := .bool false) rfl (by kernel_rfl) (by kernel_rfl) (by kernel_rfl) (fun _ _ _ h => absurd h.1 (by simp)) (.inl ⟨by rfl, fun _ _ => by go_simp⟩) hHeld ?_
                  try simp only [Act.put, List.getElem_toArray, List.getElem_cons_zero, List.getElem_cons_succ, List.setIfInBounds_toArray, List.set_cons_zero, List.set_cons_succ]
                  refine wpAnyH_take (i := 5) (v := .pointer (some ⟨g4, 1, none⟩)) rfl (by kernel_rfl) (by kernel_rfl) (by kernel_rfl) (fun _ _ _ h => absurd h.1 (by simp)) (.inl ⟨by rfl, fun _ _ => by go_simp⟩) hHeld ?_
                  try simp only [Act.put, List.getElem_toArray, List.getElem_cons_zero, List.getElem_cons_succ, List.setIfInBounds_toArray, List.set_cons_zero, List.set_cons_succ]
                  refine wpAnyH_take (i := 6) (v := .string (at39 l k).f1) rfl (by kernel_rfl) (by kernel_rfl) (by kernel_rfl) (fun _ _ _ h => absurd h.1 (by simp)) (.inl ⟨by rfl, fun X' hS => by have hx : Box X' g4 39 (rowA (at39 l k)) := blk_below HX.out hS; have b1 := hx.cell 1 (.string (at39 l k).f1) rfl; go_simp⟩) hHeld ?_
                  try simp only [Act.put, List.getElem_toArray, List.getElem_cons_zero, List.getElem_cons_succ, List.setIfInBounds_toArray, List.set_cons_zero, List.set_cons_succ]
                  refine wpAnyH_take (i := 7) (v := .int .i64 ((at39 l k).f1.size : Nat)) rfl (by kernel_rfl) (by kernel_rfl) (by kernel_rfl) (fun _ _ _ h => absurd h.1 (by simp)) (.inl ⟨by rfl, fun _ _ => by go_simp⟩) hHeld ?_
                  try simp only [Act.put, List.getElem_toArray, List.getElem_cons_zero, List.getElem_cons_succ, List.setIfInBounds_toArray, List.set_cons_zero, List.set_cons_succ]
                  refine wpAnyH_take (i := 8) (v := .bool false) rfl (by kernel_rfl) (by kernel_rfl) (by kernel_rfl) (fun _ _ _ h => absurd h.1 (by simp)) (.inl ⟨by rfl, fun _ _ => by go_simp⟩) hHeld ?_
                  try simp only [Act.put, List.getElem_toArray, List.getElem_cons_zero, List.getElem_cons_succ, List.setIfInBounds_toArray, List.set_cons_zero, List.set_cons_succ]
                  refine wpAnyH_take (i := 9) (v := .bool false) rfl (by kernel_rfl) (by kernel_rfl) (by kernel_rfl) (fun _ _ _ h => absurd h.1 (by simp)) (.inl ⟨by rfl, fun _ _ => by go_simp⟩) hHeld ?_
                  try simp only [Act.put, List.getElem_toArray, List.getElem_cons_zero, List.getElem_cons_succ, List.setIfInBounds_toArray, List.set_cons_zero, List.set_cons_succ]
                  refine wpAnyH_take (i := 10) (v := .bool false) rfl (by kernel_rfl) (by kernel_rfl) (by kernel_rfl) (fun _ _ _ h => absurd h.1 (by simp)) (.inl ⟨by rfl, fun _ _ => by go_simp⟩) hHeld ?_
                  try simp only [Act.put, List.getElem_toArray, List.getElem_cons_zero, List.getElem_cons_succ, List.setIfInBounds_toArray, List.set_cons_zero, List.set_cons_succ]
                  refine wpAnyH_take (i := 11) (v := .pointer (some ⟨g4, 2, none⟩)) rfl (by kernel_rfl) (by kernel_rfl) (by kernel_rfl) (fun _ _ _ h => absurd h.1 (by simp)) (.inl ⟨by rfl, fun _ _ => by go_simp⟩) hHeld ?_
                  try simp only [Act.put, List.getElem_toArray, List.getElem_cons_zero, List.getElem_cons_succ, List.setIfInBounds_toArray, List.set_cons_zero, List.set_cons_succ]
                  refine wpAnyH_take (i := 12) (v := .agg #[.int .u64 (at39 l k).f2.f0, .int .u64 (at39 l k).f2.f1, .int .u64 (at39 l k).f2.f2, .int .u64 (at39 l k).f2.f3]) rfl (by kernel_rfl) (by kernel_rfl) (by kernel_rfl) (fun _ _ _ h => absurd h.1 (by simp)) (.inl ⟨by rfl, fun X' hS => by have hx : Box X' g4 39 (rowA (at39 l k)) := blk_below HX.out hS; have b2 := hx.cell 2 (.int .u64 (at39 l k).f2.f0) rfl; have b3 := hx.cell 3 (.int .u64 (at39 l k).f2.f1) rfl; have b4 := hx.cell 4 (.int .u64 (at39 l k).f2.f2) rfl; have b5 := hx.cell 5 (.int .u64 (at39 l k).f2.f3) rfl; go_simp⟩) hHeld ?_
                  try simp only [Act.put, List.getElem_toArray, List.getElem_cons_zero, List.getElem_cons_succ, List.setIfInBounds_toArray, List.set_cons_zero, List.set_cons_succ]
                  refine wpAnyH_take (i := 13) (v := .agg #[.int .u64 0, .int .u64 0, .int .u64 0, .int .u64 0]) rfl (by kernel_rfl) (by kernel_rfl) (by kernel_rfl) (fun _ _ _ h => absurd h.1 (by simp)) (.inl ⟨by rfl, fun _ _ => by go_simp⟩) hHeld ?_
                  try simp only [Act.put, List.getElem_toArray, List.getElem_cons_zero, List.getElem_cons_succ, List.setIfInBounds_toArray, List.set_cons_zero, List.set_cons_succ]
                  refine wpAnyH_take (i := 14) (v := .bool false) rfl (by kernel_rfl) (by kernel_rfl) (by kernel_rfl) (fun _ _ _ h => absurd h.1 (by simp)) (.inl ⟨by rfl, fun _ _ => by go_simp⟩) hHeld ?_
                  try simp only [Act.put, List.getElem_toArray, List.getElem_cons_zero, List.getElem_cons_succ, List.setIfInBounds_toArray, List.set_cons_zero, List.set_cons_succ]
                  refine wpAnyH_take (i := 15) (v := .bool false) rfl (by kernel_rfl) (by kernel_rfl) (by kernel_rfl) (fun _ _ _ h => absurd h.1 (by simp)) (.inl ⟨by rfl, fun _ _ => by go_simp⟩) hHeld ?_
                  try simp only [Act.put, List.getElem_toArray, List.getElem_cons_zero, List.getElem_cons_succ, List.setIfInBounds_toArray, List.set_cons_zero, List.set_cons_succ]
                  refine wpAnyH_take (i := 16) (v := .bool false) rfl (by kernel_rfl) (by kernel_rfl) (by kernel_rfl) (fun _ _ _ h => absurd h.1 (by simp)) (.inl ⟨by rfl, fun _ _ => by go_simp⟩) hHeld ?_
                  try simp only [Act.put, List.getElem_toArray, List.getElem_cons_zero, List.getElem_cons_succ, List.setIfInBounds_toArray, List.set_cons_zero, List.set_cons_succ]
                  refine wpAnyH_take (i := 17) (v := .int .i64 (k : Nat)) rfl (by kernel_rfl) (by kernel_rfl) (by kernel_rfl) (fun _ _ _ h => absurd h.1 (by simp)) (.inl ⟨by rfl, fun _ _ => by go_simp⟩) hHeld ?_
                  try simp only [Act.put, List.getElem_toArray, List.getElem_cons_zero, List.getElem_cons_succ, List.setIfInBounds_toArray, List.set_cons_zero, List.set_cons_succ]
                  refine wpAnyH_take (i := 18) (v := .bool true) rfl (by kernel_rfl) (by kernel_rfl) (by kernel_rfl) (fun _ _ _ h => absurd h.1 (by simp)) (.inl ⟨by rfl, fun _ _ => by go_simp⟩) hHeld ?_
                  try simp only [Act.put, List.getElem_toArray, List.getElem_cons_zero, List.getElem_cons_succ, List.setIfInBounds_toArray, List.set_cons_zero, List.set_cons_succ]
                  refine wpAnyH_take (i := 19) (v := .bool true) rfl (by kernel_rfl) (by kernel_rfl) (by kernel_rfl) (fun _ _ _ h => absurd h.1 (by simp)) (.inl ⟨by rfl, fun _ _ => by go_simp⟩) hHeld ?_
                  try simp only [Act.put, List.getElem_toArray, List.getElem_cons_zero, List.getElem_cons_succ, List.setIfInBounds_toArray, List.set_cons_zero, List.set_cons_succ]
                  refine wpAnyH_take (i := 20) (v := .slice (some ad) l.length c) rfl (by kernel_rfl) (by kernel_rfl) (by kernel_rfl) (fun _ _ _ h => absurd h.1 (by simp)) (.inl ⟨by rfl, fun X' hS => by have hx : Box X' w.heap.size 22 #[.slice (some ad) l.length c] := blk_below HBX.out hS; have b0 := hx.cell 0 _ rfl; go_simp⟩) hHeld ?_
                  try simp only [Act.put, List.getElem_toArray, List.getElem_cons_zero, List.getElem_cons_succ, List.setIfInBounds_toArray, List.set_cons_zero, List.set_cons_succ]
                  refine wpAnyH_take (i := 21) (v := .int .i64 (k : Nat)) rfl (by kernel_rfl) (by kernel_rfl) (by kernel_rfl) (fun _ _ _ h => absurd h.1 (by simp)) (.inl ⟨by rfl, fun _ _ => by go_simp⟩) hHeld ?_
                  try simp only [Act.put, List.getElem_toArray, List.getElem_cons_zero, List.getElem_cons_succ, List.setIfInBounds_toArray, List.set_cons_zero, List.set_cons_succ]
                  refine wpAnyH_take (i := 22) (v := .int .i64 ((k - 1 : Nat) : Int)) rfl (by kernel_rfl) (by kernel_rfl) (by kernel_rfl) (fun _ _ _ h => absurd h.1 (by simp)) (.inl ⟨by rfl, fun _ _ => by go_simp; rw [HK1.out]⟩) hHeld ?_
                  try simp only [Act.put, List.getElem_toArray, List.getElem_cons_zero, List.getElem_cons_succ, List.setIfInBounds_toArray, List.set_cons_zero, List.set_cons_succ]
                  refine wpAnyH_take (i := 23) (v := .pointer (some (ad.add ((k - 1) * 6)))) rfl (by kernel_rfl) (by kernel_rfl) (by kernel_rfl) (fun _ _ _ h => absurd h.1 (by simp)) (.inl ⟨by rfl, fun _ _ => by go_simp⟩) hHeld ?_
                  try simp only [Act.put, List.getElem_toArray, List.getElem_cons_zero, List.getElem_cons_succ, List.setIfInBounds_toArray, List.set_cons_zero, List.set_cons_succ]
                  refine wpAnyH_take (i := 24) (v := .agg #[.string (at39 l (k - 1)).f0, .string (at39 l (k - 1)).f1, .int .u64 (at39 l (k - 1)).f2.f0, .int .u64 (at39 l (k - 1)).f2.f1, .int .u64 (at39 l (k - 1)).f2.f2, .int .u64 (at39 l (k - 1)).f2.f3]) rfl (by kernel_rfl) (by kernel_rfl) (by kernel_rfl) (fun _ _ _ h => absurd h.1 (by simp)) (.inl ⟨by rfl, fun X' hS => by obtain ⟨b0, b1, b2, b3, b4, b5⟩ := cells6 (HCW.out _ hS) (k - 1) (by omega); go_simp⟩) hHeld ?_
                  try simp only [Act.put, List.getElem_toArray, List.getElem_cons_zero, List.getElem_cons_succ, List.setIfInBounds_toArray, List.set_cons_zero, List.set_cons_succ]
                  refine wpAnyH_take (i := 25) (v := .agg #[.string (at39 l k).f0, .string (at39 l k).f1, .int .u64 (at39 l k).f2.f0, .int .u64 (at39 l k).f2.f1, .int .u64 (at39 l k).f2.f2, .int .u64 (at39 l k).f2.f3]) rfl (by kernel_rfl) (by kernel_rfl) (by kernel_rfl) (fun _ _ _ h => absurd h.1 (by simp)) (.inl ⟨by rfl, fun X' hS => by have hx : Box X' g4 39 (rowA (at39 l k)) := blk_below HX.out hS; have b0 := hx.cell 0 (.string (at39 l k).f0) rfl; have b1 := hx.cell 1 (.string (at39 l k).f1) rfl; have b2 := hx.cell 2 (.int .u64 (at39 l k).f2.f0) rfl; have b3 := hx.cell 3 (.int .u64 (at39 l k).f2.f1) rfl; have b4 := hx.cell 4 (.int .u64 (at39 l k).f2.f2) rfl; have b5 := hx.cell 5 (.int .u64 (at39 l k).f2.f3) rfl; go_simp⟩) hHeld ?_
                  try simp only [Act.put, List.getElem_toArray, List.getElem_cons_zero, List.getElem_cons_succ, List.setIfInBounds_toArray, List.set_cons_zero, List.set_cons_succ]
                  refine wpAnyH_ready (rs := [26]) (by kernel_rfl) (by simp) ?_
                  refine AllReadyH.cons rfl (fun K hK => ?_) AllReadyH.nil
                  go_simp
                  refine (order_any (at39 l (k - 1)) (at39 l k) _).mono ?_
                  rintro e X1 ⟨rfl, hb⟩
                  refine hK.out _ _ (below_step hHeld hb) (fun hHeld => ?_)
                  clear hb hK K
                  try simp only [Act.put, List.getElem_toArray, List.getElem_cons_zero, List.getElem_cons_succ, List.setIfInBounds_toArray, List.set_cons_zero, List.set_cons_succ]
                  refine wpAnyH_take (i := 27) (v := .bool (decide (0 ≤ ordA (at39 l (k - 1)) (at39 l k).f0 (at39 l k).f1))) rfl (by kernel_rfl) (by kernel_rfl) (by kernel_rfl) (fun _ _ _ h => absurd h.1 (by simp)) (.inl ⟨by rfl, fun _ _ => by go_simp⟩) hHeld ?_
                  try simp only [Act.put, List.getElem_toArray, List.getElem_cons_zero, List.getElem_cons_succ, List.setIfInBounds_toArray, List.set_cons_zero, List.set_cons_succ]
                  refine wpAnyH_take (i := 28) (v := .bool (decide (0 ≤ ordA (at39 l (k - 1)) (at39 l k).f0 (at39 l k).f1))) rfl (by kernel_rfl) (by kernel_rfl) (by kernel_rfl) (fun _ _ _ h => absurd h.1 (by simp)) (.inl ⟨by rfl, fun _ _ => by go_simp⟩) hHeld ?_
                  try simp only [Act.put, List.getElem_toArray, List.getElem_cons_zero, List.getElem_cons_succ, List.setIfInBounds_toArray, List.set_cons_zero, List.set_cons_succ]
                  refine wpAnyH_take (i := 29) (v := .bool (decide (0 ≤ ordA (at39 l (k - 1)) (at39 l k).f0 (at39 l k).f1))) rfl (by kernel_rfl) (by kernel_rfl) (by kernel_rfl) (fun _ _ _ h => absurd h.1 (by simp)) (.inl ⟨by rfl, fun _ _ => by go_simp⟩) hHeld ?_
                  try simp only [Act.put, List.getElem_toArray, List.getElem_cons_zero, List.getElem_cons_succ, List.setIfInBounds_toArray, List.set_cons_zero, List.set_cons_succ]
                  refine wpAnyH_done (by kernel_rfl) ?_ _
                  refine ⟨rfl, ?_, hHeld⟩
                  try rfl
                case hnext =>
                  rintro _ w6 ⟨rfl, hb6⟩
                  try simp only [Act.put, List.getElem_toArray, List.getElem_cons_zero, List.getElem_cons_succ, List.setIfInBounds_toArray, List.set_cons_zero, List.set_cons_succ]
                  have HW6 := Aside0.mk (below_step HW5.out hb6)
                  clear hb6 HCW HX HBX HW5
                  by_cases c5 : 0 ≤ ordA (at39 l (k - 1)) (at39 l k).f0 (at39 l k).f1
                  · rw [decide_eq_true c5]
                    go_wp2_with fail
                    exact bodyPost_ret (v := .bool false) (by simp [results, Try.results20, go_sem]) rfl ⟨false, rfl, ⟨fun h => (by cases h), fun F => absurd (F.rows k hlt) (fun fr => by have := fr.up c4; omega)⟩, HL.out _ HW6.out⟩
                  · rw [decide_eq_false c5]
                    go_wp2_with fail
                    refine ⟨⟨k + 1, by omega, by go_num, fun j hj => ?_, HW6.out⟩, by simp [intOf]; omega⟩
                    by_cases hjk : j = k
                    · subst hjk; exact ⟨C1.out, C2.out, c3, fun _ => by omega⟩
                    · exact HZ.out j (by omega)
              · have i4 : decide ((0 : Int) < (k : Int)) = false := decide_eq_false (by omega)
                have i6 : decide (0 < k) = false := decide_eq_false c4
                refine wp_put (fun a0 a' w' => a' = ((((((((((((((((((((((((((((((a0.put (some 15) (.pointer (some ⟨g4, 0, none⟩))).put (some 16) (.string (at39 l k).f0)).put (some 17) (.int .i64 ((at39 l k).f0.size : Nat))).put (some 18) (.bool false)).put (some 19) (.bool false)).put (some 20) (.pointer (some ⟨g4, 1, none⟩))).put (some 21) (.string (at39 l k).f1)).put (some 22) (.int .i64 ((at39 l k).f1.size : Nat))).put (some 23) (.bool false)).put (some 24) (.bool false)).put (some 25) (.bool false)).put (some 26) (.pointer (some ⟨g4, 2, none⟩))).put (some 27) (.agg #[.int .u64 (at39 l k).f2.f0, .int .u64 (at39 l k).f2.f1, .int .u64 (at39 l k).f2.f2, .int .u64 (at39 l k).f2.f3])).put (some 28) (.agg #[.int .u64 0, .int .u64 0, .int .u64 0, .int .u64 0])).put (some 29) (.bool false)).put (some 30) (.bool false)).put (some 31) (.bool false)).put (some 32) (.int .i64 (k : Nat))).put (some 33) (.bool false)).put (some 34) (.bool false)).put (some 35) (undef)).put (some 36) (undef)).put (some 37) (undef)).put (some 38) (undef)).put (some 39) (undef)).put (some 40) (undef)).put (some 41) (undef)).put (some 42) (undef)).put (some 43) (.bool false)).put (some 44) (.bool false)) ∧ Below w5.heap.size w5 w') ?hreg ?hnext
                case hreg =>
                  refine wp_region_held_drew (S := fun X => Below w5.heap.size w5 X) (by kernel_rfl) (below_drew1 (Below.refl _ _)) (fun hHeld => ?_)
                  generalize w5.drew = W0 at *
                  try simp only [Act.put, List.getElem_toArray, List.getElem_cons_zero, List.getElem_cons_succ, List.setIfInBounds_toArray, List.set_cons_zero, List.set_cons_succ]
                  refine wpAnyH_take (i := 0) (v := .pointer (some ⟨g4, 0, none⟩)) rfl (by kernel_rfl) (by kernel_rfl) (by kernel_rfl) (fun _ _ _ h => absurd h.1 (by simp)) (.inl ⟨by rfl, fun _ _ => by go_simp⟩) hHeld ?_
                  try simp only [Act.put, List.getElem_toArray, List.getElem_cons_zero, List.getElem_cons_succ, List.setIfInBounds_toArray, List.set_cons_zero, List.set_cons_succ]
                  refine wpAnyH_take (i := 1) (v := .string (at39 l k).f0) rfl (by kernel_rfl) (by kernel_rfl) (by kernel_rfl) (fun _ _ _ h => absurd h.1 (by simp)) (.inl ⟨by rfl, fun X' hS => by have hx : Box X' g4 39 (rowA (at39 l k)) := blk_below HX.out hS; have b0 := hx.cell 0 (.string (at39 l k).f0) rfl; go_simp⟩) hHeld ?_
                  try simp only [Act.put, List.getElem_toArray, List.getElem_cons_zero, List.getElem_cons_succ, List.setIfInBounds_toArray, List.set_cons_zero, List.set_cons_succ]
                  refine wpAnyH_take (i := 2) (v := .int .i64 ((at39 l k).f0.size : Nat)) rfl (by kernel_rfl) (by kernel_rfl) (by kernel_rfl) (fun _ _ _ h => absurd h.1 (by simp)) (.inl ⟨by rfl, fun _ _ => by go_simp⟩) hHeld ?_
                  try simp only [Act.put, List.getElem_toArray, List.getElem_cons_zero, List.getElem_cons_succ, List.setIfInBounds_toArray, List.set_cons_zero, List.set_cons_succ]
                  refine wpAnyH_take (i := 3) (v := .bool false) rfl (by kernel_rfl) (by kernel_rfl) (by kernel_rfl) (fun _ _ _ h => absurd h.1 (by simp)) (.inl ⟨by rfl, fun _ _ => by go_simp⟩) hHeld ?_
                  try simp only [Act.put, List.getElem_toArray, List.getElem_cons_zero, List.getElem_cons_succ, List.setIfInBounds_toArray, List.set_cons_zero, List.set_cons_succ]
                  refine wpAnyH_take (i := 4) (v := .bool false) rfl (by kernel_rfl) (by kernel_rfl) (by kernel_rfl) (fun _ _ _ h => absurd h.1 (by simp)) (.inl ⟨by rfl, fun _ _ => by go_simp⟩) hHeld ?_
                  try simp only [Act.put, List.getElem_toArray, List.getElem_cons_zero, List.getElem_cons_succ, List.setIfInBounds_toArray, List.set_cons_zero, List.set_cons_succ]
                  refine wpAnyH_take (i := 5) (v := .pointer (some ⟨g4, 1, none⟩)) rfl (by kernel_rfl) (by kernel_rfl) (by kernel_rfl) (fun _ _ _ h => absurd h.1 (by simp)) (.inl ⟨by rfl, fun _ _ => by go_simp⟩) hHeld ?_
                  try simp only [Act.put, List.getElem_toArray, List.getElem_cons_zero, List.getElem_cons_succ, List.setIfInBounds_toArray, List.set_cons_zero, List.set_cons_succ]
                  refine wpAnyH_take (i := 6) (v := .string (at39 l k).f1) rfl (by kernel_rfl) (by kernel_rfl) (by kernel_rfl) (fun _ _ _ h => absurd h.1 (by simp)) (.inl ⟨by rfl, fun X' hS => by have hx : Box X' g4 39 (rowA (at39 l k)) := blk_below HX.out hS; have b1 := hx.cell 1 (.string (at39 l k).f1) rfl; go_simp⟩) hHeld ?_
                  try simp only [Act.put, List.getElem_toArray, List.getElem_cons_zero, List.getElem_cons_succ, List.setIfInBounds_toArray, List.set_cons_zero, List.set_cons_succ]
                  refine wpAnyH_take (i := 7) (v := .int .i64 ((at39 l k).f1.size : Nat)) rfl (by kernel_rfl) (by kernel_rfl) (by kernel_rfl) (fun _ _ _ h => absurd h.1 (by simp)) (.inl ⟨by rfl, fun _ _ => by go_simp⟩) hHeld ?_
                  try simp only [Act.put, List.getElem_toArray, List.getElem_cons_zero, List.getElem_cons_succ, List.setIfInBounds_toArray, List.set_cons_zero, List.set_cons_succ]
                  refine wpAnyH_take (i := 8) (v := .bool false) rfl (by kernel_rfl) (by kernel_rfl) (by kernel_rfl) (fun _ _ _ h => absurd h.1 (by simp)) (.inl ⟨by rfl, fun _ _ => by go_simp⟩) hHeld ?_
                  try simp only [Act.put, List.getElem_toArray, List.getElem_cons_zero, List.getElem_cons_succ, List.setIfInBounds_toArray, List.set_cons_zero, List.set_cons_succ]
                  refine wpAnyH_take (i := 9) (v := .bool false) rfl (by kernel_rfl) (by kernel_rfl) (by kernel_rfl) (fun _ _ _ h => absurd h.1 (by simp)) (.inl ⟨by rfl, fun _ _ => by go_simp⟩) hHeld ?_
                  try simp only [Act.put, List.getElem_toArray, List.getElem_cons_zero, List.getElem_cons_succ, List.setIfInBounds_toArray, List.set_cons_zero, List.set_cons_succ]
                  refine wpAnyH_take (i := 10) (v := .bool false) rfl (by kernel_rfl) (by kernel_rfl) (by kernel_rfl) (fun _ _ _ h => absurd h.1 (by simp)) (.inl ⟨by rfl, fun _ _ => by go_simp⟩) hHeld ?_
                  try simp only [Act.put, List.getElem_toArray, List.getElem_cons_zero, List.getElem_cons_succ, List.setIfInBounds_toArray, List.set_cons_zero, List.set_cons_succ]
                  refine wpAnyH_take (i := 11) (v := .pointer (some ⟨g4, 2, none⟩)) rfl (by kernel_rfl) (by kernel_rfl) (by kernel_rfl) (fun _ _ _ h => absurd h.1 (by simp)) (.inl ⟨by rfl, fun _ _ => by go_simp⟩) hHeld ?_
                  try simp only [Act.put, List.getElem_toArray, List.getElem_cons_zero, List.getElem_cons_succ, List.setIfInBounds_toArray, List.set_cons_zero, List.set_cons_succ]
                  refine wpAnyH_take (i := 12) (v := .agg #[.int .u64 (at39 l k).f2.f0, .int .u64 (at39 l k).f2.f1, .int .u64 (at39 l k).f2.f2, .int .u64 (at39 l k).f2.f3]) rfl (by kernel_rfl) (by kernel_rfl) (by kernel_rfl) (fun _ _ _ h => absurd h.1 (by simp)) (.inl ⟨by rfl, fun X' hS => by have hx : Box X' g4 39 (rowA (at39 l k)) := blk_below HX.out hS; have b2 := hx.cell 2 (.int .u64 (at39 l k).f2.f0) rfl; have b3 := hx.cell 3 (.int .u64 (at39 l k).f2.f1) rfl; have b4 := hx.cell 4 (.int .u64 (at39 l k).f2.f2) rfl; have b5 := hx.cell 5 (.int .u64 (at39 l k).f2.f3) rfl; go_simp⟩) hHeld ?_
                  try simp only [Act.put, List.getElem_toArray, List.getElem_cons_zero, List.getElem_cons_succ, List.setIfInBounds_toArray, List.set_cons_zero, List.set_cons_succ]
                  refine wpAnyH_take (i := 13) (v := .agg #[.int .u64 0, .int .u64 0, .int .u64 0, .int .u64 0]) rfl (by kernel_rfl) (by kernel_rfl) (by kernel_rfl) (fun _ _ _ h => absurd h.1 (by simp)) (.inl ⟨by rfl, fun _ _ => by go_simp⟩) hHeld ?_
                  try simp only [Act.put, List.getElem_toArray, List.getElem_cons_zero, List.getElem_cons_succ, List.setIfInBounds_toArray, List.set_cons_zero, List.set_cons_succ]
                  refine wpAnyH_take (i := 14) (v := .bool false) rfl (by kernel_rfl) (by kernel_rfl) (by kernel_rfl) (fun _ _ _ h => absurd h.1 (by simp)) (.inl ⟨by rfl, fun _ _ => by go_simp⟩) hHeld ?_
                  try simp only [Act.put, List.getElem_toArray, List.getElem_cons_zero, List.getElem_cons_succ, List.setIfInBounds_toArray, List.set_cons_zero, List.set_cons_succ]
                  refine wpAnyH_take (i := 15) (v := .bool false) rfl (by kernel_rfl) (by kernel_rfl) (by kernel_rfl) (fun _ _ _ h => absurd h.1 (by simp)) (.inl ⟨by rfl, fun _ _ => by go_simp⟩) hHeld ?_
                  try simp only [Act.put, List.getElem_toArray, List.getElem_cons_zero, List.getElem_cons_succ, List.setIfInBounds_toArray, List.set_cons_zero, List.set_cons_succ]
                  refine wpAnyH_take (i := 16) (v := .bool false) rfl (by kernel_rfl) (by kernel_rfl) (by kernel_rfl) (fun _ _ _ h => absurd h.1 (by simp)) (.inl ⟨by rfl, fun _ _ => by go_simp⟩) hHeld ?_
                  try simp only [Act.put, List.getElem_toArray, List.getElem_cons_zero, List.getElem_cons_succ, List.setIfInBounds_toArray, List.set_cons_zero, List.set_cons_succ]
                  refine wpAnyH_take (i := 17) (v := .int .i64 (k : Nat)) rfl (by kernel_rfl) (by kernel_rfl) (by kernel_rfl) (fun _ _ _ h => absurd h.1 (by simp)) (.inl ⟨by rfl, fun _ _ => by go_simp⟩) hHeld ?_
                  try simp only [Act.put, List.getElem_toArray, List.getElem_cons_zero, List.getElem_cons_succ, List.setIfInBounds_toArray, List.set_cons_zero, List.set_cons_succ]
                  refine wpAnyH_take (i := 18) (v := .bool false) rfl (by kernel_rfl) (by kernel_rfl) (by kernel_rfl) (fun _ _ _ h => absurd h.1 (by simp)) (.inl ⟨by rfl, fun _ _ => by go_simp⟩) hHeld ?_
                  try simp only [Act.put, List.getElem_toArray, List.getElem_cons_zero, List.getElem_cons_succ, List.setIfInBounds_toArray, List.set_cons_zero, List.set_cons_succ]
                  refine wpAnyH_take (i := 19) (v := .bool false) rfl (by kernel_rfl) (by kernel_rfl) (by kernel_rfl) (fun _ _ _ h => absurd h.1 (by simp)) (.inl ⟨by rfl, fun _ _ => by go_simp⟩) hHeld ?_
                  try simp only [Act.put, List.getElem_toArray, List.getElem_cons_zero, List.getElem_cons_succ, List.setIfInBounds_toArray, List.set_cons_zero, List.set_cons_succ]
                  refine wpAnyH_take (i := 20) (v := undef) rfl (by kernel_rfl) (by kernel_rfl) (by kernel_rfl) (fun _ _ _ h => absurd h.1 (by simp)) (.inr ⟨by rfl, rfl⟩) hHeld ?_
                  try simp only [Act.put, List.getElem_toArray, List.getElem_cons_zero, List.getElem_cons_succ, List.setIfInBounds_toArray, List.set_cons_zero, List.set_cons_succ]
                  refine wpAnyH_take (i := 21) (v := undef) rfl (by kernel_rfl) (by kernel_rfl) (by kernel_rfl) (fun _ _ _ h => absurd h.1 (by simp)) (.inr ⟨by rfl, rfl⟩) hHeld ?_
                  try simp only [Act.put, List.getElem_toArray, List.getElem_cons_zero, List.getElem_cons_succ, List.setIfInBounds_toArray, List.set_cons_zero, List.set_cons_succ]
                  refine wpAnyH_take (i := 22) (v := undef) rfl (by kernel_rfl) (by kernel_rfl) (by kernel_rfl) (fun _ _ _ h => absurd h.1 (by simp)) (.inr ⟨by rfl, rfl⟩) hHeld ?_
                  try simp only [Act.put, List.getElem_toArray, List.getElem_cons_zero, List.getElem_cons_succ, List.setIfInBounds_toArray, List.set_cons_zero, List.set_cons_succ]
                  refine wpAnyH_take (i := 23) (v := undef) rfl (by kernel_rfl) (by kernel_rfl) (by kernel_rfl) (fun _ _ _ h => absurd h.1 (by simp)) (.inr ⟨by rfl, rfl⟩) hHeld ?_
                  try simp only [Act.put, List.getElem_toArray, List.getElem_cons_zero, List.getElem_cons_succ, List.setIfInBounds_toArray, List.set_cons_zero, List.set_cons_succ]
                  refine wpAnyH_take (i := 24) (v := undef) rfl (by kernel_rfl) (by kernel_rfl) (by kernel_rfl) (fun _ _ _ h => absurd h.1 (by simp)) (.inr ⟨by rfl, rfl⟩) hHeld ?_
                  try simp only [Act.put, List.getElem_toArray, List.getElem_cons_zero, List.getElem_cons_succ, List.setIfInBounds_toArray, List.set_cons_zero, List.set_cons_succ]
                  refine wpAnyH_take (i := 25) (v := undef) rfl (by kernel_rfl) (by kernel_rfl) (by kernel_rfl) (fun _ _ _ h => absurd h.1 (by simp)) (.inr ⟨by rfl, rfl⟩) hHeld ?_
                  try simp only [Act.put, List.getElem_toArray, List.getElem_cons_zero, List.getElem_cons_succ, List.setIfInBounds_toArray, List.set_cons_zero, List.set_cons_succ]
                  refine wpAnyH_take (i := 26) (v := undef) rfl (by kernel_rfl) (by kernel_rfl) (by kernel_rfl) (fun _ _ _ h => absurd h.1 (by simp)) (.inr ⟨by rfl, rfl⟩) hHeld ?_
                  try simp only [Act.put, List.getElem_toArray, List.getElem_cons_zero, List.getElem_cons_succ, List.setIfInBounds_toArray, List.set_cons_zero, List.set_cons_succ]
                  refine wpAnyH_take (i := 27) (v := undef) rfl (by kernel_rfl) (by kernel_rfl) (by kernel_rfl) (fun _ _ _ h => absurd h.1 (by simp)) (.inr ⟨by rfl, rfl⟩) hHeld ?_
                  try simp only [Act.put, List.getElem_toArray, List.getElem_cons_zero, List.getElem_cons_succ, List.setIfInBounds_toArray, List.set_cons_zero, List.set_cons_succ]
                  refine wpAnyH_take (i := 28) (v := .bool false) rfl (by kernel_rfl) (by kernel_rfl) (by kernel_rfl) (fun _ _ _ h => absurd h.1 (by simp)) (.inl ⟨by rfl, fun _ _ => by go_simp⟩) hHeld ?_
                  try simp only [Act.put, List.getElem_toArray, List.getElem_cons_zero, List.getElem_cons_succ, List.setIfInBounds_toArray, List.set_cons_zero, List.set_cons_succ]
                  refine wpAnyH_take (i := 29) (v := .bool false) rfl (by kernel_rfl) (by kernel_rfl) (by kernel_rfl) (fun _ _ _ h => absurd h.1 (by simp)) (.inl ⟨by rfl, fun _ _ => by go_simp⟩) hHeld ?_
                  try simp only [Act.put, List.getElem_toArray, List.getElem_cons_zero, List.getElem_cons_succ, List.setIfInBounds_toArray, List.set_cons_zero, List.set_cons_succ]
                  refine wpAnyH_done (by kernel_rfl) ?_ _
                  refine ⟨rfl, ?_, hHeld⟩
                  try rfl
                case hnext =>
                  rintro _ w6 ⟨rfl, hb6⟩
                  try simp only [Act.put, List.getElem_toArray, List.getElem_cons_zero, List.getElem_cons_succ, List.setIfInBounds_toArray, List.set_cons_zero, List.set_cons_succ]
                  have HW6 := Aside0.mk (below_step HW5.out hb6)
                  clear hb6 HCW HX HBX HW5
                  go_wp2_with fail
                  refine ⟨⟨k + 1, by omega, by go_num, fun j hj => ?_, HW6.out⟩, by simp [intOf]; omega⟩
                  by_cases hjk : j = k
                  · subst hjk; exact ⟨C1.out, C2.out, c3, fun h => absurd h c4⟩
                  · exact HZ.out j (by omega)
          · have i2 : ((((at39 l k).f1.size : Nat) : Int) != 20) = true := by simp; omega
            refine wp_put (fun a0 a' w' => a' = ((((((((((((((((((((((((((((((a0.put (some 15) (.pointer (some ⟨g4, 0, none⟩))).put (some 16) (.string (at39 l k).f0)).put (some 17) (.int .i64 ((at39 l k).f0.size : Nat))).put (some 18) (.bool false)).put (some 19) (.bool false)).put (some 20) (.pointer (some ⟨g4, 1, none⟩))).put (some 21) (.string (at39 l k).f1)).put (some 22) (.int .i64 ((at39 l k).f1.size : Nat))).put (some 23) (.bool true)).put (some 24) (.bool true)).put (some 25) (.bool true)).put (some 26) (undef)).put (some 27) (undef)).put (some 28) (undef)).put (some 29) (undef)).put (some 30) (.bool true)).put (some 31) (.bool true)).put (some 32) (undef)).put (some 33) (undef)).put (some 34) (undef)).put (some 35) (undef)).put (some 36) (undef)).put (some 37) (undef)).put (some 38) (undef)).put (some 39) (undef)).put (some 40) (undef)).put (some 41) (undef)).put (some 42) (undef)).put (some 43) (undef)).put (some 44) (.bool true)) ∧ Below w5.heap.size w5 w') ?hreg ?hnext
            case hreg =>
              refine wp_region_held_drew (S := fun X => Below w5.heap.size w5 X) (by kernel_rfl) (below_drew1 (Below.refl _ _)) (fun hHeld => ?_)
              generalize w5.drew = W0 at *
              try simp only [Act.put, List.getElem_toArray, List.getElem_cons_zero, List.getElem_cons_succ, List.setIfInBounds_toArray, List.set_cons_zero, List.set_cons_succ]
              refine wpAnyH_take (i := 0) (v := .pointer (some ⟨g4, 0, none⟩)) rfl (by kernel_rfl) (by kernel_rfl) (by kernel_rfl) (fun _ _ _ h => absurd h.1 (by simp)) (.inl ⟨by rfl, fun _ _ => by go_simp⟩) hHeld ?_
              try simp only [Act.put, List.getElem_toArray, List.getElem_cons_zero, List.getElem_cons_succ, List.setIfInBounds_toArray, List.set_cons_zero, List.set_cons_succ]
              refine wpAnyH_take (i := 1) (v := .string (at39 l k).f0) rfl (by kernel_rfl) (by kernel_rfl) (by kernel_rfl) (fun _ _ _ h => absurd h.1 (by simp)) (.inl ⟨by rfl, fun X' hS => by have hx : Box X' g4 39 (rowA (at39 l k)) := blk_below HX.out hS; have b0 := hx.cell 0 (.string (at39 l k).f0) rfl; go_simp⟩) hHeld ?_
              try simp only [Act.put, List.getElem_toArray, List.getElem_cons_zero, List.getElem_cons_succ, List.setIfInBounds_toArray, List.set_cons_zero, List.set_cons_succ]
              refine wpAnyH_take (i := 2) (v := .int .i64 ((at39 l k).f0.size : Nat)) rfl (by kernel_rfl) (by kernel_rfl) (by kernel_rfl) (fun _ _ _ h => absurd h.1 (by simp)) (.inl ⟨by rfl, fun _ _ => by go_simp⟩) hHeld ?_
              try simp only [Act.put, List.getElem_toArray, List.getElem_cons_zero, List.getElem_cons_succ, List.setIfInBounds_toArray, List.set_cons_zero, List.set_cons_succ]
              refine wpAnyH_take (i := 3) (v := .bool false) rfl (by kernel_rfl) (by kernel_rfl) (by kernel_rfl) (fun _ _ _ h => absurd h.1 (by simp)) (.inl ⟨by rfl, fun _ _ => by go_simp⟩) hHeld ?_
              try simp only [Act.put, List.getElem_toArray, List.getElem_cons_zero, List.getElem_cons_succ, List.setIfInBounds_toArray, List.set_cons_zero, List.set_cons_succ]
              refine wpAnyH_take (i := 4) (v := .bool false) rfl (by kernel_rfl) (by kernel_rfl) (by kernel_rfl) (fun _ _ _ h => absurd h.1 (by simp)) (.inl ⟨by rfl, fun _ _ => by go_simp⟩) hHeld ?_
              try simp only [Act.put, List.getElem_toArray, List.getElem_cons_zero, List.getElem_cons_succ, List.setIfInBounds_toArray, List.set_cons_zero, List.set_cons_succ]
              refine wpAnyH_take (i := 5) (v := .pointer (some ⟨g4, 1, none⟩)) rfl (by kernel_rfl) (by kernel_rfl) (by kernel_rfl) (fun _ _ _ h => absurd h.1 (by simp)) (.inl ⟨by rfl, fun _ _ => by go_simp⟩) hHeld ?_
              try simp only [Act.put, List.getElem_toArray, List.getElem_cons_zero, List.getElem_cons_succ, List.setIfInBounds_toArray, List.set_cons_zero, List.set_cons_succ]
              refine wpAnyH_take (i := 6) (v := .string (at39 l k).f1) rfl (by kernel_rfl) (by kernel_rfl) (by kernel_rfl) (fun _ _ _ h => absurd h.1 (by simp)) (.inl ⟨by rfl, fun X' hS => by have hx : Box X' g4 39 (rowA (at39 l k)) := blk_below HX.out hS; have b1 := hx.cell 1 (.string (at39 l k).f1) rfl; go_simp⟩) hHeld ?_
              try simp only [Act.put, List.getElem_toArray, List.getElem_cons_zero, List.getElem_cons_succ, List.setIfInBounds_toArray, List.set_cons_zero, List.set_cons_succ]
              refine wpAnyH_take (i := 7) (v := .int .i64 ((at39 l k).f1.size : Nat)) rfl (by kernel_rfl) (by kernel_rfl) (by kernel_rfl) (fun _ _ _ h => absurd h.1 (by simp)) (.inl ⟨by rfl, fun _ _ => by go_simp⟩) hHeld ?_
              try simp only [Act.put, List.getElem_toArray, List.getElem_cons_zero, List.getElem_cons_succ, List.setIfInBounds_toArray, List.set_cons_zero, List.set_cons_succ]
              refine wpAnyH_take (i := 8) (v := .bool true) rfl (by kernel_rfl) (by kernel_rfl) (by kernel_rfl) (fun _ _ _ h => absurd h.1 (by simp)) (.inl ⟨by rfl, fun _ _ => by go_simp⟩) hHeld ?_
              try simp only [Act.put, List.getElem_toArray, List.getElem_cons_zero, List.getElem_cons_succ, List.setIfInBounds_toArray, List.set_cons_zero, List.set_cons_succ]
              refine wpAnyH_take (i := 9) (v := .bool true) rfl (by kernel_rfl) (by kernel_rfl) (by kernel_rfl) (fun _ _ _ h => absurd h.1 (by simp)) (.inl ⟨by rfl, fun _ _ => by go_simp⟩) hHeld ?_
              try simp only [Act.put, List.getElem_toArray, List.getElem_cons_zero, List.getElem_cons_succ, List.setIfInBounds_toArray, List.set_cons_zero, List.set_cons_succ]
              refine wpAnyH_take (i := 10) (v := .bool true) rfl (by kernel_rfl) (by kernel_rfl) (by kernel_rfl) (fun _ _ _ h => absurd h.1 (by simp)) (.inl ⟨by rfl, fun _ _ => by go_simp⟩) hHeld ?_
              try simp only [Act.put, List.getElem_toArray, List.getElem_cons_zero, List.getElem_cons_succ, List.setIfInBounds_toArray, List.set_cons_zero, List.set_cons_succ]
              refine wpAnyH_take (i := 11) (v := undef) rfl (by kernel_rfl) (by kernel_rfl) (by kernel_rfl) (fun _ _ _ h => absurd h.1 (by simp)) (.inr ⟨by rfl, rfl⟩) hHeld ?_
              try simp only [Act.put, List.getElem_toArray, List.getElem_cons_zero, List.getElem_cons_succ, List.setIfInBounds_toArray, List.set_cons_zero, List.set_cons_succ]
              refine wpAnyH_take (i := 12) (v := undef) rfl (by kernel_rfl) (by kernel_rfl) (by kernel_rfl) (fun _ _ _ h => absurd h.1 (by simp)) (.inr ⟨by rfl, rfl⟩) hHeld ?_
              try simp only [Act.put, List.getElem_toArray, List.getElem_cons_zero, List.getElem_cons_succ, List.setIfInBounds_toArray, List.set_cons_zero, List.set_cons_succ]
              refine wpAnyH_take (i := 13) (v := undef) rfl (by kernel_rfl) (by kernel_rfl) (by kernel_rfl) (fun _ _ _ h => absurd h.1 (by simp)) (.inr ⟨by rfl, rfl⟩) hHeld ?_
              try simp only [Act.put, List.getElem_toArray, List.getElem_cons_zero, List.getElem_cons_succ, List.setIfInBounds_toArray, List.set_cons_zero, List.set_cons_succ]
              refine wpAnyH_take (i := 14) (v := undef) rfl (by kernel_rfl) (by kernel_rfl) (by kernel_rfl) (fun _ _ _ h => absurd h.1 (by simp)) (.inr ⟨by rfl, rfl⟩) hHeld ?_
              try simp only [Act.put, List.getElem_toArray, List.getElem_cons_zero, List.getElem_cons_succ, List.setIfInBounds_toArray, List.set_cons_zero, List.set_cons_succ]
              refine wpAnyH_take (i := 15) (v := .bool true) rfl (by kernel_rfl) (by kernel_rfl) (by kernel_rfl) (fun _ _ _ h => absurd h.1 (by simp)) (.inl ⟨by rfl, fun _ _ => by go_simp⟩) hHeld ?_
              try simp only [Act.put, List.getElem_toArray, List.getElem_cons_zero, List.getElem_cons_succ, List.setIfInBounds_toArray, List.set_cons_zero, List.set_cons_succ]
              refine wpAnyH_take (i := 16) (v := .bool true) rfl (by kernel_rfl) (by kernel_rfl) (by kernel_rfl) (fun _ _ _ h => absurd h.1 (by simp)) (.inl ⟨by rfl, fun _ _ => by go_simp⟩) hHeld ?_
              try simp only [Act.put, List.getElem_toArray, List.getElem_cons_zero, List.getElem_cons_succ, List.setIfInBounds_toArray, List.set_cons_zero, List.set_cons_succ]
              refine wpAnyH_take (i := 17) (v := undef) rfl (by kernel_rfl) (by kernel_rfl) (by kernel_rfl) (fun _ _ _ h => absurd h.1 (by simp)) (.inr ⟨by rfl, rfl⟩) hHeld ?_
              try simp only [Act.put, List.getElem_toArray, List.getElem_cons_zero, List.getElem_cons_succ, List.setIfInBounds_toArray, List.set_cons_zero, List.set_cons_succ]
              refine wpAnyH_take (i := 18) (v := undef) rfl (by kernel_rfl) (by kernel_rfl) (by kernel_rfl) (fun _ _ _ h => absurd h.1 (by simp)) (.inr ⟨by rfl, rfl⟩) hHeld ?_
              try simp only [Act.put, List.getElem_toArray, List.getElem_cons_zero, List.getElem_cons_succ, List.setIfInBounds_toArray, List.set_cons_zero, List.set_cons_succ]
              refine wpAnyH_take (i := 19) (v := undef) rfl (by kernel_rfl) (by kernel_rfl) (by kernel_rfl) (fun _ _ _ h => absurd h.1 (by simp)) (.inr ⟨by rfl, rfl⟩) hHeld ?_
              try simp only [Act.put, List.getElem_toArray, List.getElem_cons_zero, List.getElem_cons_succ, List.setIfInBounds_toArray, List.set_cons_zero, List.set_cons_succ]
              refine wpAnyH_take (i := 20) (v := undef) rfl (by kernel_rfl) (by kernel_rfl) (by kernel_rfl) (fun _ _ _ h => absurd h.1 (by simp)) (.inr ⟨by rfl, rfl⟩) hHeld ?_
              try simp only [Act.put, List.getElem_toArray, List.getElem_cons_zero, List.getElem_cons_succ, List.setIfInBounds_toArray, List.set_cons_zero, List.set_cons_succ]
              refine wpAnyH_take (i := 21) (v := undef) rfl (by kernel_rfl) (by kernel_rfl) (by kernel_rfl) (fun _ _ _ h => absurd h.1 (by simp)) (.inr ⟨by rfl, rfl⟩) hHeld ?_
              try simp only [Act.put, List.getElem_toArray, List.getElem_cons_zero, List.getElem_cons_succ, List.setIfInBounds_toArray, List.set_cons_zero, List.set_cons_succ]
              refine wpAnyH_take (i := 22) (v := undef) rfl (by kernel_rfl) (by kernel_rfl) (by kernel_rfl) (fun _ _ _ h => absurd h.1 (by simp)) (.inr ⟨by rfl, rfl⟩) hHeld ?_
              try simp only [Act.put, List.getElem_toArray, List.getElem_cons_zero, List.getElem_cons_succ, List.setIfInBounds_toArray, List.set_cons_zero, List.set_cons_succ]
              refine wpAnyH_take (i := 23) (v := undef) rfl (by kernel_rfl) (by kernel_rfl) (by kernel_rfl) (fun _ _ _ h => absurd h.1 (by simp)) (.inr ⟨by rfl, rfl⟩) hHeld ?_
              try simp only [Act.put, List.getElem_toArray, List.getElem_cons_zero, List.getElem_cons_succ, List.setIfInBounds_toArray, List.set_cons_zero, List.set_cons_succ]
              refine wpAnyH_take (i := 24) (v := undef) rfl (by kernel_rfl) (by kernel_rfl) (by kernel_rfl) (fun _ _ _ h => absurd h.1 (by simp)) (.inr ⟨by rfl, rfl⟩) hHeld ?_
              try simp only [Act.put, List.getElem_toArray, List.getElem_cons_zero, List.getElem_cons_succ, List.setIfInBounds_toArray, List.set_cons_zero, List.set_cons_succ]
              refine wpAnyH_take (i := 25) (v := undef) rfl (by kernel_rfl) (by kernel_rfl) (by kernel_rfl) (fun _ _ _ h => absurd h.1 (by simp)) (.inr ⟨by rfl, rfl⟩) hHeld ?_
              try simp only [Act.put, List.getElem_toArray, List.getElem_cons_zero, List.getElem_cons_succ, List.setIfInBounds_toArray, List.set_cons_zero, List.set_cons_succ]
              refine wpAnyH_take (i := 26) (v := undef) rfl (by kernel_rfl) (by kernel_rfl) (by kernel_rfl) (fun _ _ _ h => absurd h.1 (by simp)) (.inr ⟨by rfl, rfl⟩) hHeld ?_
              try simp only [Act.put, List.getElem_toArray, List.getElem_cons_zero, List.getElem_cons_succ, List.setIfInBounds_toArray, List.set_cons_zero, List.set_cons_succ]
              refine wpAnyH_take (i := 27) (v := undef) rfl (by kernel_rfl) (by kernel_rfl) (by kernel_rfl) (fun _ _ _ h => absurd h.1 (by simp)) (.inr ⟨by rfl, rfl⟩) hHeld ?_
              try simp only [Act.put, List.getElem_toArray, List.getElem_cons_zero, List.getElem_cons_succ, List.setIfInBounds_toArray, List.set_cons_zero, List.set_cons_succ]
              refine wpAnyH_take (i := 28) (v := undef) rfl (by kernel_rfl) (by kernel_rfl) (by kernel_rfl) (fun _ _ _ h => absurd h.1 (by simp)) (.inr ⟨by rfl, rfl⟩) hHeld ?_
              try simp only [Act.put, List.getElem_toArray, List.getElem_cons_zero, List.getElem_cons_succ, List.setIfInBounds_toArray, List.set_cons_zero, List.set_cons_succ]
              refine wpAnyH_take (i := 29) (v := .bool true) rfl (by kernel_rfl) (by kernel_rfl) (by kernel_rfl) (fun _ _ _ h => absurd h.1 (by simp)) (.inl ⟨by rfl, fun _ _ => by go_simp⟩) hHeld ?_
              try simp only [Act.put, List.getElem_toArray, List.getElem_cons_zero, List.getElem_cons_succ, List.setIfInBounds_toArray, List.set_cons_zero, List.set_cons_succ]
              refine wpAnyH_done (by kernel_rfl) ?_ _
              refine ⟨rfl, ?_, hHeld⟩
              try rfl
            case hnext =>
              rintro _ w6 ⟨rfl, hb6⟩
              try simp only [Act.put, List.getElem_toArray, List.getElem_cons_zero, List.getElem_cons_succ, List.setIfInBounds_toArray, List.set_cons_zero, List.set_cons_succ]
              have HW6 := Aside0.mk (below_step HW5.out hb6)
              clear hb6 HCW HX HBX HW5
              go_wp2_with fail
              exact bodyPost_ret (v := .bool false) (by simp [results, Try.results20, go_sem]) rfl ⟨false, rfl, ⟨fun h => (by cases h), fun F => absurd (F.rows k hlt) (fun fr => c2 fr.k1)⟩, HL.out _ HW6.out⟩
        · have i1 : ((((at39 l k).f0.size : Nat) : Int) != 20) = true := by simp; omega
          refine wp_put (fun a0 a' w' => a' = ((((((((((((((((((((((((((((((a0.put (some 15) (.pointer (some ⟨g4, 0, none⟩))).put (some 16) (.string (at39 l k).f0)).put (some 17) (.int .i64 ((at39 l k).f0.size : Nat))).put (some 18) (.bool true)).put (some 19) (.bool true)).put (some 20) (undef)).put (some 21) (undef)).put (some 22) (undef)).put (some 23) (undef)).put (some 24) (.bool true)).put (some 25) (.bool true)).put (some 26) (undef)).put (some 27) (undef)).put (some 28) (undef)).put (some 29) (undef)).put (some 30) (.bool true)).put (some 31) (.bool true)).put (some 32) (undef)).put (some 33) (undef)).put (some 34) (undef)).put (some 35) (undef)).put (some 36) (undef)).put (some 37) (undef)).put (some 38) (undef)).put (some 39) (undef)).put (some 40) (undef)).put (some 41) (undef)).put (some 42) (undef)).put (some 43) (undef)).put (some 44) (.bool true)) ∧ Below w5.heap.size w5 w') ?hreg ?hnext
          case hreg =>
            refine wp_region_held_drew (S := fun X => Below w5.heap.size w5 X) (by kernel_rfl) (below_drew1 (Below.refl _ _)) (fun hHeld => ?_)
            generalize w5.drew = W0 at *
            try simp only [Act.put, List.getElem_toArray, List.getElem_cons_zero, List.getElem_cons_succ, List.setIfInBounds_toArray, List.set_cons_zero, List.set_cons_succ]
            refine wpAnyH_take (i := 0) (v := .pointer (some ⟨g4, 0, none⟩)) rfl (by kernel_rfl) (by kernel_rfl) (by kernel_rfl) (fun _ _ _ h => absurd h.1 (by simp)) (.inl ⟨by rfl, fun _ _ => by go_simp⟩) hHeld ?_
            try simp only [Act.put, List.getElem_toArray, List.getElem_cons_zero, List.getElem_cons_succ, List.setIfInBounds_toArray, List.set_cons_zero, List.set_cons_succ]
            refine wpAnyH_take (i := 1) (v := .string (at39 l k).f0) rfl (by kernel_rfl) (by kernel_rfl) (by kernel_rfl) (fun _ _ _ h => absurd h.1 (by simp)) (.inl ⟨by rfl, fun X' hS => by have hx : Box X' g4 39 (rowA (at39 l k)) := blk_below HX.out hS; have b0 := hx.cell 0 (.string (at39 l k).f0) rfl; go_simp⟩) hHeld ?_
            try simp only [Act.put, List.getElem_toArray, List.getElem_cons_zero, List.getElem_cons_succ, List.setIfInBounds_toArray, List.set_cons_zero, List.set_cons_succ]
            refine wpAnyH_take (i := 2) (v := .int .i64 ((at39 l k).f0.size : Nat)) rfl (by kernel_rfl) (by kernel_rfl) (by kernel_rfl) (fun _ _ _ h => absurd h.1 (by simp)) (.inl ⟨by rfl, fun _ _ => by go_simp⟩) hHeld ?_
            try simp only [Act.put, List.getElem_toArray, List.getElem_cons_zero, List.getElem_cons_succ, List.setIfInBounds_toArray, List.set_cons_zero, List.set_cons_succ]
            refine wpAnyH_take (i := 3) (v := .bool true) rfl (by kernel_rfl) (by kernel_rfl) (by kernel_rfl) (fun _ _ _ h => absurd h.1 (by simp)) (.inl ⟨by rfl, fun _ _ => by go_simp⟩) hHeld ?_
            try simp only [Act.put, List.getElem_toArray, List.getElem_cons_zero, List.getElem_cons_succ, List.setIfInBounds_toArray, List.set_cons_zero, List.set_cons_succ]
            refine wpAnyH_take (i := 4) (v := .bool true) rfl (by kernel_rfl) (by kernel_rfl) (by kernel_rfl) (fun _ _ _ h => absurd h.1 (by simp)) (.inl ⟨by rfl, fun _ _ => by go_simp⟩) hHeld ?_
            try simp only [Act.put, List.getElem_toArray, List.getElem_cons_zero, List.getElem_cons_succ, List.setIfInBounds_toArray, List.set_cons_zero, List.set_cons_succ]
            refine wpAnyH_take (i := 5) (v := undef) rfl (by kernel_rfl) (by kernel_rfl) (by kernel_rfl) (fun _ _ _ h => absurd h.1 (by simp)) (.inr ⟨by rfl, rfl⟩) hHeld ?_
            try simp only [Act.put, List.getElem_toArray, List.getElem_cons_zero, List.getElem_cons_succ, List.setIfInBounds_toArray, List.set_cons_zero, List.set_cons_succ]
            refine wpAnyH_take (i := 6) (v := undef) rfl (by kernel_rfl) (by kernel_rfl) (by kernel_rfl) (fun _ _ _ h => absurd h.1 (by simp)) (.inr ⟨by rfl, rfl⟩) hHeld ?_
            try simp only [Act.put, List.getElem_toArray, List.getElem_cons_zero, List.getElem_cons_succ, List.setIfInBounds_toArray, List.set_cons_zero, List.set_cons_succ]
            refine wpAnyH_take (i := 7) (v := undef) rfl (by kernel_rfl) (by kernel_rfl) (by kernel_rfl) (fun _ _ _ h => absurd h.1 (by simp)) (.inr ⟨by rfl, rfl⟩) hHeld ?_
            try simp only [Act.put, List.getElem_toArray, List.getElem_cons_zero, List.getElem_cons_succ, List.setIfInBounds_toArray, List.set_cons_zero, List.set_cons_succ]
            refine wpAnyH_take (i := 8) (v := undef) rfl (by kernel_rfl) (by kernel_rfl) (by kernel_rfl) (fun _ _ _ h => absurd h.1 (by simp)) (.inr ⟨by rfl, rfl⟩) hHeld ?_
            try simp only [Act.put, List.getElem_toArray, List.getElem_cons_zero, List.getElem_cons_succ, List.setIfInBounds_toArray, List.set_cons_zero, List.set_cons_succ]
            refine wpAnyH_take (i := 9) (v := .bool true) rfl (by kernel_rfl) (by kernel_rfl) (by kernel_rfl) (fun _ _ _ h => absurd h.1 (by simp)) (.inl ⟨by rfl, fun _ _ => by go_simp⟩) hHeld ?_
            try simp only [Act.put, List.getElem_toArray, List.getElem_cons_zero, List.getElem_cons_succ, List.setIfInBounds_toArray, List.set_cons_zero, List.set_cons_succ]
            refine wpAnyH_take (i := 10) (v := .bool true) rfl (by kernel_rfl) (by kernel_rfl) (by kernel_rfl) (fun _ _ _ h => absurd h.1 (by simp)) (.inl ⟨by rfl, fun _ _ => by go_simp⟩) hHeld ?_
            try simp only [Act.put, List.getElem_toArray, List.getElem_cons_zero, List.getElem_cons_succ, List.setIfInBounds_toArray, List.set_cons_zero, List.set_cons_succ]
            refine wpAnyH_take (i := 11) (v := undef) rfl (by kernel_rfl) (by kernel_rfl) (by kernel_rfl) (fun _ _ _ h => absurd h.1 (by simp)) (.inr ⟨by rfl, rfl⟩) hHeld ?_
            try simp only [Act.put, List.getElem_toArray, List.getElem_cons_zero, List.getElem_cons_succ, List.setIfInBounds_toArray, List.set_cons_zero, List.set_cons_succ]
            refine wpAnyH_take (i := 12) (v := undef) rfl (by kernel_rfl) (by kernel_rfl) (by kernel_rfl) (fun _ _ _ h => absurd h.1 (by simp)) (.inr ⟨by rfl, rfl⟩) hHeld ?_
            try simp only [Act.put, List.getElem_toArray, List.getElem_cons_zero, List.getElem_cons_succ, List.setIfInBounds_toArray, List.set_cons_zero, List.set_cons_succ]
            refine wpAnyH_take (i := 13) (v := undef) rfl (by kernel_rfl) (by kernel_rfl) (by kernel_rfl) (fun _ _ _ h => absurd h.1 (by simp)) (.inr ⟨by rfl, rfl⟩) hHeld ?_
            try simp only [Act.put, List.getElem_toArray, List.getElem_cons_zero, List.getElem_cons_succ, List.setIfInBounds_toArray, List.set_cons_zero, List.set_cons_succ]
            refine wpAnyH_take (i := 14) (v := undef) rfl (by kernel_rfl) (by kernel_rfl) (by kernel_rfl) (fun _ _ _ h => absurd h.1 (by simp)) (.inr ⟨by rfl, rfl⟩) hHeld ?_
            try simp only [Act.put, List.getElem_toArray, List.getElem_cons_zero, List.getElem_cons_succ, List.setIfInBounds_toArray, List.set_cons_zero, List.set_cons_succ]
            refine wpAnyH_take (i := 15) (v := .bool true) rfl (by kernel_rfl) (by kernel_rfl) (by kernel_rfl) (fun _ _ _ h => absurd h.1 (by simp)) (.inl ⟨by rfl, fun _ _ => by go_simp⟩) hHeld ?_
            try simp only [Act.put, List.getElem_toArray, List.getElem_cons_zero, List.getElem_cons_succ, List.setIfInBounds_toArray, List.set_cons_zero, List.set_cons_succ]
            refine wpAnyH_take (i := 16) (v := .bool true) rfl (by kernel_rfl) (by kernel_rfl) (by kernel_rfl) (fun _ _ _ h => absurd h.1 (by simp)) (.inl ⟨by rfl, fun _ _ => by go_simp⟩) hHeld ?_
            try simp only [Act.put, List.getElem_toArray, List.getElem_cons_zero, List.getElem_cons_succ, List.setIfInBounds_toArray, List.set_cons_zero, List.set_cons_succ]
            refine wpAnyH_take (i := 17) (v := undef) rfl (by kernel_rfl) (by kernel_rfl) (by kernel_rfl) (fun _ _ _ h => absurd h.1 (by simp)) (.inr ⟨by rfl, rfl⟩) hHeld ?_
            try simp only [Act.put, List.getElem_toArray, List.getElem_cons_zero, List.getElem_cons_succ, List.setIfInBounds_toArray, List.set_cons_zero, List.set_cons_succ]
            refine wpAnyH_take (i := 18) (v := undef) rfl (by kernel_rfl) (by kernel_rfl) (by kernel_rfl) (fun _ _ _ h => absurd h.1 (by simp)) (.inr ⟨by rfl, rfl⟩) hHeld ?_
            try simp only [Act.put, List.getElem_toArray, List.getElem_cons_zero, List.getElem_cons_succ, List.setIfInBounds_toArray, List.set_cons_zero, List.set_cons_succ]
            refine wpAnyH_take (i := 19) (v := undef) rfl (by kernel_rfl) (by kernel_rfl) (by kernel_rfl) (fun _ _ _ h => absurd h.1 (by simp)) (.inr ⟨by rfl, rfl⟩) hHeld ?_
            try simp only [Act.put, List.getElem_toArray, List.getElem_cons_zero, List.getElem_cons_succ, List.setIfInBounds_toArray, List.set_cons_zero, List.set_cons_succ]
            refine wpAnyH_take (i := 20) (v := undef) rfl (by kernel_rfl) (by kernel_rfl) (by kernel_rfl) (fun _ _ _ h => absurd h.1 (by simp)) (.inr ⟨by rfl, rfl⟩) hHeld ?_
            try simp only [Act.put, List.getElem_toArray, List.getElem_cons_zero, List.getElem_cons_succ, List.setIfInBounds_toArray, List.set_cons_zero, List.set_cons_succ]
            refine wpAnyH_take (i := 21) (v := undef) rfl (by kernel_rfl) (by kernel_rfl) (by kernel_rfl) (fun _ _ _ h => absurd h.1 (by simp)) (.inr ⟨by rfl, rfl⟩) hHeld ?_
            try simp only [Act.put, List.getElem_toArray, List.getElem_cons_zero, List.getElem_cons_succ, List.setIfInBounds_toArray, List.set_cons_zero, List.set_cons_succ]
            refine wpAnyH_take (i := 22) (v := undef) rfl (by kernel_rfl) (by kernel_rfl) (by kernel_rfl) (fun _ _ _ h => absurd h.1 (by simp)) (.inr ⟨by rfl, rfl⟩) hHeld ?_
            try simp only [Act.put, List.getElem_toArray, List.getElem_cons_zero, List.getElem_cons_succ, List.setIfInBounds_toArray, List.set_cons_zero, List.set_cons_succ]
            refine wpAnyH_take (i := 23) (v := undef) rfl (by kernel_rfl) (by kernel_rfl) (by kernel_rfl) (fun _ _ _ h => absurd h.1 (by simp)) (.inr ⟨by rfl, rfl⟩) hHeld ?_
            try simp only [Act.put, List.getElem_toArray, List.getElem_cons_zero, List.getElem_cons_succ, List.setIfInBounds_toArray, List.set_cons_zero, List.set_cons_succ]
            refine wpAnyH_take (i := 24) (v := undef) rfl (by kernel_rfl) (by kernel_rfl) (by kernel_rfl) (fun _ _ _ h => absurd h.1 (by simp)) (.inr ⟨by rfl, rfl⟩) hHeld ?_
            try simp only [Act.put, List.getElem_toArray, List.getElem_cons_zero, List.getElem_cons_succ, List.setIfInBounds_toArray, List.set_cons_zero, List.set_cons_succ]
            refine wpAnyH_take (i := 25) (v := undef) rfl (by kernel_rfl) (by kernel_rfl) (by kernel_rfl) (fun _ _ _ h => absurd h.1 (by simp)) (.inr ⟨by rfl, rfl⟩) hHeld ?_
            try simp only [Act.put, List.getElem_toArray, List.getElem_cons_zero, List.getElem_cons_succ, List.setIfInBounds_toArray, List.set_cons_zero, List.set_cons_succ]
            refine wpAnyH_take (i := 26) (v := undef) rfl (by kernel_rfl) (by kernel_rfl) (by kernel_rfl) (fun _ _ _ h => absurd h.1 (by simp)) (.inr ⟨by rfl, rfl⟩) hHeld ?_
            try simp only [Act.put, List.getElem_toArray, List.getElem_cons_zero, List.getElem_cons_succ, List.setIfInBounds_toArray, List.set_cons_zero, List.set_cons_succ]
            refine wpAnyH_take (i := 27) (v := undef) rfl (by kernel_rfl) (by kernel_rfl) (by kernel_rfl) (fun _ _ _ h => absurd h.1 (by simp)) (.inr ⟨by rfl, rfl⟩) hHeld ?_
            try simp only [Act.put, List.getElem_toArray, List.getElem_cons_zero, List.getElem_cons_succ, List.setIfInBounds_toArray, List.set_cons_zero, List.set_cons_succ]
            refine wpAnyH_take (i := 28) (v := undef) rfl (by kernel_rfl) (by kernel_rfl) (by kernel_rfl) (fun _ _ _ h => absurd h.1 (by simp)) (.inr ⟨by rfl, rfl⟩) hHeld ?_
            try simp only [Act.put, List.getElem_toArray, List.getElem_cons_zero, List.getElem_cons_succ, List.setIfInBounds_toArray, List.set_cons_zero, List.set_cons_succ]
            refine wpAnyH_take (i := 29) (v := .bool true) rfl (by kernel_rfl) (by kernel_rfl) (by kernel_rfl) (fun _ _ _ h => absurd h.1 (by simp)) (.inl ⟨by rfl, fun _ _ => by go_simp⟩) hHeld ?_
            try simp only [Act.put, List.getElem_toArray, List.getElem_cons_zero, List.getElem_cons_succ, List.setIfInBounds_toArray, List.set_cons_zero, List.set_cons_succ]
            refine wpAnyH_done (by kernel_rfl) ?_ _
            refine ⟨rfl, ?_, hHeld⟩
            try rfl
          case hnext =>
            rintro _ w6 ⟨rfl, hb6⟩
            try simp only [Act.put, List.getElem_toArray, List.getElem_cons_zero, List.getElem_cons_succ, List.setIfInBounds_toArray, List.set_cons_zero, List.set_cons_succ]
            have HW6 := Aside0.mk (below_step HW5.out hb6)
            clear hb6 HCW HX HBX HW5
            go_wp2_with fail
            exact bodyPost_ret (v := .bool false) (by simp [results, Try.results20, go_sem]) rfl ⟨false, rfl, ⟨fun h => (by cases h), fun F => absurd (F.rows k hlt) (fun fr => c1 fr.k0)⟩, HL.out _ HW6.out⟩
      · obtain rfl : k = l.length := by omega
        have HBX := Aside0.mk (blk_below HBX0.out HW.out)
        have b0 := Box.cell HBX.out 0 (.slice A l.length c) rfl
        have HCT := Aside0.mk (contains_any A c l hl hlen hl1 w.heap.size wr HBX.out (Kd.C_below HC.out HW.out))
        clear hl
        go_wp2_with fail
        refine HCT.out.mono ?_
        rintro e w6 ⟨r, rfl, hr, hb6⟩
        have HW6 := Aside0.mk (below_step HW.out hb6)
        have HR := Aside0.mk hr
        clear hr hb6 b0 HW
        go_wp2_with fail
        refine bodyPost_ret (v := .bool (!decide (0 ≤ r))) (by simp [results, Try.results20, go_sem]) rfl ⟨_, rfl, ?_, HL.out _ HW6.out⟩
        rw [Bool.not_eq_true', decide_eq_false_iff_not, HR.out]
        exact ⟨fun h => ⟨c0, HZ.out, fun j hj => Classical.byContradiction (fun hn => h ⟨j, hj, hn⟩)⟩, fun F ⟨j, hj, hn⟩ => hn (F.sums j hj)⟩
  · have i0 : decide ((1000 : Int) < (l.length : Int)) = true := decide_eq_true (by omega)
    have i00 : decide (1000 < l.length) = true := decide_eq_true (by omega)
    go_enter Try.func20, Try.ntmps20
    go_wp2_with fail
    exact bodyPost_ret (v := .bool false) (by simp [results, Try.results20, go_sem]) rfl ⟨false, rfl, ⟨fun h => (by cases h), fun F => absurd F.len c0⟩, HL.out _ (Below.refl _ _)⟩
#print axioms afit_any
end Go.Proofs.Ytnedmaddjikmkaa.P

