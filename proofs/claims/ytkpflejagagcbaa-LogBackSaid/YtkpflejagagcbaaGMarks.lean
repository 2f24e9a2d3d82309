import Derived.Test.YtkpflejagagcbaaGTurn
import Derived.Test.YtkpflejagagcbaaWs
import Derived.Outline
import Derived.Deep.QuietTactic
import Derived.BigQuiet
import Derived.BigRegion
import Derived.StillTailTactics
namespace Go.Proofs.Ytkpflejagagcbaa.P
set_option linter.unusedVariables false
set_option linter.unusedSimpArgs false
open Go.RowKit Go.Proofs.YtkpflejagagcbaaW.PrintWords
theorem zeros24 : #[Value.int .u64 0, .int .u64 0, .int .u64 0, .int .u64 0, .int .u64 0, .int .u64 0, .int .u64 0, .int .u64 0, .int .u64 0, .int .u64 0, .int .u64 0, .int .u64 0, .int .u64 0, .int .u64 0, .int .u64 0, .int .u64 0, .int .u64 0, .int .u64 0, .int .u64 0, .int .u64 0, .int .u64 0, .int .u64 0, .int .u64 0, .int .u64 0] = ws (List.replicate 24 0) := by rfl
def ln (l : Nat) : Nat := if 255 < 2 * l then (2 * l) ^^^ 369 else 2 * l
theorem ln_lt (l : Nat) (h : l < 256) : ln l < 256 := (by decide +kernel : ∀ l < 256, ln l < 256) l h
def mkI (K : List W64) (l i : Nat) : Nat → List W64 × Nat
  | 0 => (K, l)
  | j + 1 => (if (mkI K l i j).2 % 2 = 1 then (mkI K l i j).1.set i (gw (mkI K l i j).1 i ||| 1#64 <<< (2 ^ j - 1)) else (mkI K l i j).1, ln (mkI K l i j).2)
def mkO : Nat → List W64 × Nat
  | 0 => (List.replicate 24 0, 1)
  | i + 1 => mkI (mkO i).1 (mkO i).2 i 7
theorem mkI_len (K : List W64) (l i j : Nat) : (mkI K l i j).1.length = K.length := by
  induction j with
  | zero => rfl
  | succ j ih => rw [mkI]; simp only []; split <;> simp [ih]
theorem mkI_lt (K : List W64) (l i j : Nat) (h : l < 256) : (mkI K l i j).2 < 256 := by
  induction j with
  | zero => exact h
  | succ j ih => rw [mkI]; exact ln_lt _ ih
theorem mkO_len (i : Nat) : (mkO i).1.length = 24 := by induction i with | zero => rfl | succ i ih => rw [mkO, mkI_len, ih]
theorem mkO_lt (i : Nat) : (mkO i).2 < 256 := by induction i with | zero => decide | succ i ih => rw [mkO]; exact mkI_lt _ _ _ _ ih
theorem ixor (a : Nat) (h : a < 512) : bits .xor .i64 (a : Int) 369 = ((a ^^^ 369 : Nat) : Int) := by
  have ha' : a % 2 ^ 64 = a := Nat.mod_eq_of_lt (by omega)
  have hx : a ^^^ 369 < 2 ^ 10 := Nat.xor_lt_two_pow (by omega) (by decide)
  show IntKind.i64.wrap ((BitVec.ofInt 64 (a : Int) ^^^ BitVec.ofInt 64 ((369 : Nat) : Int)).toNat : Int) = _
  rw [BitVec.ofInt_natCast, BitVec.ofInt_natCast, BitVec.toNat_xor, BitVec.toNat_ofNat, BitVec.toNat_ofNat, ha', Nat.mod_eq_of_lt (show 369 < 2 ^ 64 by decide), IntKind.wrap_i64]
  omega
theorem mark_eq (j : Nat) (h : j < 7) : IntKind.u64.wrap (2 ^ min (IntKind.u64.wrap (IntKind.u64.wrap (2 ^ j) - 1)).toNat 64) = vw (1#64 <<< (2 ^ j - 1)) := by
  rcases (by omega : j = 0 ∨ j = 1 ∨ j = 2 ∨ j = 3 ∨ j = 4 ∨ j = 5 ∨ j = 6) with rfl | rfl | rfl | rfl | rfl | rfl | rfl <;> decide
theorem lnI (m : Nat) (h : m < 256) (h2 : 255 < (m : Int) * 2) : bits .xor .i64 ((m : Int) * 2) 369 = (ln m : Nat) := by
  have := ixor (2 * m) (by omega)
  rw [ln, if_pos (by omega), ← this, show ((2 * m : Nat) : Int) = (m : Int) * 2 by omega]
theorem lnI' (m : Nat) (h2 : (m : Int) * 2 ≤ 255) : (m : Int) * 2 = (ln m : Nat) := by
  rw [ln, if_neg (by omega)]; omega
set_option maxHeartbeats 1000000 in
theorem marks_any (w : World) :
    Calls Try.prog 25 #[] w fun e w' => e = .returned (.agg (ws (mkO 24).1)) ∧ Below w.heap.size w w' := by
  have hi : (Try.prog.info? 51).map (·.size) = some 24 := by kernel_rfl
  have Hi := Aside0.mk hi
  clear hi
  go_enter Try.func25, Try.ntmps25
  go_wp2_with fail
  have T := two w (.cells (ws (List.replicate 24 0)) 51) (.cells (ws (List.replicate 24 0)) 51)
  rw [← zeros24] at T
  go_loopw [2, 3] (fun s2 i wr => ∃ k : Nat, k ≤ 24 ∧ i = .int .i64 k ∧ s2 = .int .i64 ((mkO k).2 : Nat) ∧ Holds wr w.heap.size 51 (List.replicate 24 0) ∧ Holds wr (w.heap.size + 1) 51 (mkO k).1 ∧ Below w.heap.size w wr) (fun _ i _ => 24 - (intOf i).toNat)
  case atStart =>
    exact ⟨0, by omega, rfl, rfl, T.1, T.2.1, T.2.2⟩
  case round =>
    clear T
    obtain ⟨k, hk, rfl, rfl, hr, hc, hb⟩ := hrel
    have HR := Aside0.mk hr
    have HC := Aside0.mk hc
    have HB := Aside0.mk hb
    clear hr hc hb
    by_cases hlt : k < 24
    · have hst : mkO (k + 1) = mkI (mkO k).1 (mkO k).2 k 7 := rfl
      have hl := mkO_len k
      have hlt2 := mkO_lt k
      have HST := Aside0.mk hst
      clear hst
      generalize mkO k = S at *
      obtain ⟨K, l⟩ := S
      have HL := Aside0.mk hl
      have HLT := Aside0.mk hlt2
      clear hl hlt2
      go_wp2
      go_loopw [2, 4] (fun s2 i wr => ∃ j : Nat, j ≤ 7 ∧ i = .int .i64 j ∧ s2 = .int .i64 ((mkI K l k j).2 : Nat) ∧ Holds wr w.heap.size 51 (List.replicate 24 0) ∧ Holds wr (w.heap.size + 1) 51 (mkI K l k j).1 ∧ Below w.heap.size w wr) (fun _ i _ => 7 - (intOf i).toNat)
      case atStart =>
        exact ⟨0, by omega, rfl, rfl, HR.out, HC.out, HB.out⟩
      case round =>
        clear HR HC HB
        obtain ⟨j, hj, rfl, rfl, hr, hc, hb⟩ := hrel
        have HR := Aside0.mk hr
        have HC := Aside0.mk hc
        have HB := Aside0.mk hb
        clear hr hc hb
        by_cases hlt' : j < 7
        · have hI := mkI_len K l k j
          have hI2 := mkI_lt K l k j HLT.out
          rw [HL.out] at hI
          have hst : mkI K l k (j + 1) = (if (mkI K l k j).2 % 2 = 1 then (mkI K l k j).1.set k (gw (mkI K l k j).1 k ||| 1#64 <<< (2 ^ j - 1)) else (mkI K l k j).1, ln (mkI K l k j).2) := rfl
          have HJT := Aside0.mk hst
          clear hst
          generalize mkI K l k j = T at *
          obtain ⟨T, m⟩ := T
          have c0 := HC.out.cell k (by simp only [] at hI ⊢; omega)
          have c1 := HC.out.free k
          have HJ := Aside0.mk hI
          clear hI
          simp only [] at hI2
          by_cases ho : m % 2 = 1
          · have f1 : (m : Int) % 2 = 1 := by omega
            have HO := Aside0.mk ho
            clear ho
            go_wp2
            all_goals
              have hst1 : mkI K l k (j + 1) = _ := HJT.out
              simp only [HO.out, if_true, if_false] at hst1
              refine ⟨⟨j + 1, by omega, by go_num, ?_, ?_, ?_, ?_⟩, by simp [intOf]; omega⟩
            all_goals first
              | (rw [hst1]; exact HR.out)
              | exact HR.out
              | (rw [hst1]; exact HC.out)
              | (rw [mark_eq j hlt', vw_or, hst1]; exact HC.out.set k _)
              | (exact HR.out.far (by simp) _)
              | exact HB.out
              | (exact (below_set HB.out (by show w.heap.size ≤ w.heap.size + 1; omega)))
              | (rw [hst1]; show _ = Value.int IntKind.i64 ((ln m : Nat) : Int); rw [← lnI' m (by assumption)])
              | (rw [hst1]; show _ = Value.int IntKind.i64 ((ln m : Nat) : Int); rw [← lnI m hI2 (by assumption)])
          · have f1 : (m : Int) % 2 = 0 := by omega
            have HO := Aside0.mk ho
            clear ho
            go_wp2
            all_goals
              have hst1 : mkI K l k (j + 1) = _ := HJT.out
              simp only [HO.out, if_true, if_false] at hst1
              refine ⟨⟨j + 1, by omega, by go_num, ?_, ?_, ?_, ?_⟩, by simp [intOf]; omega⟩
            all_goals first
              | (rw [hst1]; exact HR.out)
              | exact HR.out
              | (rw [hst1]; exact HC.out)
              | (rw [mark_eq j hlt', vw_or, hst1]; exact HC.out.set k _)
              | (exact HR.out.far (by simp) _)
              | exact HB.out
              | (exact (below_set HB.out (by show w.heap.size ≤ w.heap.size + 1; omega)))
              | (rw [hst1]; show _ = Value.int IntKind.i64 ((ln m : Nat) : Int); rw [← lnI' m (by assumption)])
              | (rw [hst1]; show _ = Value.int IntKind.i64 ((ln m : Nat) : Int); rw [← lnI m hI2 (by assumption)])
        · obtain rfl : j = 7 := by omega
          rw [show ((7 : Nat) : Int) = 7 from rfl]
          rw [← HST.out] at HC ⊢
          clear hj hlt' HST
          obtain ⟨T, hT⟩ : ∃ T, mkO (k + 1) = T := ⟨_, rfl⟩
          rw [hT] at HC ⊢
          have HST := Aside0.mk hT
          clear hT
          obtain ⟨T, m⟩ := T
          go_wp2
          refine ⟨⟨k + 1, by omega, by go_num, by rw [HST.out], HR.out, by rw [HST.out]; exact HC.out, HB.out⟩, by simp [intOf]; omega⟩
    · obtain rfl : k = 24 := by omega
      have hA25 : (mkO 24).1.length = 24 := mkO_len 24
      obtain ⟨A, hA⟩ : ∃ A, mkO 24 = A := ⟨_, rfl⟩
      rw [hA] at HC hA25
      rw [hA]
      obtain ⟨A, A1⟩ := A
      have HA25 := Aside0.mk hA25
      have HE := Aside0.mk hA
      clear hA25 hlt hk hA
      rw [show ((24 : Nat) : Int) = 24 from rfl]
      go_wp2_with (first | (refine load_ws rfl 51 _ rfl (w.heap.size+1) rfl 51 A 24 _ HC.out HA25.out Try.underlying51 rfl Hi.out ?_) | (refine store_ws rfl 51 _ _ rfl w.heap.size rfl 51 (List.replicate 24 0) A 24 rfl HR.out (by simp) HA25.out Hi.out ?_; intro w1 hR hB hF hS; have HR1 := Aside0.mk hR; have HB1 := Aside0.mk hB; clear hR hB hF hS))
      refine ret_ws rfl _ _ w.heap.size 51 A rfl HR1.out HA25.out Try.underlying51 rfl Hi.out rfl ⟨by rw [HE.out], HB.out.trans (HB1.out _ (by omega))⟩
end Go.Proofs.Ytkpflejagagcbaa.P
