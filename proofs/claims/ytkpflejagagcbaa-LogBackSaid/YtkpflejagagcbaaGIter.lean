import Derived.RangeFuncNested
import Derived.RangeFuncBound
import Derived.RangeFuncCalls
import Derived.RangeFuncLeaves
import Derived.RangeFuncBox
import Derived.Shelf.Abstract
import Derived.Shelf.RegionOpen
import Derived.WalkKit
import Derived.OwnWalkIn
import Derived.TacticsInMore
import Derived.LoopNIn
import Derived.LoopIn
import Derived.Laws.IdiomStrings
import Derived.Test.YtkpflejagagcbaaGBlocks
namespace Go.Proofs.Ytkpflejagagcbaa.P
set_option linter.unusedVariables false
open Go.RowKit Go.Shelf Go.Proofs.YtkpflejagagcbaaW.PrintWords
attribute [local go_sem] Oper.semAt_some
abbrev Blk := { x : ByteArray // x.size = 136 }
def blkL (L : List UInt8) (k : Nat) : List UInt8 := (L.drop (136 * k) ++ List.replicate 136 0).take 136
theorem blkL_len (L : List UInt8) (k : Nat) : (blkL L k).length = 136 := by simp [blkL]
theorem blkL_eq (L : List UInt8) (k : Nat) (h : 136 * k + 136 ≤ L.length) : blkL L k = (L.drop (136 * k)).take 136 := by
  rw [blkL, List.take_append_of_le_length (by simp; omega)]
/-- The k-th block of a row. -/
def blkOf (L : List UInt8) (k : Nat) : Blk := ⟨⟨(blkL L k).toArray⟩, by show (blkL L k).toArray.size = 136; simp [blkL_len]⟩
def upto (L : List UInt8) (k : Nat) : List Blk := (List.range k).map (blkOf L)
theorem upto_succ (L : List UInt8) (k : Nat) : upto L (k + 1) = upto L k ++ [blkOf L k] := by simp [upto, List.range_succ]
theorem upto_length (L : List UInt8) (k : Nat) : (upto L k).length = k := by simp [upto]
theorem conv_block (g c k : Nat) (L : List UInt8) (W : World) (h : HoldsB W g L) (hk : 136 * k + 136 ≤ L.length) :
    (convert 37 9 (.slice (some ⟨g, 136 * k, none⟩) 136 c)).run Try.prog W = .ok (.string (blkOf L k).1) W := by
  have hl : ((L.drop (136 * k)).take 136).length = 136 := by simp; omega
  have := run_convert_bytes_back (P := Try.prog) W 37 9 5 ⟨g, 136 * k, none⟩ c ((L.drop (136 * k)).take 136) Try.underlying37 Try.underlying5 Try.underlying9 (fun j hj => by
    rw [hl] at hj
    have hp : (⟨g, 136 * k, none⟩ : Addr).add j = ⟨g, 136 * k + j, none⟩ := by unfold Addr.add; split <;> simp_all
    rw [hp, h.cell _ (by omega)]
    simp [gb, List.getD, List.getElem?_eq_getElem (show 136 * k + j < L.length by omega)])
  rw [hl] at this
  rw [this, ← blkL_eq L k hk]
  rfl
/-- Two blocks lie as they lay. -/
def Keeps2 (g b : Nat) (W W' : World) : Prop := W'.heap[g]? = W.heap[g]? ∧ W'.heap[b]? = W.heap[b]?
theorem Keeps2.refl (g b : Nat) (W : World) : Keeps2 g b W W := ⟨rfl, rfl⟩
theorem Keeps2.trans {g b : Nat} {A B C : World} (h : Keeps2 g b A B) (k : Keeps2 g b B C) : Keeps2 g b A C := ⟨k.1.trans h.1, k.2.trans h.2⟩
theorem Keeps2.cell {g b : Nat} {A B : World} (h : Keeps2 g b A B) (k : Nat) : B.cell? ⟨b, k, none⟩ = A.cell? ⟨b, k, none⟩ := World.cell?_of_block h.2
set_option maxRecDepth 100000 in
set_option maxHeartbeats 2000000 in
theorem iter_in (F : Fence) (n : Nat) (h : F.fn 27) (hro : F.round = none) (hn : 1 ≤ n) (l Bs g q m : Nat) (L : List UInt8) (hm : m = 136 * q) (hL : L.length = m) (hq : q ≤ 1000) (J Jx : List Blk → World → Prop)
    (hY : ∀ pre x W, J pre W → pre.length < q → YieldAt F (n - 1) Try.prog l #[.string x.1] W fun e W' =>
      (e = .returned (.bool true) ∧ J (pre ++ [x]) W' ∧ Keeps2 g Bs W W') ∨ (e = .returned (.bool false) ∧ Jx (pre ++ [x]) W'))
    (W : World) (hBs : W.cell? ⟨Bs, 0, none⟩ = some (.slice (some ⟨g, 0, none⟩) m m)) (hc : HoldsB W g L) (h0 : J [] W) :
    CallsIn F n Try.prog 27 #[.func (.yield l) #[] #[], .pointer (some ⟨Bs, 0, none⟩)] W fun e W' => (∃ v, e = .returned v) ∧
      ((∃ ys, ys = upto L q ∧ J ys W') ∨ (∃ pre, (∃ k, k ≤ q ∧ pre = upto L k) ∧ Jx pre W')) := by
  refine callsIn_of_wp Try.func27 rfl h ?_ hro
  simp only [Try.ntmps27, List.size_toArray, List.length_cons, List.length_nil, Nat.reduceAdd, Nat.reduceSub, Array.replicate_succ, Array.replicate_zero, List.push_toArray, List.append_toArray, List.nil_append, List.cons_append]
  gi_wp2
  gi_loopw [3] (fun i wr => ∃ k : Nat, k ≤ q ∧ i = .int .i64 (136 * k : Nat) ∧ J (upto L k) wr ∧ Keeps2 g Bs W wr) (fun i _ => m - (intOf i).toNat)
  case atStart => exact ⟨0, by omega, rfl, h0, Keeps2.refl _ _ _⟩
  case round =>
    obtain ⟨k, hk, rfl, hJs, hnx⟩ := hrel
    have hb1 := (hnx.cell 0).trans hBs
    have hg1 : HoldsB wr g L := hnx.1.trans hc
    by_cases hlt : k < q
    · obtain ⟨p, hp⟩ : ∃ p, 136 * k = p := ⟨_, rfl⟩
      obtain ⟨p2, hp2⟩ : ∃ p, 136 * (k + 1) = p := ⟨_, rfl⟩
      have hcv := fun c (W : World) (h : HoldsB W g L) => conv_block g c k L W h (by omega)
      have hup := upto_succ L k
      have huq := upto_length L k
      obtain ⟨fn, tmps, assign, body, hy, hR⟩ := hY _ (blkOf L k) wr hJs (by rw [huq]; exact hlt)
      rw [hp] at hcv ⊢
      generalize blkOf L k = x at *
      have hcv' := fun c => hcv c wr hg1
      have hpm : p + 136 ≤ m := by omega
      have hm6 : m ≤ 136000 := by omega
      have hpp : (p : Int) + 136 = (p2 : Int) := by omega
      have h136 : p2 - p = 136 := by omega
      clear hcv hm
      gi_wp2
      refine hR.mono ?_
      rintro e W3 (⟨rfl, hJ3, hk3⟩ | ⟨rfl, hJx3⟩)
      · gi_wp2
        go_roundw
        case rel => exact ⟨k + 1, by omega, by rw [hp2], by rw [hup]; exact hJ3, hnx.trans hk3⟩
        case measure => simp [intOf]; omega
      · gi_wp2
        refine bodyPost_ret (results_none rfl _ _ _) rfl ?_
        exact ⟨⟨_, rfl⟩, .inr ⟨_, ⟨k + 1, by omega, hup.symm⟩, hJx3⟩⟩
    · obtain rfl : k = q := by omega
      gi_wp2
      go_end0
      exact ⟨⟨_, rfl⟩, .inl ⟨_, rfl, hJs⟩⟩
theorem iter_stops (F : Fence) (n : Nat) (h : F.fn 27) (hro : F.round = none) (hn : 1 ≤ n) (Bs g q m : Nat) (L : List UInt8) (w : World) (hm : m = 136 * q) (hL : L.length = m) (hq : q ≤ 1000) (hg : g < w.heap.size) (hB : Bs < w.heap.size)
    (hBs : w.cell? ⟨Bs, 0, none⟩ = some (.slice (some ⟨g, 0, none⟩) m m)) (hc : HoldsB w g L) :
    SeqStopsK F n Try.prog 27 #[.pointer (some ⟨Bs, 0, none⟩)] (fun x : Blk => #[.string x.1]) (Keeps2 g Bs) (fun ys => ys = upto L q) (fun pre => ∃ k, k ≤ q ∧ pre = upto L k) q w := by
  intro l J Jx W hW _ _ hY h0
  exact iter_in F n h hro hn l Bs g q m L hm hL hq J Jx hY W ((hW.cell (p := ⟨Bs, 0, none⟩) hB).trans hBs) ((hW.block g hg).trans hc) h0
end Go.Proofs.Ytkpflejagagcbaa.P
