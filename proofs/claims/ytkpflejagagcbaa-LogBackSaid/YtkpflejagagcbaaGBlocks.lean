import Derived.Test.YtkpflejagagcbaaBld
import Derived.Test.YtkpflejagagcbaaWs
import Derived.Laws.MakeOwn
import Derived.Laws.OwnMore
import Derived.Lib.BufferWrite
import Derived.Outline
import Derived.Deep.QuietTactic
import Derived.BigQuiet
import Derived.BigRegion
import Derived.StillTailTactics
namespace Go.Proofs.Ytkpflejagagcbaa.P
set_option linter.unusedVariables false
open Go.RowKit Go.Proofs.YtkpflejagagcbaaW.PrintWords
/-- The cells of a row of bytes. -/
def bs (L : List UInt8) : Array Value := (Lib.byteCells L).toArray
def gb (L : List UInt8) (k : Nat) : UInt8 := L.getD k 0
theorem bs_size (L : List UInt8) : (bs L).size = L.length := by simp [bs, Lib.byteCells]
theorem bs_get (L : List UInt8) (k : Nat) (h : k < L.length) : (bs L)[k]? = some (.int .u8 ((gb L k).toNat : Int)) := by
  simp [bs, gb, Lib.byteCells, List.getD, h]
theorem bs_set (L : List UInt8) (k : Nat) (b : UInt8) : (bs L).setIfInBounds k (.int .u8 (b.toNat : Int)) = bs (L.set k b) := by
  simp [bs, Lib.byteCells, List.map_set]
theorem bs_made (m : Nat) : madeCells #[.int .u8 0] m = bs (List.replicate m 0) := by
  apply Array.toList_inj.1
  rw [toList_madeCells_one]
  simp [bs, Lib.byteCells]
def HoldsB (W : World) (g : Nat) (L : List UInt8) : Prop := W.heap[g]? = some (.cells (bs L) 5 (0, 0))
theorem HoldsB.cell {W : World} {g : Nat} {L : List UInt8} (h : HoldsB W g L) (k : Nat) (hk : k < L.length) : W.cell? ⟨g, k, none⟩ = some (.int .u8 ((gb L k).toNat : Int)) :=
  (blk_cell h k).trans (bs_get L k hk)
theorem HoldsB.free {W : World} {g : Nat} {L : List UInt8} (h : HoldsB W g L) (k : Nat) : W.frozen? ⟨g, k, none⟩ = false := blk_frozen h k
theorem HoldsB.set {W : World} {g : Nat} {L : List UInt8} (h : HoldsB W g L) (k : Nat) (b : UInt8) : HoldsB (W.setCell ⟨g, k, none⟩ (.int .u8 (b.toNat : Int))) g (L.set k b) := by
  unfold HoldsB
  rw [← bs_set]
  exact blk_set h k _
theorem info5 : (Try.prog.info? 5).map (fun i => (i.zero, i.size, i.bytes)) = some (some (.int .u8 0), 1, 1) := by kernel_rfl
/-- What make([]byte, m) does. -/
theorem run_make_bytes (m : Nat) (hm : m ≤ 1000000) (W : World) :
    (Instr.makeSlice 37 (.int .i64 (m : Int)) (.int .i64 (m : Int))).run Try.prog W = .ok (.slice (some ⟨W.heap.size, 0, none⟩) m m) (W.alloc (.cells (bs (List.replicate m 0)) 5)) := by
  obtain ⟨i0, hi, hz0, hz1, hz2⟩ := info_parts info5
  have h := run_make (P := Try.prog) W 37 5 i0 (.int .u8 0) Try.underlying37 hi hz0 .i64 .i64 m m (by omega) (Int.le_refl _) (by rw [hz2]; omega) (by omega)
  rw [h, hz1]
  simp only [Int.toNat_natCast, Nat.mul_one]
  rw [show (Value.int IntKind.u8 0).cells = #[.int .u8 0] from rfl, bs_made]
/-- What copy(b, s) does. -/
theorem run_copy_bytes (g m : Nat) (s : ByteArray) (L : List UInt8) (W : World) (hg : HoldsB W g L) (hL : L.length = m) (hs : s.size ≤ m) (ty : TypeId) :
    (Builtin.copy_ #[37, 9] ty #[.slice (some ⟨g, 0, none⟩) m m, .string s]).run Try.prog W = .ok (goInt s.size) (W.setRow g (bs (s.data.toList ++ L.drop s.size))) := by
  rw [Lib.run_copy_row_string W 37 9 ty 5 g 0 m m s (bs L) 5 Try.underlying37 (by kernel_rfl) hg hs (by rw [bs_size]; omega)]
  congr 2
  simp [bs, Lib.byteCells, List.map_drop]
theorem below_setRow {w W : World} (h : Below w.heap.size w W) {g : Nat} (hg : w.heap.size ≤ g) (cs : Array Value) : Below w.heap.size w (W.setRow g cs) :=
  ⟨h.os, h.tape, h.output, by rw [size_setRow]; exact h.size, fun i hi => (setRow_other W g i cs (by omega)).trans (h.block i hi)⟩
theorem or_byte (a b : UInt8) : bits .or .u8 (a.toNat : Int) (b.toNat : Int) = ((a ||| b).toNat : Int) := by
  have ha := a.toNat_lt
  have hb := b.toNat_lt
  rw [(bits_nat .u8 8 (by decide) wraps_u8 a.toNat b.toNat (by simpa using ha) (by simpa using hb)).2]
  simp
/-- A text's bytes, filled up. -/
def padM (n : Nat) : Nat := n + 136 - n % 136
def pad0 (s : ByteArray) : List UInt8 := s.data.toList ++ (List.replicate (padM s.size) 0).drop s.size
def pad1 (s : ByteArray) : List UInt8 := (pad0 s).set s.size (gb (pad0 s) s.size ||| 1)
def pad (s : ByteArray) : List UInt8 := (pad1 s).set (padM s.size - 1) (gb (pad1 s) (padM s.size - 1) ||| 128)
theorem padM_gt (n : Nat) : n < padM n ∧ padM n ≤ n + 136 := by unfold padM; omega
theorem pad0_len (s : ByteArray) : (pad0 s).length = padM s.size := by
  have := padM_gt s.size
  simp [pad0]; omega
theorem pad1_len (s : ByteArray) : (pad1 s).length = padM s.size := by rw [pad1, List.length_set, pad0_len]
theorem pad_len (s : ByteArray) : (pad s).length = padM s.size := by rw [pad, List.length_set, pad1_len]
set_option maxHeartbeats 1000000 in
theorem blocks_any (s : ByteArray) (hs : s.size ≤ 100000) (w : World) :
    Calls Try.prog 20 #[.string s] w fun e w' => e = .returned (.func (.func 27) #[] #[.pointer (some ⟨w.heap.size + 1, 0, none⟩)]) ∧
      w'.cell? ⟨w.heap.size + 1, 0, none⟩ = some (.slice (some ⟨w.heap.size, 0, none⟩) (padM s.size) (padM s.size)) ∧ w'.frozen? ⟨w.heap.size + 1, 0, none⟩ = false ∧ HoldsB w' w.heap.size (pad s) ∧ w.heap.size + 1 < w'.heap.size ∧ Below w.heap.size w w' := by
  obtain ⟨n, hn⟩ : ∃ n, s.size = n := ⟨_, rfl⟩
  obtain ⟨r, hr⟩ : ∃ r, n % 136 = r := ⟨_, rfl⟩
  obtain ⟨m, hm⟩ : ∃ m, n + 136 - r = m := ⟨_, rfl⟩
  have hpm : padM s.size = m := by rw [padM, hn, hr, hm]
  have hp0 : pad0 s = s.data.toList ++ (List.replicate m 0).drop s.size := by rw [pad0, hpm]
  have hp1 : pad1 s = (pad0 s).set s.size (gb (pad0 s) s.size ||| 1) := rfl
  have hp2 : pad s = (pad1 s).set (padM s.size - 1) (gb (pad1 s) (padM s.size - 1) ||| 128) := rfl
  rw [hpm] at hp2 ⊢
  rw [hn] at hp1
  have HP := Aside0.mk (And.intro hp0 (And.intro hp1 hp2))
  clear hp0 hp1 hp2 hpm
  have f1 : (n : Int) % 136 = (r : Int) := by omega
  have f2 : (n : Int) + 136 - (r : Int) = (m : Int) := by omega
  have hr136 : r < 136 := by omega
  have hmn : n < m := by omega
  rw [hn] at hs
  have hmk := run_make_bytes m (by omega)
  clear hr hm
  go_enter Try.func20, Try.ntmps20
  go_wp2_with fail
  have T := two w (.cells (bs (List.replicate m 0)) 5) (.cells #[.slice (some ⟨w.heap.size, 0, none⟩) m m] 37)
  rw [run_copy_bytes w.heap.size m s (List.replicate m 0) _ T.1 (by simp) (by omega)]
  have hG := setRow_heap _ w.heap.size (bs (List.replicate m 0)) (bs (s.data.toList ++ (List.replicate m 0).drop s.size)) 5 (0, 0) T.1
  have hX := (setRow_other ((w.alloc (.cells (bs (List.replicate m 0)) 5)).alloc (.cells #[.slice (some ⟨w.heap.size, 0, none⟩) m m] 37)) w.heap.size (w.heap.size + 1) (bs (s.data.toList ++ (List.replicate m 0).drop s.size)) (by omega)).trans T.2.1
  have hB := below_setRow (w := w) T.2.2 (g := w.heap.size) (Nat.le_refl _) (bs (s.data.toList ++ (List.replicate m 0).drop s.size))
  generalize World.setRow _ _ _ = W2 at *
  simp only [Result.andThen]
  rw [Oper.upon_value]
  have hls : (s.data.toList ++ (List.replicate m 0).drop s.size).length = m := by simp; omega
  rw [hn] at hG hls
  obtain ⟨hp0, hp1, hp2⟩ := HP.out
  rw [hn] at hp0
  rw [← hp0] at hG hls
  clear hp0 HP
  generalize pad0 s = L at *
  obtain ⟨v1, hv1⟩ : ∃ v1, gb L n ||| 1 = v1 := ⟨_, rfl⟩
  rw [hv1] at hp1
  rw [hp1] at hp2
  obtain ⟨v2, hv2⟩ : ∃ v2, gb (L.set n v1) (m - 1) ||| 128 = v2 := ⟨_, rfl⟩
  rw [hv2] at hp2
  have e1 : bits .or .u8 ((gb L n).toNat : Int) 1 = (v1.toNat : Int) := by rw [← hv1]; exact or_byte _ 1
  have e2 : bits .or .u8 ((gb (L.set n v1) (m - 1)).toNat : Int) 128 = (v2.toNat : Int) := by rw [← hv2]; exact or_byte _ 128
  have HG := Aside0.mk (show HoldsB W2 w.heap.size L from hG)
  have HX := Aside0.mk hX
  have HB := Aside0.mk hB
  have HL := Aside0.mk hls
  have HP := Aside0.mk hp2
  clear hG hX hB hls hmk T hp1 hp2 hv1 hv2
  have HG1 := Aside0.mk (HG.out.set n v1)
  have HG2 := Aside0.mk (HG1.out.set (m - 1) v2)
  have x0 := (blk_cell HX.out 0).trans (show _ = some (Value.slice (some ⟨w.heap.size, 0, none⟩) m m) from rfl)
  have b0 := HG.out.cell n (by rw [HL.out]; omega)
  have b1 := HG.out.free n
  have b2 := HG1.out.cell (m - 1) (by rw [List.length_set, HL.out]; omega)
  have b3 := HG1.out.free (m - 1)
  go_wp2
  have hx0 := blk_far (blk_far HX.out (p := ⟨w.heap.size, n, none⟩) (by show w.heap.size + 1 ≠ w.heap.size; omega) (.int .u8 (v1.toNat : Int))) (p := ⟨w.heap.size, m - 1, none⟩) (by show w.heap.size + 1 ≠ w.heap.size; omega) (.int .u8 (v2.toNat : Int))
  refine bodyPost_ret (v := .func (.func 27) #[] #[.pointer (some ⟨w.heap.size + 1, 0, none⟩)]) (by simp [results, Try.results20, go_sem]) rfl ⟨rfl, (blk_cell hx0 0).trans rfl, blk_frozen hx0 0, ?_, ?_, ?_⟩
  · rw [HP.out]; exact HG2.out
  · exact blk_lt hx0
  · exact below_set (below_set HB.out (Nat.le_refl _)) (Nat.le_refl _)
end Go.Proofs.Ytkpflejagagcbaa.P
