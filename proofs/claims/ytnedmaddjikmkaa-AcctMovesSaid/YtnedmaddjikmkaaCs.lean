import Derived.StillTail
import Derived.StillTailTactics
import Derived.OrdersIn
import Derived.TacticsIn
import Derived.Test.YtnedmaddjikmkaaWs
/- Blocks of cells in memory: a whole block is read, and written. -/
namespace Go.Proofs.Ytnedmaddjikmkaa.P
set_option linter.unusedVariables false
set_option linter.unusedSimpArgs false
open Go.RowKit Go.Proofs.YtnedmaddjikmkaaW.PrintWords
def Box (W : World) (g : Nat) (t : TypeId) (cs : Array Value) : Prop := W.heap[g]? = some (.cells cs t (0, 0))
theorem Box.cell {W : World} {g : Nat} {t : TypeId} {cs : Array Value} (h : Box W g t cs) (k : Nat) (v : Value) (hk : cs[k]? = some v) : W.cell? ⟨g, k, none⟩ = some v := (blk_cell h k).trans hk
theorem Box.free {W : World} {g : Nat} {t : TypeId} {cs : Array Value} (h : Box W g t cs) (k : Nat) : W.frozen? ⟨g, k, none⟩ = false := blk_frozen h k
theorem Box.lt {W : World} {g : Nat} {t : TypeId} {cs : Array Value} (h : Box W g t cs) : g < W.heap.size := blk_lt h
/-- What a step leaves: all blocks but one, and nothing outside memory. -/
structure But (g : Nat) (W W' : World) : Prop where
  os : W'.os = W.os
  tape : W'.tape = W.tape
  output : W'.output = W.output
  size : W.heap.size ≤ W'.heap.size
  block : ∀ i, i < W.heap.size → i ≠ g → W'.heap[i]? = W.heap[i]?
theorem But.refl (g : Nat) (W : World) : But g W W := ⟨rfl, rfl, rfl, Nat.le_refl _, fun _ _ _ => rfl⟩
theorem But.trans {g : Nat} {A B C : World} (h : But g A B) (k : But g B C) : But g A C :=
  ⟨k.os.trans h.os, k.tape.trans h.tape, k.output.trans h.output, Nat.le_trans h.size k.size, fun i hi hn => (k.block i (Nat.lt_of_lt_of_le hi h.size) hn).trans (h.block i hi hn)⟩
theorem But.of_below {g : Nat} {A B : World} (h : Below A.heap.size A B) : But g A B := ⟨h.os, h.tape, h.output, h.size, fun i hi _ => h.block i hi⟩
theorem But.below {g n : Nat} {w A B : World} (hw : Below n w A) (h : But g A B) (hn : n ≤ g) (hnw : n ≤ w.heap.size) : Below n w B :=
  ⟨h.os.trans hw.os, h.tape.trans hw.tape, h.output.trans hw.output, Nat.le_trans hw.size h.size, fun i hi => (h.block i (by have := hw.size; omega) (by omega)).trans (hw.block i hi)⟩
theorem But.box {g : Nat} {A B : World} (h : But g A B) {g' : Nat} {t : TypeId} {cs : Array Value} (hb : Box A g' t cs) (hn : g' ≠ g) : Box B g' t cs := (h.block g' hb.lt hn).trans hb
section
variable {F : Fence} {m : Nat} {P : Program} {ops : Array Oper} {rest : List Oper} {o : Oper} {a : Act} {w : World} {Q : Exit → Act → World → Prop}
theorem load_cs (hgd : o.guard = none) (ty : TypeId) (x : Operand) (ho : o.op = .load ty x) (g : Nat) (hx : a.eval x = .pointer (some ⟨g, 0, none⟩)) (t : TypeId) (cs : Array Value) (d : TypeDesc)
    (hK : Box w g t cs) (hu : P.underlying ty = some d) (hd : (match d with | .struct _ | .array _ _ => true | _ => false) = true) (hi : (P.info? ty).map (·.size) = some cs.size)
    (h : wpList P ops Q rest (a.put o.dst (.agg cs)) w) : wpList P ops Q (o :: rest) a w :=
  wpList_load_row hgd ty x ho g hx t cs (0, 0) d hK hu hd hi h
theorem store_cs (hgd : o.guard = none) (ty : TypeId) (x y : Operand) (ho : o.op = .store ty x y) (g : Nat) (hx : a.eval x = .pointer (some ⟨g, 0, none⟩)) (t : TypeId) (cs0 cs : Array Value)
    (hy : a.eval y = .agg cs) (hK : Box w g t cs0) (hs : cs.size = cs0.size) (hi : (P.info? ty).map (·.size) = some cs.size) (h1 : (cs.all fun x => x.oneCell') = true)
    (h : ∀ w1, Box w1 g t cs → But g w w1 → w1.heap.size = w.heap.size → wpList P ops Q rest (a.put o.dst undef) w1) : wpList P ops Q (o :: rest) a w := by
  refine wpList_store_row hgd ty x y ho g cs hx hy t cs0 hK hi (by omega) h1 (h _ ?_ ?_ ?_)
  · exact setRow_heap w g cs0 cs t (0, 0) hK
  · exact ⟨rfl, rfl, rfl, by simp, fun i hi hn => setRow_other w g i cs hn⟩
  · simp
end
end Go.Proofs.Ytnedmaddjikmkaa.P


