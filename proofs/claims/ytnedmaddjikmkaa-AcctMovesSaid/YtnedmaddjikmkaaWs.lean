import Derived.Test.YtnedmaddjikmkaaV
import Derived.Laws.Rows
import Derived.Laws.Tables
/- Rows of words in memory: what is read, and what a store leaves. -/
namespace Go.Proofs.Ytnedmaddjikmkaa.P
set_option linter.unusedVariables false
set_option linter.unusedSimpArgs false
open Go.RowKit Go.Proofs.YtnedmaddjikmkaaW.PrintWords
/-- The cells of a row of words. -/
def ws (L : List W64) : Array Value := (L.map fun b => Value.int .u64 (vw b)).toArray
/-- The k-th word. -/
def gw (L : List W64) (k : Nat) : W64 := L.getD k 0
theorem ws_size (L : List W64) : (ws L).size = L.length := by simp [ws]
theorem ws_get (L : List W64) (k : Nat) (h : k < L.length) : (ws L)[k]? = some (.int .u64 (vw (gw L k))) := by
  simp [ws, gw, List.getD, h]
theorem ws_set (L : List W64) (k : Nat) (b : W64) : (ws L).setIfInBounds k (.int .u64 (vw b)) = ws (L.set k b) := by
  simp [ws, List.map_set]
theorem three (w : World) (a b c : Obj) : (((w.alloc a).alloc b).alloc c).heap[w.heap.size]? = some a ∧ (((w.alloc a).alloc b).alloc c).heap[w.heap.size + 1]? = some b ∧ (((w.alloc a).alloc b).alloc c).heap[w.heap.size + 1 + 1]? = some c ∧ Below w.heap.size w (((w.alloc a).alloc b).alloc c) := by
  refine ⟨?_, ?_, ?_, ?_⟩
  · exact blk_alloc (blk_alloc (blk_new w a) b) c
  · simpa using blk_alloc (blk_new (w.alloc a) b) c
  · simpa using blk_new ((w.alloc a).alloc b) c
  · exact below_alloc (below_alloc (below_alloc (Below.refl _ _) a) b) c
def Holds (W : World) (g : Nat) (t : TypeId) (L : List W64) : Prop := W.heap[g]? = some (.cells (ws L) t (0, 0))
theorem Holds.cell {W : World} {g : Nat} {t : TypeId} {L : List W64} (h : Holds W g t L) (k : Nat) (hk : k < L.length) : W.cell? ⟨g, k, none⟩ = some (.int .u64 (vw (gw L k))) :=
  (blk_cell h k).trans (ws_get L k hk)
theorem Holds.free {W : World} {g : Nat} {t : TypeId} {L : List W64} (h : Holds W g t L) (k : Nat) : W.frozen? ⟨g, k, none⟩ = false := blk_frozen h k
theorem Holds.set {W : World} {g : Nat} {t : TypeId} {L : List W64} (h : Holds W g t L) (k : Nat) (b : W64) : Holds (W.setCell ⟨g, k, none⟩ (.int .u64 (vw b))) g t (L.set k b) := by
  unfold Holds
  rw [← ws_set]
  exact blk_set h k _
theorem Holds.far {W : World} {g : Nat} {t : TypeId} {L : List W64} (h : Holds W g t L) {p : Addr} (hp : g ≠ p.block) (u : Value) : Holds (W.setCell p u) g t L := blk_far h hp u
theorem Holds.drewN {W : World} {g : Nat} {t : TypeId} {L : List W64} (h : Holds W g t L) (n : Nat) : Holds (W.drewN n) g t L := h
theorem Holds.alloc {W : World} {g : Nat} {t : TypeId} {L : List W64} (h : Holds W g t L) (o : Obj) : Holds (W.alloc o) g t L := blk_alloc h o
theorem Holds.below {W w1 : World} {g : Nat} {t : TypeId} {L : List W64} (h : Holds W g t L) (hb : Below W.heap.size W w1) : Holds w1 g t L := blk_below h hb
theorem Holds.lt {W : World} {g : Nat} {t : TypeId} {L : List W64} (h : Holds W g t L) : g < W.heap.size := blk_lt h
end Go.Proofs.Ytnedmaddjikmkaa.P
namespace Go.Proofs.Ytnedmaddjikmkaa.P
open Go.RowKit Go.Proofs.YtnedmaddjikmkaaW.PrintWords
section
variable {P : Program} {ops : Array Oper} {rest : List Oper} {o : Oper} {a : Act} {w : World} {Q : Exit → Act → World → Prop}
/-- A whole row is read. -/
theorem load_ws (hgd : o.guard = none) (ty : TypeId) (x : Operand) (ho : o.op = .load ty x) (g : Nat) (hx : a.eval x = .pointer (some ⟨g, 0, none⟩)) (t : TypeId) (L : List W64) (n : Nat) (d : TypeDesc)
    (hK : Holds w g t L) (hn : L.length = n) (hu : P.underlying ty = some d) (hd : (match d with | .struct _ | .array _ _ => true | _ => false) = true) (hi : (P.info? ty).map (·.size) = some n)
    (h : wpList P ops Q rest (a.put o.dst (.agg (ws L))) w) : wpList P ops Q (o :: rest) a w :=
  wpList_load_row hgd ty x ho g hx t (ws L) (0, 0) d hK hu hd (by rw [hi, ws_size, hn]) h
/-- A whole row is written: the world behind it has a letter. -/
theorem store_ws (hgd : o.guard = none) (ty : TypeId) (x y : Operand) (ho : o.op = .store ty x y) (g : Nat) (hx : a.eval x = .pointer (some ⟨g, 0, none⟩)) (t : TypeId) (L0 L : List W64) (n : Nat)
    (hy : a.eval y = .agg (ws L)) (hK : Holds w g t L0) (hn0 : L0.length = n) (hn : L.length = n) (hi : (P.info? ty).map (·.size) = some n)
    (h : ∀ w1, Holds w1 g t L → (∀ B, B ≤ g → Below B w w1) → (∀ g' t' L', g' ≠ g → Holds w g' t' L' → Holds w1 g' t' L') → w1.heap.size = w.heap.size → wpList P ops Q rest (a.put o.dst undef) w1) : wpList P ops Q (o :: rest) a w := by
  refine wpList_store_row hgd ty x y ho g (ws L) hx hy t (ws L0) hK (by rw [hi, ws_size, hn]) (by rw [ws_size, ws_size, hn0, hn]) (by simp [ws, Value.oneCell']) (h _ ?_ ?_ ?_ ?_)
  · exact setRow_heap w g (ws L0) (ws L) t (0, 0) hK
  · intro B hB
    exact ⟨rfl, rfl, rfl, by simp, fun i hi => by rw [setRow_other w g i (ws L) (by omega)]⟩
  · intro g' t' L' hne h'
    show _ = _
    rw [setRow_other w g g' (ws L) hne]
    exact h'
  · simp
end
end Go.Proofs.Ytnedmaddjikmkaa.P


