import Derived.Test.YtkpflejagagcbaaGTurn
import Derived.Test.YtkpflejagagcbaaWs
import Derived.Outline
import Derived.Deep.QuietTactic
import Derived.BigQuiet
import Derived.BigRegion
import Derived.StillTailTactics
namespace Go.Proofs.Ytkpflejagagcbaa.P
set_option linter.unusedVariables false
open Go.RowKit Go.Proofs.YtkpflejagagcbaaW.PrintWords
/-- The cells of a row of numbers. -/
def ns (L : List Nat) : Array Value := (L.map fun (b : Nat) => Value.int .i64 (b : Int)).toArray
def gn (L : List Nat) (k : Nat) : Nat := L.getD k 0
theorem ns_size (L : List Nat) : (ns L).size = L.length := by simp [ns]
theorem ns_get (L : List Nat) (k : Nat) (h : k < L.length) : (ns L)[k]? = some (.int .i64 (gn L k : Nat)) := by
  simp [ns, gn, List.getD, h]
theorem ns_set (L : List Nat) (k : Nat) (b : Nat) : (ns L).setIfInBounds k (.int .i64 (b : Int)) = ns (L.set k b) := by
  simp [ns, List.map_set]
theorem nzeros25 : #[Value.int .i64 0, .int .i64 0, .int .i64 0, .int .i64 0, .int .i64 0, .int .i64 0, .int .i64 0, .int .i64 0, .int .i64 0, .int .i64 0, .int .i64 0, .int .i64 0, .int .i64 0, .int .i64 0, .int .i64 0, .int .i64 0, .int .i64 0, .int .i64 0, .int .i64 0, .int .i64 0, .int .i64 0, .int .i64 0, .int .i64 0, .int .i64 0, .int .i64 0] = ns (List.replicate 25 0) := by rfl
def HoldsN (W : World) (g : Nat) (t : TypeId) (L : List Nat) : Prop := W.heap[g]? = some (.cells (ns L) t (0, 0))
section
variable {P : Program} {ops : Array Oper} {rest : List Oper} {o : Oper} {a : Act} {w : World} {Q : Exit → Act → World → Prop}
/-- A whole row is read. -/
theorem load_ns (hgd : o.guard = none) (ty : TypeId) (x : Operand) (ho : o.op = .load ty x) (g : Nat) (hx : a.eval x = .pointer (some ⟨g, 0, none⟩)) (t : TypeId) (L : List Nat) (n : Nat) (d : TypeDesc)
    (hK : HoldsN w g t L) (hn : L.length = n) (hu : P.underlying ty = some d) (hd : (match d with | .struct _ | .array _ _ => true | _ => false) = true) (hi : (P.info? ty).map (·.size) = some n)
    (h : wpList P ops Q rest (a.put o.dst (.agg (ns L))) w) : wpList P ops Q (o :: rest) a w :=
  wpList_load_row hgd ty x ho g hx t (ns L) (0, 0) d hK hu hd (by rw [hi, ns_size, hn]) h
/-- A whole row is written: the world behind it has a letter. -/
theorem store_ns (hgd : o.guard = none) (ty : TypeId) (x y : Operand) (ho : o.op = .store ty x y) (g : Nat) (hx : a.eval x = .pointer (some ⟨g, 0, none⟩)) (t : TypeId) (L0 L : List Nat) (n : Nat)
    (hy : a.eval y = .agg (ns L)) (hK : HoldsN w g t L0) (hn0 : L0.length = n) (hn : L.length = n) (hi : (P.info? ty).map (·.size) = some n)
    (h : ∀ w1, HoldsN w1 g t L → (∀ B, B ≤ g → Below B w w1) → (∀ g' : Nat, g' ≠ g → w1.heap[g']? = w.heap[g']?) → w1.heap.size = w.heap.size → wpList P ops Q rest (a.put o.dst undef) w1) : wpList P ops Q (o :: rest) a w := by
  refine wpList_store_row hgd ty x y ho g (ns L) hx hy t (ns L0) hK (by rw [hi, ns_size, hn]) (by rw [ns_size, ns_size, hn0, hn]) (by simp [ns, Value.oneCell']) (h _ ?_ ?_ ?_ ?_)
  · exact setRow_heap w g (ns L0) (ns L) t (0, 0) hK
  · intro B hB
    exact ⟨rfl, rfl, rfl, by simp, fun i hi => by rw [setRow_other w g i (ns L) (by omega)]⟩
  · intro g' hne
    exact setRow_other w g g' (ns L) hne
  · simp
end
/-- A result that is a whole row. -/
theorem ret_ns {P : Program} {fn : Func} {p : Tmp} {ty : TypeId} {n : Nat} {d : TypeDesc} (h : fn.results = #[.cell p ty]) (a : Act) (w : World) (g : Nat) (t : TypeId) (L : List Nat)
    (hp : a.tmps.getD p undef = .pointer (some ⟨g, 0, none⟩)) (hK : HoldsN w g t L) (hn : L.length = n) (hu : P.underlying ty = some d) (hd : (match d with | .struct _ | .array _ _ => true | _ => false) = true) (hi : (P.info? ty).map (·.size) = some n)
    {Q : Ending → World → Prop} (hd0 : a.defers = []) (hQ : Q (.returned (.agg (ns L))) w) : bodyPost P fn Q .ret a w :=
  bodyPost_ret (results_cell_row h _ _ g t (ns L) (0, 0) d hp hK hu hd (by rw [hi, ns_size, hn])) hd0 hQ
def tX : Nat → Nat × Nat
  | 0 => (1, 0)
  | t + 1 => ((tX t).2, (2 * (tX t).1 + 3 * (tX t).2) % 5)
theorem tX_lt (t : Nat) : (tX t).1 < 5 ∧ (tX t).2 < 5 := by
  induction t with
  | zero => decide
  | succ t ih => rw [tX]; simp only []; omega
def tR : Nat → List Nat
  | 0 => List.replicate 25 0
  | t + 1 => (tR t).set ((tX t).1 + 5 * (tX t).2) ((t + 1) * (t + 2) / 2 % 64)
theorem tR_len (t : Nat) : (tR t).length = 25 := by induction t with | zero => rfl | succ t ih => rw [tR, List.length_set, ih]
set_option maxHeartbeats 1000000 in
theorem turns_any (w : World) :
    Calls Try.prog 24 #[] w fun e w' => e = .returned (.agg (ns (tR 24))) ∧ Below w.heap.size w w' := by
  have hi : (Try.prog.info? 49).map (·.size) = some 25 := by kernel_rfl
  have Hi := Aside0.mk hi
  clear hi
  go_enter Try.func24, Try.ntmps24
  go_wp2_with fail
  have T := two w (.cells (ns (List.replicate 25 0)) 49) (.cells (ns (List.replicate 25 0)) 49)
  rw [← nzeros25] at T
  go_loopw [2, 3, 4] (fun s2 s3 i wr => ∃ k : Nat, k ≤ 24 ∧ i = .int .i64 k ∧ s2 = .int .i64 ((tX k).1 : Nat) ∧ s3 = .int .i64 ((tX k).2 : Nat) ∧ HoldsN wr w.heap.size 49 (List.replicate 25 0) ∧ HoldsN wr (w.heap.size + 1) 49 (tR k) ∧ Below w.heap.size w wr) (fun _ _ i _ => 24 - (intOf i).toNat)
  case atStart =>
    exact ⟨0, by omega, rfl, rfl, rfl, T.1, T.2.1, T.2.2⟩
  case round =>
    clear T
    obtain ⟨k, hk, rfl, rfl, rfl, hr, hc, hb⟩ := hrel
    have HR := Aside0.mk hr
    have HC := Aside0.mk hc
    have HB := Aside0.mk hb
    clear hr hc hb
    by_cases hlt : k < 24
    · have ha := tX_lt k
      have hst : tR (k + 1) = (tR k).set ((tX k).1 + 5 * (tX k).2) ((k + 1) * (k + 2) / 2 % 64) := rfl
      have hst2 : tX (k + 1) = ((tX k).2, (2 * (tX k).1 + 3 * (tX k).2) % 5) := rfl
      have hl := tR_len k
      generalize tX k = S at *
      generalize tR k = R at *
      obtain ⟨x, y⟩ := S
      obtain ⟨hx, hy⟩ := ha
      simp only [] at hx hy hst hst2
      obtain ⟨z, hz⟩ : ∃ z, (2 * x + 3 * y) % 5 = z := ⟨_, rfl⟩
      obtain ⟨q, hq⟩ : ∃ q, (k + 1) * (k + 2) = q := ⟨_, rfl⟩
      obtain ⟨b, hb⟩ : ∃ b, x + 5 * y = b := ⟨_, rfl⟩
      obtain ⟨r, hr⟩ : ∃ r, q / 2 % 64 = r := ⟨_, rfl⟩
      obtain ⟨q2, hq2⟩ : ∃ q2, q / 2 = q2 := ⟨_, rfl⟩
      have hq' : q ≤ 600 := by rw [← hq]; exact Nat.mul_le_mul (show k + 1 ≤ 24 by omega) (show k + 2 ≤ 25 by omega)
      rw [hz] at hst2
      rw [hq, hb, hr] at hst
      have f1 : (2 * (x : Int) + 3 * (y : Int)) % 5 = (z : Int) := by omega
      have f2 : ((k : Int) + 1) * ((k : Int) + 2) = (q : Int) := by rw [← hq]; simp
      have f3 : (x : Int) + 5 * (y : Int) = (b : Int) := by omega
      have f4 : (q : Int) / 2 = (q2 : Int) := by omega
      have f5 : (q2 : Int) % 64 = (r : Int) := by omega
      have hb25 : b < 25 := by omega
      have HS := Aside0.mk (And.intro hst hst2)
      have HL := Aside0.mk hl
      have c1 : wr.frozen? ⟨w.heap.size + 1, b, none⟩ = false := blk_frozen HC.out b
      have c0 : wr.cell? ⟨w.heap.size + 1, b, none⟩ = some (.int .i64 (gn R b : Nat)) := (blk_cell HC.out b).trans (ns_get R b (by omega))
      clear hst hst2 hl hz hq hb hr hq2
      go_wp2
      rw [f1]
      obtain ⟨h1, h2⟩ := HS.out
      refine ⟨⟨k + 1, by omega, by go_num, by rw [h2], by rw [h2], ?_, ?_, ?_⟩, by simp [intOf]; omega⟩
      · exact blk_far HR.out (by simp) _
      · rw [h1]
        unfold HoldsN
        rw [← ns_set]
        exact blk_set HC.out b _
      · exact below_set HB.out (by show w.heap.size ≤ w.heap.size + 1; omega)
    · obtain rfl : k = 24 := by omega
      have hl := tR_len 24
      obtain ⟨A, hA⟩ : ∃ A, tR 24 = A := ⟨_, rfl⟩
      rw [hA] at HC hl
      have HL := Aside0.mk hl
      have HE := Aside0.mk hA
      clear hl hlt hk hA
      generalize tX 24 = S
      rw [show ((24 : Nat) : Int) = 24 from rfl]
      go_wp2_with (first | (refine load_ns rfl 49 _ rfl (w.heap.size+1) rfl 49 A 25 _ HC.out HL.out Try.underlying49 rfl Hi.out ?_) | (refine store_ns rfl 49 _ _ rfl w.heap.size rfl 49 (List.replicate 25 0) A 25 rfl HR.out (by simp) HL.out Hi.out ?_; intro w1 hR hB hF hS; have HR1 := Aside0.mk hR; have HB1 := Aside0.mk hB; clear hR hB hF hS))
      refine ret_ns rfl _ _ w.heap.size 49 A rfl HR1.out HL.out Try.underlying49 rfl Hi.out rfl ⟨by rw [HE.out], HB.out.trans (HB1.out _ (by omega))⟩
end Go.Proofs.Ytkpflejagagcbaa.P
