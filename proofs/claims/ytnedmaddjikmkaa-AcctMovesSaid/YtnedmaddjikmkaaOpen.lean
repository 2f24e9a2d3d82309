import Derived.Test.YtnedmaddjikmkaaGGiveF
import Derived.ProofKit
import Derived.OpenShut
import Derived.ShutString
import Derived.Lib.SmallJoins
import Derived.Deep.Slices
namespace Go.Proofs.Ytnedmaddjikmkaa.P
set_option linter.unusedSectionVars false
set_option linter.unusedSimpArgs false
open Go.ChangeShapes Go.WideShapes Go.ChangeAt Go.RowKit Go.Joins Go.Deep Go.Proofs.YtnedmaddjikmkaaW.PrintWords
/-! Parameters opened: rows, and numbers of four words. -/
theorem word_in {n : Int} (h : (Lit.int .u64 n).wf = true) : 0 ≤ n ∧ n < 18446744073709551616 := by
  simp only [Lit.wf, Bool.and_eq_true, decide_eq_true_eq] at h
  have h1 : (0 : Int) ≤ n := h.1
  have h2 : n ≤ 18446744073709551615 := h.2
  omega
section
variable {H : Type} {enc : TypeId × Value → H} {W : World} {base : Nat} {spare : Nat → Bool} {held : Bool} {d : DataW H} {p : List MemPlace}
theorem okWide_array {P : Program} {w : World} {r : Reach} {base : Nat} {t e : TypeId} {n : Nat} {v : Value} (ht : P.underlying t = some (.array n e)) (h : Value.okWide P w r base t v) : ∃ cs, v = .agg cs ∧ cs.size = P.cellsOf t := by
  simp only [Value.okWide, ht] at h
  obtain ⟨cs, h1, h2, _⟩ := h
  exact ⟨cs, h1, h2⟩
/-- A row of whatever elements. -/
theorem open_rowC {α : Type} {k : Kd α} {P : Program} {t e : TypeId} {v : Value} {b0 : Nat} {r : Reach} (ok : α → Prop) (ht : P.underlying t = some (.slice e)) (hc : P.cellsOf e = k.sz)
    (hel : ∀ n cs x, cs.length = k.sz → DataW.trod enc P W base spare held n e cs = some x → ∃ a, ok a ∧ k.K W a cs)
    (hv : Value.okWide P W r b0 t v) (h : DataW.Trod enc P W base spare held t v d p) : ∃ (l : List α) (A : Option Addr) (c : Nat), v = .slice A l.length c ∧ l.length ≤ c ∧ k.C W A l.length l ∧ ∀ a ∈ l, ok a := by
  obtain ⟨a0, len0, cap0, rfl⟩ := okWide_slice ht hv
  obtain ⟨fuel, hf⟩ := h
  rcases open_slice ht hf with ⟨hcs, _⟩ | ⟨a, len, cap, m, n, D, Pl, hcs, _, hl, hcap, hm, _, hx⟩
  · simp only [Value.cells, List.cons.injEq, and_true] at hcs
    exact ⟨[], none, 0, hcs, Nat.le_refl _, Kd.C_nil k W, fun a ha => by simp at ha⟩
  · have hv' : Value.slice a0 len0 cap0 = .slice (some a) len cap := by simpa [Value.cells] using hcs
    have hlm : len ≤ m := by rw [hm]; split <;> omega
    have hone : ∀ i : Fin len, ∃ x, ok x ∧ ∃ cs, cs.length = k.sz ∧ k.K W x cs ∧ ∀ j u, cs[j]? = some u → W.cell? (a.add (i * k.sz + j)) = some u := by
      intro i
      obtain ⟨cs, h1, h2⟩ := hx i (by omega)
      obtain ⟨_, hlen, hcell⟩ := World.cells?_some h1
      rw [hc] at hlen hcell
      obtain ⟨x, hok, hK⟩ := hel _ _ _ hlen h2
      refine ⟨x, hok, cs, hlen, hK, fun j u hj => ?_⟩
      have hjl := (List.getElem?_eq_some_iff.1 hj).1
      rw [← Go.Deep.add_add, hcell j (by omega), hj]
    obtain ⟨f, hf'⟩ := Classical.axiomOfChoice hone
    have hll : (List.ofFn f).length = len := List.length_ofFn
    refine ⟨List.ofFn f, some a, cap, by rw [hv', hll], by omega, ?_, ?_⟩
    · refine ⟨rfl, ?_, fun _ => ⟨a, rfl, fun j x hj => ?_⟩⟩
      · rw [hll]
        have : cap ≤ 9223372036854775807 := hcap
        omega
      · have hjl := (List.getElem?_eq_some_iff.1 hj).1
        rw [hll] at hjl
        have hx' : f ⟨j, hjl⟩ = x := by
          have := (List.getElem?_eq_some_iff.1 hj).2
          simpa using this
        obtain ⟨_, cs, h1, h2, h3⟩ := hf' ⟨j, hjl⟩
        rw [hx'] at h2
        exact ⟨cs, h1, h2, h3⟩
    · intro x hx'
      obtain ⟨i, rfl⟩ := List.mem_ofFn.1 hx'
      exact (hf' i).1
theorem trod_u4 {n : Nat} {cs : List Value} {x : DataW H × List MemPlace} (h : DataW.trod enc Try.prog W base spare held n 25 cs = some x) : ∃ a : S25, ok4 a.f0 a.f1 a.f2 a.f3 ∧ cs = [.int .u64 a.f0, .int .u64 a.f1, .int .u64 a.f2, .int .u64 a.f3] := by
  obtain ⟨xs, m, _, _, hl, hx, hi⟩ := DataW.trod_array Try.underlying25 h
  have hc : Try.prog.cellsOf 23 = 1 := by kernel_rfl
  have hc4 : Try.prog.cellsOf 25 = 4 := by kernel_rfl
  rw [hc4] at hl
  rw [hc] at hi
  match cs, hl with
  | [c0, c1, c2, c3], _ =>
    match xs, hx with
    | [x0, x1, x2, x3], _ =>
      have i0 := hi 0 (by omega)
      have i1 := hi 1 (by omega)
      have i2 := hi 2 (by omega)
      have i3 := hi 3 (by omega)
      simp only [Nat.zero_mul, Nat.one_mul, List.drop_zero, List.drop_succ_cons, List.take_succ_cons, List.take_zero, List.getElem?_cons_zero, List.getElem?_cons_succ] at i0 i1 i2 i3
      obtain ⟨n0, e0, _, w0⟩ := DataW.trod_int Try.underlying23 i0
      obtain ⟨n1, e1, _, w1⟩ := DataW.trod_int Try.underlying23 i1
      obtain ⟨n2, e2, _, w2⟩ := DataW.trod_int Try.underlying23 i2
      obtain ⟨n3, e3, _, w3⟩ := DataW.trod_int Try.underlying23 i3
      simp only [List.cons.injEq, and_true] at e0 e1 e2 e3
      subst e0 e1 e2 e3
      exact ⟨⟨n0, n1, n2, n3⟩, ⟨word_in w0, word_in w1, word_in w2, word_in w3⟩, rfl⟩
theorem open_u4 {v : Value} {b0 : Nat} {r : Reach} (hv : Value.okWide Try.prog W r b0 25 v) (h : DataW.Trod enc Try.prog W base spare held 25 v d p) : ∃ a : S25, v = .agg #[.int .u64 a.f0, .int .u64 a.f1, .int .u64 a.f2, .int .u64 a.f3] ∧ ok4 a.f0 a.f1 a.f2 a.f3 := by
  obtain ⟨cs, rfl, hsz⟩ := okWide_array Try.underlying25 hv
  obtain ⟨fuel, hf⟩ := h
  obtain ⟨a, hok, hcs⟩ := trod_u4 hf
  refine ⟨a, ?_, hok⟩
  congr 1
  apply Array.ext'
  exact hcs
def okC (a : S39) : Prop := ok4 a.f2.f0 a.f2.f1 a.f2.f2 a.f2.f3
theorem trod_coin {n : Nat} {cs : List Value} {x : DataW H × List MemPlace} (hlen : cs.length = k39.sz) (h : DataW.trod enc Try.prog W base spare held n 39 cs = some x) : ∃ a : S39, okC a ∧ k39.K W a cs := by
  obtain ⟨xs, m, _, _, hl, hx, hi⟩ := DataW.trod_struct Try.underlying39 h
  have h6 : cs.length = 6 := hlen
  have hc9 : Try.prog.cellsOf 9 = 1 := by kernel_rfl
  have hc25 : Try.prog.cellsOf 25 = 4 := by kernel_rfl
  have i0 : DataW.trod enc Try.prog W base spare held m 9 ((cs.drop 0).take (Try.prog.cellsOf 9)) = xs[0]? := hi 0 _ rfl
  have i1 : DataW.trod enc Try.prog W base spare held m 9 ((cs.drop 1).take (Try.prog.cellsOf 9)) = xs[1]? := hi 1 _ rfl
  have i2 : DataW.trod enc Try.prog W base spare held m 25 ((cs.drop 2).take (Try.prog.cellsOf 25)) = xs[2]? := hi 2 _ rfl
  match cs, h6 with
  | [c0, c1, c2, c3, c4, c5], _ =>
    match xs, hx with
    | [x0, x1, x2], _ =>
      simp only [hc9, hc25, List.drop_zero, List.drop_succ_cons, List.take_succ_cons, List.take_zero, List.getElem?_cons_zero, List.getElem?_cons_succ] at i0 i1 i2
      obtain ⟨s0, e0, _, _⟩ := DataW.trod_string Try.underlying9 i0
      obtain ⟨s1, e1, _, _⟩ := DataW.trod_string Try.underlying9 i1
      obtain ⟨u, hok, e2⟩ := trod_u4 i2
      simp only [List.cons.injEq, and_true] at e0 e1 e2
      obtain ⟨rfl, rfl, rfl, rfl⟩ := e2
      subst e0 e1
      exact ⟨⟨s0, s1, u⟩, hok, k39_mk W _⟩
theorem open_coins {v : Value} {b0 : Nat} {r : Reach} (hv : Value.okWide Try.prog W r b0 22 v) (h : DataW.Trod enc Try.prog W base spare held 22 v d p) : ∃ (l : List S39) (A : Option Addr) (c : Nat), v = .slice A l.length c ∧ l.length ≤ c ∧ k39.C W A l.length l ∧ okL l :=
  open_rowC okC Try.underlying22 (by kernel_rfl) (fun n cs x hl hx => trod_coin hl hx) hv h
end
end Go.Proofs.Ytnedmaddjikmkaa.P


