import Derived.Test.YthfcabobdcicdaaWs
import Derived.ProofKit
import Derived.OpenShut
import Derived.ShutString
import Derived.Lib.SmallJoins
namespace Go.Proofs.Ythfcabobdcicdaa.P
open Go.ChangeShapes Go.WideShapes Go.ChangeAt Go.RowKit Go.Joins
theorem word_of {n : Int} (h : (Lit.int .u64 n).wf = true) : vw (BitVec.ofInt 64 n) = n := by
  simp only [Lit.wf, Bool.and_eq_true, decide_eq_true_eq] at h
  have h1 : (0 : Int) ≤ n := h.1
  have h2 : n ≤ 18446744073709551615 := h.2
  unfold vw
  rw [BitVec.toNat_ofInt]
  omega
theorem okWide_array {P : Program} {w : World} {r : Reach} {base : Nat} {t e : TypeId} {n : Nat} {v : Value} (ht : P.underlying t = some (.array n e)) (h : Value.okWide P w r base t v) : ∃ cs, v = .agg cs ∧ cs.size = P.cellsOf t := by
  simp only [Value.okWide, ht] at h
  obtain ⟨cs, h1, h2, _⟩ := h
  exact ⟨cs, h1, h2⟩
theorem open_ul {H : Type} {enc : TypeId × Value → H} {W : World} {b0 : Nat} {base : Nat} {spare : Nat → Bool} {held : Bool} {r : Reach} {v : Value} {d : DataW H} {p : List MemPlace}
    (hv : Value.okWide Try.prog W r b0 23 v) (h : DataW.Trod enc Try.prog W base spare held 23 v d p) : ∃ L : List W64, v = .agg (ws L) ∧ L.length = 25 := by
  obtain ⟨cs, rfl, hsz⟩ := okWide_array Try.underlying23 hv
  obtain ⟨fuel, hf⟩ := h
  obtain ⟨xs, m, _, _, hl, hx, hi⟩ := DataW.trod_array Try.underlying23 hf
  have hc : Try.prog.cellsOf 22 = 1 := by kernel_rfl
  have hc3 : Try.prog.cellsOf 23 = 25 := by kernel_rfl
  rw [hc3] at hl
  rw [hc] at hi
  have hcells : Value.cells (.agg cs) = cs := rfl
  rw [hcells] at hl hi
  have hL : cs.size = 25 := by simpa using hl
  refine ⟨cs.toList.map fun v => match v with | .int _ n => BitVec.ofInt 64 n | _ => 0#64, ?_, by simp [hL]⟩
  congr 1
  apply Array.ext
  · simp [ws_size]
  · intro i h1 h2
    have hi' := hi i (by omega)
    rw [Nat.mul_one, List.drop_eq_getElem_cons (by simpa using h1), List.take_succ_cons, List.take_zero, List.getElem?_eq_getElem (by omega)] at hi'
    obtain ⟨n, e, _, w⟩ := DataW.trod_int Try.underlying22 hi'
    simp only [List.cons.injEq, and_true, Array.getElem_toList] at e
    simp [ws, e, word_of w]
end Go.Proofs.Ythfcabobdcicdaa.P
