import Derived.Test.YtnedmaddjikmkaaWEqStruct
import Derived.ChangeKeysEq
import Derived.WalkKit
namespace Go.Proofs.YtnedmaddjikmkaaW.PrintWords
set_option linter.unusedSimpArgs false
theorem eqArr4 {P : Program} (d : Nat) {t e : TypeId} {k : IntKind} (hu : P.underlying t = some (.array 4 e)) (hs : P.cellsOf e = 1) (he : P.underlying e = some (.int k)) {w : World} (x0 y0 x1 y1 x2 y2 x3 y3 : Int) :
    (Op.equalIn (d + 2) t (.agg #[.int k x0, .int k x1, .int k x2, .int k x3]) (.agg #[.int k y0, .int k y1, .int k y2, .int k y3])).run P w = .ok (x0 == y0 && (x1 == y1 && (x2 == y2 && (x3 == y3)))) w := by
  have hi : ∃ i, P.info? e = some i := by
    unfold Program.cellsOf at hs
    cases h : P.info? e with
    | none => simp [h] at hs
    | some i => exact ⟨i, rfl⟩
  obtain ⟨i, hi⟩ := hi
  have hag : ∀ w, (isAgg e).run P w = .ok false w := fun w => by simp [isAgg, run_underlying he]
  have hq : ∀ (a b : Int) (w : World), (Op.equalIn (d + 1) e (.int k a) (.int k b)).run P w = .ok (a == b) w := fun a b w => by simp [Op.equalIn, run_underlying he]
  rw [run_equalIn_array w (d + 1) _ _ hu hi, hs]
  simp only [show List.range 4 = [0, 1, 2, 3] from rfl, Op.eqItems, Sem.run_bind]
  simp [go_sem, hag, hq]
  by_cases h0 : x0 = y0 <;> by_cases h1 : x1 = y1 <;> by_cases h2 : x2 = y2 <;> by_cases h3 : x3 = y3 <;> simp [h0, h1, h2, h3]
end Go.Proofs.YtnedmaddjikmkaaW.PrintWords


