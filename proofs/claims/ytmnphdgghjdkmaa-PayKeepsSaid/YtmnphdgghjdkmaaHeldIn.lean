/- A region that draws its order, in a round of a range over a function: walked as elsewhere, where its calls enter functions of the program. -/
import Derived.Test.YtmnphdgghjdkmaaStillIn
import Derived.OrdersHeld
import Derived.Deep.RegionHeld
import Derived.RangeFuncCalls
import Derived.ControlIn
namespace Go.Proofs.Ytmnphdgghjdkmaa.P
set_option linter.unusedVariables false
set_option linter.unusedSimpArgs false
open Go Go.RowKit
theorem wpIn_of_wide {lp n : Nat} {P : Program} {o : Oper} {a : Act} {w : World} {K K' : Act → World → Prop} {Q : Exit → Act → World → Prop} (hn : 1 ≤ n)
    (hd : ∀ c, o.op ≠ .defer c) (hK : ∀ a w, K a w → K' a w) (h : o.wp P a w K (onlyNormal Q)) : o.wpIn (Fence.wide.inRound lp) n P a w K' Q := by
  refine ⟨fun f _ => trivial, ?_⟩
  rw [Oper.semAt_eq _ _ _ hd]
  unfold Oper.wp at h
  generalize (execOp a.eval o).run P w = r at *
  cases r with
  | ok x w' =>
    cases x with
    | value v => exact hK _ _ h
    | skip => exact hK _ _ h
    | defer d => exact hK _ _ h
    | enter f args =>
      refine ⟨fun _ => hn, callsIn_wide.2 (Calls.mono h ?_)⟩
      rintro e w2 h2
      cases e with
      | returned v => exact hK _ _ h2
      | panicked c => exact absurd h2.1 (by simp)
      | outgrown => exact absurd h2 (not_letsOut Q)
    | row row args =>
      refine ⟨fun _ => hn, fun c cs _ => ?_⟩
      obtain ⟨v, w2, hr, hs⟩ := h c cs
      exact ⟨v, w2, hK _ _ hr, stepsIn_wide.2 hs⟩
    | _ => exact h.elim
  | halt x w' => cases x <;> simp only [Oper.upon] at h <;> first | exact h.elim | exact absurd h.1 (by simp)
theorem wpOpIn_of_wide {lp n : Nat} {P : Program} {ops : Array Oper} {i : Nat} {a : Act} {w : World} {K K' : Act → World → Prop} {Q : Exit → Act → World → Prop} (hn : 1 ≤ n)
    (hd : ∀ o : Oper, ops[i]? = some o → ∀ c, o.op ≠ .defer c) (hK : ∀ a w, K a w → K' a w) (h : wpOp P ops (onlyNormal Q) i K a w) : wpOpIn (Fence.wide.inRound lp) n P ops Q i K' a w := by
  unfold wpOp at h
  unfold wpOpIn
  cases ho : ops[i]? with
  | none => rw [ho] at h; exact hK _ _ h
  | some o =>
    rw [ho] at h
    simp only [] at h ⊢
    split
    · rename_i hw
      rw [if_pos hw] at h
      rcases h with h | ⟨_, h⟩
      · exact wpIn_of_wide hn (hd o ho) hK h
      · exact absurd h (not_letsOut Q)
    · rename_i hw
      rw [if_neg hw] at h
      exact ⟨fun f _ => trivial, hK _ _ h⟩
theorem wpAnyIn_of_wide {lp n : Nat} {P : Program} {md : Region.Mode} {ops : Array Oper} {Q : Exit → Act → World → Prop} (hn : 1 ≤ n) (hd : ∀ (i : Nat) (o : Oper), ops[i]? = some o → ∀ c, o.op ≠ .defer c) :
    ∀ (fuel : Nat) (listed : Array Bool) (a : Act) (w : World), wpAny P md ops (onlyNormal Q) fuel listed a w → wpAnyIn (Fence.wide.inRound lp) n P md ops Q fuel listed a w
  | 0, _, _, _, h => ⟨h.1, h.2.2⟩
  | fuel + 1, listed, a, w, h => ⟨fun h0 => (h.1 h0).2, fun i hi => wpOpIn_of_wide hn (hd i) (fun a w h => wpAnyIn_of_wide hn hd fuel _ a w h) (h.2 i hi)⟩
def noDefer : Op → Bool
  | .defer _ => false
  | _ => true
/-- A region that draws its order, in a round, by the law of the held facts. -/
theorem wpIn_region_heldW {lp n : Nat} {P : Program} {id : Nat} {Q : Exit → Act → World → Prop} {S : World → Prop} {a : Act} {w : World} {ops : Array Oper} (hn : 1 ≤ n) (hm : P.follows .mixedOrders = true) (hd : ops.all (fun o => noDefer o.op) = true) (hS : S w.drew)
    (h : S w.drew → wpAnyH P .any ops (onlyNormal Q) S ops.size (Array.replicate ops.size false) a w.drew) : (Code.region id ops true).wpIn (Fence.wide.inRound lp) n P Q a w := by
  refine wpIn_region_any hm (wpAnyIn_of_wide hn (fun i o ho c e => ?_) _ _ _ _ (wpAny_of_held _ _ _ _ (h hS)))
  obtain ⟨hi, rfl⟩ := Array.getElem?_eq_some_iff.1 ho
  have := (Array.all_eq_true.1 hd) i hi
  rw [e] at this
  cases this
end Go.Proofs.Ytmnphdgghjdkmaa.P
