import Derived.Test.YtmnphdgghjdkmaaGNumF
import Derived.Test.YtmnphdgghjdkmaaP0
namespace Go.Proofs.Ytmnphdgghjdkmaa.P
set_option linter.unusedVariables false
set_option linter.unusedSimpArgs false
open Go.RowKit Go.Proofs.YtmnphdgghjdkmaaW.PrintWords
/-! What pay.Afford and pay.Transfer tell, place by place. -/
def am (a : S40) : List W64 := wl4 a.f1.f0 a.f1.f1 a.f1.f2 a.f1.f3
def okA (a : S40) : Prop := ok4 a.f1.f0 a.f1.f1 a.f1.f2 a.f1.f3
instance (a : S40) : Decidable (okA a) := inferInstanceAs (Decidable (ok4 _ _ _ _))
def okL (l : List S40) : Prop := ∀ a ∈ l, okA a
instance (l : List S40) : Decidable (okL l) := inferInstanceAs (Decidable (∀ a ∈ l, okA a))
def sw (L : List W64) : S24 := ⟨vw (gw L 0), vw (gw L 1), vw (gw L 2), vw (gw L 3)⟩
def at40 (l : List S40) (k : Nat) : S40 := l.getD k z40
/-- What of an amount is covered, and what is held then. -/
def covN (H n : List W64) : List W64 := if ncmp H n < 0 then H else n
def covH (H n : List W64) : List W64 := (subk H (covN H n) 4).1
def hAt (H : List W64) (l : List S40) : Nat → List W64
  | 0 => H
  | k + 1 => covH (hAt H l k) (am (at40 l k))
def cAt (H : List W64) (l : List S40) (k : Nat) : List W64 := covN (hAt H l k) (am (at40 l k))
def zero4 : List W64 := List.replicate 4 0
/-- What is paid at a place. -/
def skip (l : List S40) (W : List Int) (k : Nat) : Prop := (at40 l k).f2 ≠ 0 ∨ W.length > 0 ∧ (k : Int) ∉ W
instance (l : List S40) (W : List Int) (k : Nat) : Decidable (skip l W k) := inferInstanceAs (Decidable (_ ∨ _))
def nAt (H : List W64) (l : List S40) (W : List Int) (k : Nat) : List W64 := if skip l W k then zero4 else cAt H l k
def oAt (H : List W64) (l : List S40) (W : List Int) (k : Nat) : S40 := ⟨(at40 l k).f0, sw (subk (am (at40 l k)) (nAt H l W k) 4).1, (at40 l k).f2, (at40 l k).f3, (at40 l k).f4⟩
def lAt (H : List W64) (l : List S40) (W : List Int) : Nat → List W64
  | 0 => H
  | k + 1 => (subk (lAt H l W k) (nAt H l W k) 4).1
/-- Places that rise and are there. -/
def rises (n : Nat) (W : List Int) : Prop := ∀ i, i < W.length → (if i = 0 then -1 else W.getD (i - 1) 0) < W.getD i 0 ∧ W.getD i 0 < n
instance (n : Nat) (W : List Int) : Decidable (rises n W) := inferInstanceAs (Decidable (∀ i, i < W.length → _))
def rough (l : List S40) (W : List Int) : Prop := ∃ k ∈ W, (at40 l k.toNat).f2 ≠ 0
instance (l : List S40) (W : List Int) : Decidable (rough l W) := inferInstanceAs (Decidable (∃ k ∈ W, _))
def checkV (l : List S40) (W : List Int) : Int := if rises l.length W then (if rough l W then 2 else 0) else 3
def pay_Afford.f (a0 a1 a2 a3 : Int) (l : List S40) : Option (List S24) :=
  if ok4 a0 a1 a2 a3 ∧ okL l ∧ l.length ≤ 1000 then some ((List.range l.length).map fun k => sw (cAt (wl4 a0 a1 a2 a3) l k)) else none
def pay_Transfer.f (a0 a1 a2 a3 : Int) (l : List S40) (W : List Int) : Option (List S40 × List S24 × Int × Int × Int × Int × Int) :=
  if ok4 a0 a1 a2 a3 ∧ okL l ∧ l.length ≤ 1000 ∧ W.length ≤ 1000 then
    (if checkV l W = 0 then
      some ((List.range l.length).map (oAt (wl4 a0 a1 a2 a3) l W), (List.range l.length).map (fun k => sw (nAt (wl4 a0 a1 a2 a3) l W k)),
        (sw (lAt (wl4 a0 a1 a2 a3) l W l.length)).f0, (sw (lAt (wl4 a0 a1 a2 a3) l W l.length)).f1, (sw (lAt (wl4 a0 a1 a2 a3) l W l.length)).f2, (sw (lAt (wl4 a0 a1 a2 a3) l W l.length)).f3, 0)
    else some (l, [], a0, a1, a2, a3, checkV l W))
  else none
end Go.Proofs.Ytmnphdgghjdkmaa.P
