import Derived.Test.YtlkecihibmndbaaGClone
namespace Go.Proofs.Ytlkecihibmndbaa.P
set_option linter.unusedVariables false
set_option linter.unusedSimpArgs false
open Go.RowKit Go.Proofs.YtlkecihibmndbaaW.PrintWords
/-! What claim.Bind and claim.Reclaim tell. -/
instance (a : S39) : Decidable (okA a) := inferInstanceAs (Decidable (ok4 _ _ _ _))
instance (l : List S39) : Decidable (okL l) := inferInstanceAs (Decidable (∀ a ∈ l, okA a))
def isThere (n : Nat) (k : Int) : Prop := 0 ≤ k ∧ k < n
instance (n : Nat) (k : Int) : Decidable (isThere n k) := inferInstanceAs (Decidable (_ ∧ _))
def at' (l : List S39) (k : Int) : S39 := at39 l k.toNat
/-- Why some can't be bound. -/
def bindE (l : List S39) (ch : ByteArray) (i j : Int) (a b : List W64) : Int :=
  if ¬ isThere l.length i ∨ ¬ isThere l.length j ∨ i = j then 3
  else if ch.size ≠ 32 ∨ (at' l i).f2 ≠ 0 ∨ (at' l j).f2 ≠ 0 then 2
  else if (subk (am (at' l i)) a 4).2 = 1 ∨ (subk (am (at' l j)) b 4).2 = 1 then 16
  else if (addk a b 4).2 = 1 then 7
  else if 8 ≤ l.length then 8 else 0
def newA (l : List S39) (ch : ByteArray) (i j : Int) (a b : List W64) : S39 := ⟨ch, sw (addk a b 4).1, 1, (at' l i).f0, (at' l j).f0⟩
def bindL (l : List S39) (ch : ByteArray) (i j : Int) (a b : List W64) : List S39 :=
  ((l.set i.toNat (putA (at' l i) (subk (am (at' l i)) a 4).1)).set j.toNat (putA (at' l j) (subk (am (at' l j)) b 4).1)) ++ [newA l ch i j a b]
def claim_Bind.f (l : List S39) (ch : ByteArray) (i j a0 a1 a2 a3 b0 b1 b2 b3 : Int) : Option (List S39 × Int) :=
  if ok4 a0 a1 a2 a3 ∧ ok4 b0 b1 b2 b3 ∧ okL l ∧ l.length ≤ 1000 then
    some (if bindE l ch i j (wl4 a0 a1 a2 a3) (wl4 b0 b1 b2 b3) = 0 then bindL l ch i j (wl4 a0 a1 a2 a3) (wl4 b0 b1 b2 b3) else l, bindE l ch i j (wl4 a0 a1 a2 a3) (wl4 b0 b1 b2 b3))
  else none
end Go.Proofs.Ytlkecihibmndbaa.P
