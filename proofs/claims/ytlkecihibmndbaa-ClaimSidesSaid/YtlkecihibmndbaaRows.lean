/-
  No cell of these rows narrows 'for every input' (looked for: loops, veiled, ifaces, maps, wideKeys, modest, calm, conditions, laid).
  DERIVED. THE GIVEN ROWS OF THIS SEAT. 4 by the template 'for every input the law returns true; each argument reads behind the call as it read before'; 0 by the template 'total and deterministic' (their statements: YtlkecihibmndbaaTotals.lean).
  GIVEN WITH THE SEED: the statements are not yours to turn. If you find one false, say at which input.
  Laid BY PROGRAM, IN A SANDBOX (cutbox-rows.mjs): the forced cells as the released guide's own fill.sh prints them over the translation 407cd756bd83d5da… (all of the seat's roots in one cut). By AI agents, Wed Nov 11 2026. No macro, syntax, notation, axiom, sorry.
-/
import Derived.Test.YtlkecihibmndbaaChecked
import GoSem.Claim
import GoSem.ClaimJoined
import GoSem.ClaimMapViews
import Derived.JoinedTies
import Derived.KernelRfl
namespace Go.Proofs.Ytlkecihibmndbaa
/- THE CELL 'sum', in the pinned program and in every row, IS THE sha256 OF THE DUMP (.gsa) THAT YtlkecihibmndbaaProg.lean LOADS. Nothing in Lean hashes anything: it is a label: what it is worth is what the hold of that sum in a sandbox is worth. -/
noncomputable def Try.pinned : Pinned := { name := "ytlkecihibmndbaa", sum := "407cd756bd83d5dafcf23f5e831fce79ebb8cbc00e1291856fded1f172f27483", checked := Try.checked }
namespace Rows
def none {H : Type} : Left H := { results := [], args := [] }

/-- 'trucelaw18.ClaimDoes': WHATEVER THE INPUT: true; the input reads as it did. -/
def claimDoesSpec : ChangeSpec := { name := "claimDoes", fn := fun _ => fun
  | [d1, d2, d3, d4, d5, d6, d7, d8] => { results := [.lit (.bool true)], args := [d1, d2, d3, d4, d5, d6, d7, d8] }
  | _ => none }
def claimDoesRow : OpenClaim := { program := "ytlkecihibmndbaa", sum := "407cd756bd83d5dafcf23f5e831fce79ebb8cbc00e1291856fded1f172f27483", func := "truce/trucelaw18.ClaimDoes", spec := "claimDoes", inPlace := ["math/bits.Sub64", "math/bits.Add64"], unfollowed := true, recurses := true, apart := false }
def ClaimDoesSaid : Prop := claimDoesRow.holds Try.pinned (OpenSpec.ofChange claimDoesSpec)

/-- ITS FALSE NEIGHBOUR: 'it returns false'. Refute it at one input. -/
def claimDoesWrong : ChangeSpec := { name := "claimDoes", fn := fun _ => fun
  | [d1, d2, d3, d4, d5, d6, d7, d8] => { results := [.lit (.bool false)], args := [d1, d2, d3, d4, d5, d6, d7, d8] }
  | _ => none }
def ClaimDoesWrongFalsely : Prop := claimDoesRow.holds Try.pinned (OpenSpec.ofChange claimDoesWrong)

/-- 'trucelaw18.ClaimKeeps': WHATEVER THE INPUT: true; the input reads as it did. -/
def claimKeepsSpec : ChangeSpec := { name := "claimKeeps", fn := fun _ => fun
  | [d1, d2, d3, d4, d5, d6, d7, d8] => { results := [.lit (.bool true)], args := [d1, d2, d3, d4, d5, d6, d7, d8] }
  | _ => none }
def claimKeepsRow : OpenClaim := { program := "ytlkecihibmndbaa", sum := "407cd756bd83d5dafcf23f5e831fce79ebb8cbc00e1291856fded1f172f27483", func := "truce/trucelaw18.ClaimKeeps", spec := "claimKeeps", inPlace := ["math/bits.Sub64", "math/bits.Add64"], unfollowed := true, recurses := true, apart := false }
def ClaimKeepsSaid : Prop := claimKeepsRow.holds Try.pinned (OpenSpec.ofChange claimKeepsSpec)

/-- ITS FALSE NEIGHBOUR: 'it returns false'. Refute it at one input. -/
def claimKeepsWrong : ChangeSpec := { name := "claimKeeps", fn := fun _ => fun
  | [d1, d2, d3, d4, d5, d6, d7, d8] => { results := [.lit (.bool false)], args := [d1, d2, d3, d4, d5, d6, d7, d8] }
  | _ => none }
def ClaimKeepsWrongFalsely : Prop := claimKeepsRow.holds Try.pinned (OpenSpec.ofChange claimKeepsWrong)

/-- 'trucelaw18.ClaimBack': WHATEVER THE INPUT: true; the input reads as it did. -/
def claimBackSpec : ChangeSpec := { name := "claimBack", fn := fun _ => fun
  | [d1, d2, d3, d4, d5, d6] => { results := [.lit (.bool true)], args := [d1, d2, d3, d4, d5, d6] }
  | _ => none }
def claimBackRow : OpenClaim := { program := "ytlkecihibmndbaa", sum := "407cd756bd83d5dafcf23f5e831fce79ebb8cbc00e1291856fded1f172f27483", func := "truce/trucelaw18.ClaimBack", spec := "claimBack", inPlace := ["math/bits.Sub64", "math/bits.Add64"], unfollowed := true, recurses := true, apart := false }
def ClaimBackSaid : Prop := claimBackRow.holds Try.pinned (OpenSpec.ofChange claimBackSpec)

/-- ITS FALSE NEIGHBOUR: 'it returns false'. Refute it at one input. -/
def claimBackWrong : ChangeSpec := { name := "claimBack", fn := fun _ => fun
  | [d1, d2, d3, d4, d5, d6] => { results := [.lit (.bool false)], args := [d1, d2, d3, d4, d5, d6] }
  | _ => none }
def ClaimBackWrongFalsely : Prop := claimBackRow.holds Try.pinned (OpenSpec.ofChange claimBackWrong)

/-- 'trucelaw18.ClaimSides': WHATEVER THE INPUT: true; the input reads as it did. -/
def claimSidesSpec : ChangeSpec := { name := "claimSides", fn := fun _ => fun
  | [d1, d2, d3, d4, d5, d6] => { results := [.lit (.bool true)], args := [d1, d2, d3, d4, d5, d6] }
  | _ => none }
def claimSidesRow : OpenClaim := { program := "ytlkecihibmndbaa", sum := "407cd756bd83d5dafcf23f5e831fce79ebb8cbc00e1291856fded1f172f27483", func := "truce/trucelaw18.ClaimSides", spec := "claimSides", inPlace := ["math/bits.Sub64", "math/bits.Add64"], unfollowed := true, recurses := true, apart := false }
def ClaimSidesSaid : Prop := claimSidesRow.holds Try.pinned (OpenSpec.ofChange claimSidesSpec)

/-- ITS FALSE NEIGHBOUR: 'it returns false'. Refute it at one input. -/
def claimSidesWrong : ChangeSpec := { name := "claimSides", fn := fun _ => fun
  | [d1, d2, d3, d4, d5, d6] => { results := [.lit (.bool false)], args := [d1, d2, d3, d4, d5, d6] }
  | _ => none }
def ClaimSidesWrongFalsely : Prop := claimSidesRow.holds Try.pinned (OpenSpec.ofChange claimSidesWrong)

/- THE SECOND FORM. 'bulk': how many values and letters a reading holds, each counted each time it is reached (what is shared counts as often as it is met; a slice's spare places count too). A statement '..UptoSaid' is the law's where the arguments, and the package variables that the reading takes, are together of bulk at most 1048576: NARROWER than '..Said'. Prove '..Said' where nothing that the law and all that it calls make is longer than what came in: it says more and counts as full. Else prove '..UptoSaid'. A law counts once. -/
mutual
def uptoBulk {H : Type} : DataW H → Nat
  | .lit (.string bytes) => bytes.length + 1
  | .lit _ => 1
  | .nil => 1
  | .ptr d => uptoBulk d + 1
  | .slice elems spare => uptoBulkAll elems + uptoBulkAll spare + 1
  | .agg parts => uptoBulkAll parts + 1
  | .iface _ d => uptoBulk d + 1
  | .map entries => uptoBulkEntries entries + 1
  | .held _ => 1
def uptoBulkAll {H : Type} : List (DataW H) → Nat
  | [] => 0
  | d :: r => uptoBulk d + uptoBulkAll r
def uptoBulkEntries {H : Type} : List (Lit × DataW H) → Nat
  | [] => 0
  | x :: r => uptoBulkEntry x + uptoBulkEntries r
def uptoBulkEntry {H : Type} : Lit × DataW H → Nat
  | (.string bytes, d) => bytes.length + uptoBulk d + 1
  | (_, d) => uptoBulk d + 1
 end
def uptoSmall : (H : Type) → List (DataW H) → Bool := fun _ ds => decide (uptoBulkAll ds ≤ 1048576)
def OpenSpec.upto (s : _root_.Go.ChangeSpec) : _root_.Go.OpenSpec := { _root_.Go.OpenSpec.ofChange s with cond := some uptoSmall }

/-- 'trucelaw18.ClaimDoes', WHERE WHAT IT READS IS OF BULK AT MOST 1048576: true; the input reads as it did. -/
def claimDoesUptoRow : OpenClaim := { program := "ytlkecihibmndbaa", sum := "407cd756bd83d5dafcf23f5e831fce79ebb8cbc00e1291856fded1f172f27483", func := "truce/trucelaw18.ClaimDoes", spec := "claimDoes", inPlace := ["math/bits.Sub64", "math/bits.Add64"], unfollowed := true, recurses := true, apart := false, narrowed := true }
def ClaimDoesUptoSaid : Prop := claimDoesUptoRow.holds Try.pinned (OpenSpec.upto claimDoesSpec)

/-- 'trucelaw18.ClaimKeeps', WHERE WHAT IT READS IS OF BULK AT MOST 1048576: true; the input reads as it did. -/
def claimKeepsUptoRow : OpenClaim := { program := "ytlkecihibmndbaa", sum := "407cd756bd83d5dafcf23f5e831fce79ebb8cbc00e1291856fded1f172f27483", func := "truce/trucelaw18.ClaimKeeps", spec := "claimKeeps", inPlace := ["math/bits.Sub64", "math/bits.Add64"], unfollowed := true, recurses := true, apart := false, narrowed := true }
def ClaimKeepsUptoSaid : Prop := claimKeepsUptoRow.holds Try.pinned (OpenSpec.upto claimKeepsSpec)

/-- 'trucelaw18.ClaimBack', WHERE WHAT IT READS IS OF BULK AT MOST 1048576: true; the input reads as it did. -/
def claimBackUptoRow : OpenClaim := { program := "ytlkecihibmndbaa", sum := "407cd756bd83d5dafcf23f5e831fce79ebb8cbc00e1291856fded1f172f27483", func := "truce/trucelaw18.ClaimBack", spec := "claimBack", inPlace := ["math/bits.Sub64", "math/bits.Add64"], unfollowed := true, recurses := true, apart := false, narrowed := true }
def ClaimBackUptoSaid : Prop := claimBackUptoRow.holds Try.pinned (OpenSpec.upto claimBackSpec)

/-- 'trucelaw18.ClaimSides', WHERE WHAT IT READS IS OF BULK AT MOST 1048576: true; the input reads as it did. -/
def claimSidesUptoRow : OpenClaim := { program := "ytlkecihibmndbaa", sum := "407cd756bd83d5dafcf23f5e831fce79ebb8cbc00e1291856fded1f172f27483", func := "truce/trucelaw18.ClaimSides", spec := "claimSides", inPlace := ["math/bits.Sub64", "math/bits.Add64"], unfollowed := true, recurses := true, apart := false, narrowed := true }
def ClaimSidesUptoSaid : Prop := claimSidesUptoRow.holds Try.pinned (OpenSpec.upto claimSidesSpec)

end Rows
end Go.Proofs.Ytlkecihibmndbaa
