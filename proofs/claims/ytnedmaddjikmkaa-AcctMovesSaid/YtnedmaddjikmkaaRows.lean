/-
  No cell of these rows narrows 'for every input' (looked for: loops, veiled, ifaces, maps, wideKeys, modest, calm, conditions, laid).
  DERIVED. THE GIVEN ROWS OF THIS SEAT. 4 by the template 'for every input the law returns true; each argument reads behind the call as it read before'; 0 by the template 'total and deterministic' (their statements: YtnedmaddjikmkaaTotals.lean).
  GIVEN WITH THE SEED: the statements are not yours to turn. If you find one false, say at which input.
  Laid BY PROGRAM, IN A SANDBOX (cutbox-rows.mjs): the forced cells as the released guide's own fill.sh prints them over the translation 28ca65d03a1dc2ad… (all of the seat's roots in one cut). By AI agents, Wed Nov 11 2026. No macro, syntax, notation, axiom, sorry.
-/
import Derived.Test.YtnedmaddjikmkaaChecked
import GoSem.Claim
import GoSem.ClaimJoined
import GoSem.ClaimMapViews
import Derived.JoinedTies
import Derived.KernelRfl
namespace Go.Proofs.Ytnedmaddjikmkaa
/- THE CELL 'sum', in the pinned program and in every row, IS THE sha256 OF THE DUMP (.gsa) THAT YtnedmaddjikmkaaProg.lean LOADS. Nothing in Lean hashes anything: it is a label: what it is worth is what the hold of that sum in a sandbox is worth. -/
noncomputable def Try.pinned : Pinned := { name := "ytnedmaddjikmkaa", sum := "28ca65d03a1dc2adb1b914a6b29df66013f6722b5037ea92d5434cd930a02119", checked := Try.checked }
namespace Rows
def none {H : Type} : Left H := { results := [], args := [] }

/-- 'trucelaw16.AcctDoes': WHATEVER THE INPUT: true; the input reads as it did. -/
def acctDoesSpec : ChangeSpec := { name := "acctDoes", fn := fun _ => fun
  | [d1, d2, d3, d4] => { results := [.lit (.bool true)], args := [d1, d2, d3, d4] }
  | _ => none }
def acctDoesRow : OpenClaim := { program := "ytnedmaddjikmkaa", sum := "28ca65d03a1dc2adb1b914a6b29df66013f6722b5037ea92d5434cd930a02119", func := "truce/trucelaw16.AcctDoes", spec := "acctDoes", inPlace := ["math/bits.Add64", "internal/bytealg.abigen_runtime_cmpstring", "slices.overlaps[truce/api.Coin]", "math/bits.Sub64"], unfollowed := true, recurses := true, apart := false }
def AcctDoesSaid : Prop := acctDoesRow.holds Try.pinned (OpenSpec.ofChange acctDoesSpec)

/-- ITS FALSE NEIGHBOUR: 'it returns false'. Refute it at one input. -/
def acctDoesWrong : ChangeSpec := { name := "acctDoes", fn := fun _ => fun
  | [d1, d2, d3, d4] => { results := [.lit (.bool false)], args := [d1, d2, d3, d4] }
  | _ => none }
def AcctDoesWrongFalsely : Prop := acctDoesRow.holds Try.pinned (OpenSpec.ofChange acctDoesWrong)

/-- 'trucelaw16.AcctKeeps': WHATEVER THE INPUT: true; the input reads as it did. -/
def acctKeepsSpec : ChangeSpec := { name := "acctKeeps", fn := fun _ => fun
  | [d1, d2, d3, d4] => { results := [.lit (.bool true)], args := [d1, d2, d3, d4] }
  | _ => none }
def acctKeepsRow : OpenClaim := { program := "ytnedmaddjikmkaa", sum := "28ca65d03a1dc2adb1b914a6b29df66013f6722b5037ea92d5434cd930a02119", func := "truce/trucelaw16.AcctKeeps", spec := "acctKeeps", inPlace := ["math/bits.Add64", "internal/bytealg.abigen_runtime_cmpstring", "slices.overlaps[truce/api.Coin]", "math/bits.Sub64"], unfollowed := true, recurses := true, apart := false }
def AcctKeepsSaid : Prop := acctKeepsRow.holds Try.pinned (OpenSpec.ofChange acctKeepsSpec)

/-- ITS FALSE NEIGHBOUR: 'it returns false'. Refute it at one input. -/
def acctKeepsWrong : ChangeSpec := { name := "acctKeeps", fn := fun _ => fun
  | [d1, d2, d3, d4] => { results := [.lit (.bool false)], args := [d1, d2, d3, d4] }
  | _ => none }
def AcctKeepsWrongFalsely : Prop := acctKeepsRow.holds Try.pinned (OpenSpec.ofChange acctKeepsWrong)

/-- 'trucelaw16.AcctMoves': WHATEVER THE INPUT: true; the input reads as it did. -/
def acctMovesSpec : ChangeSpec := { name := "acctMoves", fn := fun _ => fun
  | [d1, d2, d3, d4, d5] => { results := [.lit (.bool true)], args := [d1, d2, d3, d4, d5] }
  | _ => none }
def acctMovesRow : OpenClaim := { program := "ytnedmaddjikmkaa", sum := "28ca65d03a1dc2adb1b914a6b29df66013f6722b5037ea92d5434cd930a02119", func := "truce/trucelaw16.AcctMoves", spec := "acctMoves", inPlace := ["math/bits.Add64", "internal/bytealg.abigen_runtime_cmpstring", "slices.overlaps[truce/api.Coin]", "math/bits.Sub64"], unfollowed := true, recurses := true, apart := false }
def AcctMovesSaid : Prop := acctMovesRow.holds Try.pinned (OpenSpec.ofChange acctMovesSpec)

/-- ITS FALSE NEIGHBOUR: 'it returns false'. Refute it at one input. -/
def acctMovesWrong : ChangeSpec := { name := "acctMoves", fn := fun _ => fun
  | [d1, d2, d3, d4, d5] => { results := [.lit (.bool false)], args := [d1, d2, d3, d4, d5] }
  | _ => none }
def AcctMovesWrongFalsely : Prop := acctMovesRow.holds Try.pinned (OpenSpec.ofChange acctMovesWrong)

/-- 'trucelaw16.AcctTells': WHATEVER THE INPUT: true; the input reads as it did. -/
def acctTellsSpec : ChangeSpec := { name := "acctTells", fn := fun _ => fun
  | [d1, d2, d3] => { results := [.lit (.bool true)], args := [d1, d2, d3] }
  | _ => none }
def acctTellsRow : OpenClaim := { program := "ytnedmaddjikmkaa", sum := "28ca65d03a1dc2adb1b914a6b29df66013f6722b5037ea92d5434cd930a02119", func := "truce/trucelaw16.AcctTells", spec := "acctTells", inPlace := ["math/bits.Add64", "internal/bytealg.abigen_runtime_cmpstring", "slices.overlaps[truce/api.Coin]", "math/bits.Sub64"], unfollowed := true, recurses := true, apart := false }
def AcctTellsSaid : Prop := acctTellsRow.holds Try.pinned (OpenSpec.ofChange acctTellsSpec)

/-- ITS FALSE NEIGHBOUR: 'it returns false'. Refute it at one input. -/
def acctTellsWrong : ChangeSpec := { name := "acctTells", fn := fun _ => fun
  | [d1, d2, d3] => { results := [.lit (.bool false)], args := [d1, d2, d3] }
  | _ => none }
def AcctTellsWrongFalsely : Prop := acctTellsRow.holds Try.pinned (OpenSpec.ofChange acctTellsWrong)

/- THE SECOND FORM. 'bulk': how many values and letters a reading holds, each counted each time it is reached (what is shared counts as often as it is met; a slice's spare places count too). A statement '..UptoSaid' is the law's where the arguments, and the package variables that the reading takes, are together of bulk at most 1048576: NARROWER than '..Said'. Prove '..Said' where nothing that the law and all that it calls make is longer than what came in: it says more and counts as full. Else prove '..UptoSaid'. A law counts once. -/
mutual
def uptoBulk {H : Type} : DataW H → Nat
  | .lit (.string bytes) => bytes.length + 1
  | .lit _ => 1
  | .nil => 1
  | .ptr d => uptoBulk d + 1
  | .slice elems spare => uptoBulkAll elems + uptoBulkAll spare + 1
  | .agg parts => uptoBulkAll parts + 1
  | .iface _ d => uptoBulk d + 1
  | .map entries => uptoBulkEntries entries + 1
  | .held _ => 1
def uptoBulkAll {H : Type} : List (DataW H) → Nat
  | [] => 0
  | d :: r => uptoBulk d + uptoBulkAll r
def uptoBulkEntries {H : Type} : List (Lit × DataW H) → Nat
  | [] => 0
  | x :: r => uptoBulkEntry x + uptoBulkEntries r
def uptoBulkEntry {H : Type} : Lit × DataW H → Nat
  | (.string bytes, d) => bytes.length + uptoBulk d + 1
  | (_, d) => uptoBulk d + 1
 end
def uptoSmall : (H : Type) → List (DataW H) → Bool := fun _ ds => decide (uptoBulkAll ds ≤ 1048576)
def OpenSpec.upto (s : _root_.Go.ChangeSpec) : _root_.Go.OpenSpec := { _root_.Go.OpenSpec.ofChange s with cond := some uptoSmall }

/-- 'trucelaw16.AcctDoes', WHERE WHAT IT READS IS OF BULK AT MOST 1048576: true; the input reads as it did. -/
def acctDoesUptoRow : OpenClaim := { program := "ytnedmaddjikmkaa", sum := "28ca65d03a1dc2adb1b914a6b29df66013f6722b5037ea92d5434cd930a02119", func := "truce/trucelaw16.AcctDoes", spec := "acctDoes", inPlace := ["math/bits.Add64", "internal/bytealg.abigen_runtime_cmpstring", "slices.overlaps[truce/api.Coin]", "math/bits.Sub64"], unfollowed := true, recurses := true, apart := false, narrowed := true }
def AcctDoesUptoSaid : Prop := acctDoesUptoRow.holds Try.pinned (OpenSpec.upto acctDoesSpec)

/-- 'trucelaw16.AcctKeeps', WHERE WHAT IT READS IS OF BULK AT MOST 1048576: true; the input reads as it did. -/
def acctKeepsUptoRow : OpenClaim := { program := "ytnedmaddjikmkaa", sum := "28ca65d03a1dc2adb1b914a6b29df66013f6722b5037ea92d5434cd930a02119", func := "truce/trucelaw16.AcctKeeps", spec := "acctKeeps", inPlace := ["math/bits.Add64", "internal/bytealg.abigen_runtime_cmpstring", "slices.overlaps[truce/api.Coin]", "math/bits.Sub64"], unfollowed := true, recurses := true, apart := false, narrowed := true }
def AcctKeepsUptoSaid : Prop := acctKeepsUptoRow.holds Try.pinned (OpenSpec.upto acctKeepsSpec)

/-- 'trucelaw16.AcctMoves', WHERE WHAT IT READS IS OF BULK AT MOST 1048576: true; the input reads as it did. -/
def acctMovesUptoRow : OpenClaim := { program := "ytnedmaddjikmkaa", sum := "28ca65d03a1dc2adb1b914a6b29df66013f6722b5037ea92d5434cd930a02119", func := "truce/trucelaw16.AcctMoves", spec := "acctMoves", inPlace := ["math/bits.Add64", "internal/bytealg.abigen_runtime_cmpstring", "slices.overlaps[truce/api.Coin]", "math/bits.Sub64"], unfollowed := true, recurses := true, apart := false, narrowed := true }
def AcctMovesUptoSaid : Prop := acctMovesUptoRow.holds Try.pinned (OpenSpec.upto acctMovesSpec)

/-- 'trucelaw16.AcctTells', WHERE WHAT IT READS IS OF BULK AT MOST 1048576: true; the input reads as it did. -/
def acctTellsUptoRow : OpenClaim := { program := "ytnedmaddjikmkaa", sum := "28ca65d03a1dc2adb1b914a6b29df66013f6722b5037ea92d5434cd930a02119", func := "truce/trucelaw16.AcctTells", spec := "acctTells", inPlace := ["math/bits.Add64", "internal/bytealg.abigen_runtime_cmpstring", "slices.overlaps[truce/api.Coin]", "math/bits.Sub64"], unfollowed := true, recurses := true, apart := false, narrowed := true }
def AcctTellsUptoSaid : Prop := acctTellsUptoRow.holds Try.pinned (OpenSpec.upto acctTellsSpec)

end Rows
end Go.Proofs.Ytnedmaddjikmkaa
