/-
  No cell of these rows narrows 'for every input' (looked for: loops, veiled, ifaces, maps, wideKeys, modest, calm, conditions, laid).
  DERIVED. THE GIVEN ROWS OF THIS SEAT. 5 by the template 'for every input the law returns true; each argument reads behind the call as it read before'; 0 by the template 'total and deterministic' (their statements: YthfcabobdcicdaaTotals.lean).
  GIVEN WITH THE SEED: the statements are not yours to turn. If you find one false, say at which input.
  Laid BY PROGRAM, IN A SANDBOX (cutbox-rows.mjs): the forced cells as the released guide's own fill.sh prints them over the translation 10586b86f8f78854… (all of the seat's roots in one cut). By AI agents, Wed Nov 11 2026. No macro, syntax, notation, axiom, sorry.
-/
import Derived.Test.YthfcabobdcicdaaChecked
import GoSem.Claim
import GoSem.ClaimJoined
import GoSem.ClaimMapViews
import Derived.JoinedTies
import Derived.KernelRfl
namespace Go.Proofs.Ythfcabobdcicdaa
/- THE CELL 'sum', in the pinned program and in every row, IS THE sha256 OF THE DUMP (.gsa) THAT YthfcabobdcicdaaProg.lean LOADS. Nothing in Lean hashes anything: it is a label: what it is worth is what the hold of that sum in a sandbox is worth. -/
noncomputable def Try.pinned : Pinned := { name := "ythfcabobdcicdaa", sum := "10586b86f8f78854e76f38018a21d7ff011025ba0245d23a6399c41d9b5ef623", checked := Try.checked }
namespace Rows
def none {H : Type} : Left H := { results := [], args := [] }

/-- 'trucelaw05.HashPermutes': WHATEVER THE INPUT: true; the input reads as it did. -/
def hashPermutesSpec : ChangeSpec := { name := "hashPermutes", fn := fun _ => fun
  | [d] => { results := [.lit (.bool true)], args := [d] }
  | _ => none }
def hashPermutesRow : OpenClaim := { program := "ythfcabobdcicdaa", sum := "10586b86f8f78854e76f38018a21d7ff011025ba0245d23a6399c41d9b5ef623", func := "truce/trucelaw05.HashPermutes", spec := "hashPermutes", inPlace := ["internal/abi.NoEscape"], unfollowed := true, recurses := true, apart := false }
def HashPermutesSaid : Prop := hashPermutesRow.holds Try.pinned (OpenSpec.ofChange hashPermutesSpec)

/-- ITS FALSE NEIGHBOUR: 'it returns false'. Refute it at one input. -/
def hashPermutesWrong : ChangeSpec := { name := "hashPermutes", fn := fun _ => fun
  | [d] => { results := [.lit (.bool false)], args := [d] }
  | _ => none }
def HashPermutesWrongFalsely : Prop := hashPermutesRow.holds Try.pinned (OpenSpec.ofChange hashPermutesWrong)

/-- 'trucelaw05.HashSums': WHATEVER THE INPUT: true; the input reads as it did. -/
def hashSumsSpec : ChangeSpec := { name := "hashSums", fn := fun _ => fun
  | [d] => { results := [.lit (.bool true)], args := [d] }
  | _ => none }
def hashSumsRow : OpenClaim := { program := "ythfcabobdcicdaa", sum := "10586b86f8f78854e76f38018a21d7ff011025ba0245d23a6399c41d9b5ef623", func := "truce/trucelaw05.HashSums", spec := "hashSums", inPlace := ["internal/abi.NoEscape"], unfollowed := true, recurses := true, apart := false }
def HashSumsSaid : Prop := hashSumsRow.holds Try.pinned (OpenSpec.ofChange hashSumsSpec)

/-- ITS FALSE NEIGHBOUR: 'it returns false'. Refute it at one input. -/
def hashSumsWrong : ChangeSpec := { name := "hashSums", fn := fun _ => fun
  | [d] => { results := [.lit (.bool false)], args := [d] }
  | _ => none }
def HashSumsWrongFalsely : Prop := hashSumsRow.holds Try.pinned (OpenSpec.ofChange hashSumsWrong)

/-- 'trucelaw05.HashUnlike': WHATEVER THE INPUT: true; the input reads as it did. -/
def hashUnlikeSpec : ChangeSpec := { name := "hashUnlike", fn := fun _ => fun
  | [d1, d2, d3] => { results := [.lit (.bool true)], args := [d1, d2, d3] }
  | _ => none }
def hashUnlikeRow : OpenClaim := { program := "ythfcabobdcicdaa", sum := "10586b86f8f78854e76f38018a21d7ff011025ba0245d23a6399c41d9b5ef623", func := "truce/trucelaw05.HashUnlike", spec := "hashUnlike", inPlace := ["internal/abi.NoEscape"], unfollowed := true, recurses := true, apart := false }
def HashUnlikeSaid : Prop := hashUnlikeRow.holds Try.pinned (OpenSpec.ofChange hashUnlikeSpec)

/-- ITS FALSE NEIGHBOUR: 'it returns false'. Refute it at one input. -/
def hashUnlikeWrong : ChangeSpec := { name := "hashUnlike", fn := fun _ => fun
  | [d1, d2, d3] => { results := [.lit (.bool false)], args := [d1, d2, d3] }
  | _ => none }
def HashUnlikeWrongFalsely : Prop := hashUnlikeRow.holds Try.pinned (OpenSpec.ofChange hashUnlikeWrong)

/-- 'trucelaw05.HashSize': WHATEVER THE INPUT: true; the input reads as it did. -/
def hashSizeSpec : ChangeSpec := { name := "hashSize", fn := fun _ => fun
  | [d] => { results := [.lit (.bool true)], args := [d] }
  | _ => none }
def hashSizeRow : OpenClaim := { program := "ythfcabobdcicdaa", sum := "10586b86f8f78854e76f38018a21d7ff011025ba0245d23a6399c41d9b5ef623", func := "truce/trucelaw05.HashSize", spec := "hashSize", inPlace := ["internal/abi.NoEscape"], unfollowed := true, recurses := true, apart := false }
def HashSizeSaid : Prop := hashSizeRow.holds Try.pinned (OpenSpec.ofChange hashSizeSpec)

/-- ITS FALSE NEIGHBOUR: 'it returns false'. Refute it at one input. -/
def hashSizeWrong : ChangeSpec := { name := "hashSize", fn := fun _ => fun
  | [d] => { results := [.lit (.bool false)], args := [d] }
  | _ => none }
def HashSizeWrongFalsely : Prop := hashSizeRow.holds Try.pinned (OpenSpec.ofChange hashSizeWrong)

/-- 'trucelaw05.HashBlocks': WHATEVER THE INPUT: true; the input reads as it did. -/
def hashBlocksSpec : ChangeSpec := { name := "hashBlocks", fn := fun _ => fun
  | [d] => { results := [.lit (.bool true)], args := [d] }
  | _ => none }
def hashBlocksRow : OpenClaim := { program := "ythfcabobdcicdaa", sum := "10586b86f8f78854e76f38018a21d7ff011025ba0245d23a6399c41d9b5ef623", func := "truce/trucelaw05.HashBlocks", spec := "hashBlocks", inPlace := ["internal/abi.NoEscape"], unfollowed := true, recurses := true, apart := false }
def HashBlocksSaid : Prop := hashBlocksRow.holds Try.pinned (OpenSpec.ofChange hashBlocksSpec)

/-- ITS FALSE NEIGHBOUR: 'it returns false'. Refute it at one input. -/
def hashBlocksWrong : ChangeSpec := { name := "hashBlocks", fn := fun _ => fun
  | [d] => { results := [.lit (.bool false)], args := [d] }
  | _ => none }
def HashBlocksWrongFalsely : Prop := hashBlocksRow.holds Try.pinned (OpenSpec.ofChange hashBlocksWrong)

/- THE SECOND FORM. 'bulk': how many values and letters a reading holds, each counted each time it is reached (what is shared counts as often as it is met; a slice's spare places count too). A statement '..UptoSaid' is the law's where the arguments, and the package variables that the reading takes, are together of bulk at most 1048576: NARROWER than '..Said'. Prove '..Said' where nothing that the law and all that it calls make is longer than what came in: it says more and counts as full. Else prove '..UptoSaid'. A law counts once. -/
mutual
def uptoBulk {H : Type} : DataW H → Nat
  | .lit (.string bytes) => bytes.length + 1
  | .lit _ => 1
  | .nil => 1
  | .ptr d => uptoBulk d + 1
  | .slice elems spare => uptoBulkAll elems + uptoBulkAll spare + 1
  | .agg parts => uptoBulkAll parts + 1
  | .iface _ d => uptoBulk d + 1
  | .map entries => uptoBulkEntries entries + 1
  | .held _ => 1
def uptoBulkAll {H : Type} : List (DataW H) → Nat
  | [] => 0
  | d :: r => uptoBulk d + uptoBulkAll r
def uptoBulkEntries {H : Type} : List (Lit × DataW H) → Nat
  | [] => 0
  | x :: r => uptoBulkEntry x + uptoBulkEntries r
def uptoBulkEntry {H : Type} : Lit × DataW H → Nat
  | (.string bytes, d) => bytes.length + uptoBulk d + 1
  | (_, d) => uptoBulk d + 1
 end
def uptoSmall : (H : Type) → List (DataW H) → Bool := fun _ ds => decide (uptoBulkAll ds ≤ 1048576)
def OpenSpec.upto (s : _root_.Go.ChangeSpec) : _root_.Go.OpenSpec := { _root_.Go.OpenSpec.ofChange s with cond := some uptoSmall }

/-- 'trucelaw05.HashPermutes', WHERE WHAT IT READS IS OF BULK AT MOST 1048576: true; the input reads as it did. -/
def hashPermutesUptoRow : OpenClaim := { program := "ythfcabobdcicdaa", sum := "10586b86f8f78854e76f38018a21d7ff011025ba0245d23a6399c41d9b5ef623", func := "truce/trucelaw05.HashPermutes", spec := "hashPermutes", inPlace := ["internal/abi.NoEscape"], unfollowed := true, recurses := true, apart := false, narrowed := true }
def HashPermutesUptoSaid : Prop := hashPermutesUptoRow.holds Try.pinned (OpenSpec.upto hashPermutesSpec)

/-- 'trucelaw05.HashSums', WHERE WHAT IT READS IS OF BULK AT MOST 1048576: true; the input reads as it did. -/
def hashSumsUptoRow : OpenClaim := { program := "ythfcabobdcicdaa", sum := "10586b86f8f78854e76f38018a21d7ff011025ba0245d23a6399c41d9b5ef623", func := "truce/trucelaw05.HashSums", spec := "hashSums", inPlace := ["internal/abi.NoEscape"], unfollowed := true, recurses := true, apart := false, narrowed := true }
def HashSumsUptoSaid : Prop := hashSumsUptoRow.holds Try.pinned (OpenSpec.upto hashSumsSpec)

/-- 'trucelaw05.HashUnlike', WHERE WHAT IT READS IS OF BULK AT MOST 1048576: true; the input reads as it did. -/
def hashUnlikeUptoRow : OpenClaim := { program := "ythfcabobdcicdaa", sum := "10586b86f8f78854e76f38018a21d7ff011025ba0245d23a6399c41d9b5ef623", func := "truce/trucelaw05.HashUnlike", spec := "hashUnlike", inPlace := ["internal/abi.NoEscape"], unfollowed := true, recurses := true, apart := false, narrowed := true }
def HashUnlikeUptoSaid : Prop := hashUnlikeUptoRow.holds Try.pinned (OpenSpec.upto hashUnlikeSpec)

/-- 'trucelaw05.HashSize', WHERE WHAT IT READS IS OF BULK AT MOST 1048576: true; the input reads as it did. -/
def hashSizeUptoRow : OpenClaim := { program := "ythfcabobdcicdaa", sum := "10586b86f8f78854e76f38018a21d7ff011025ba0245d23a6399c41d9b5ef623", func := "truce/trucelaw05.HashSize", spec := "hashSize", inPlace := ["internal/abi.NoEscape"], unfollowed := true, recurses := true, apart := false, narrowed := true }
def HashSizeUptoSaid : Prop := hashSizeUptoRow.holds Try.pinned (OpenSpec.upto hashSizeSpec)

/-- 'trucelaw05.HashBlocks', WHERE WHAT IT READS IS OF BULK AT MOST 1048576: true; the input reads as it did. -/
def hashBlocksUptoRow : OpenClaim := { program := "ythfcabobdcicdaa", sum := "10586b86f8f78854e76f38018a21d7ff011025ba0245d23a6399c41d9b5ef623", func := "truce/trucelaw05.HashBlocks", spec := "hashBlocks", inPlace := ["internal/abi.NoEscape"], unfollowed := true, recurses := true, apart := false, narrowed := true }
def HashBlocksUptoSaid : Prop := hashBlocksUptoRow.holds Try.pinned (OpenSpec.upto hashBlocksSpec)

end Rows
end Go.Proofs.Ythfcabobdcicdaa
