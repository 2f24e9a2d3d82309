/-
  No cell of these rows narrows 'for every input' (looked for: loops, veiled, ifaces, maps, wideKeys, modest, calm, conditions, laid).
  DERIVED. THE GIVEN ROWS OF THIS SEAT. 4 by the template 'for every input the law returns true; each argument reads behind the call as it read before'; 0 by the template 'total and deterministic' (their statements: YtmnphdgghjdkmaaTotals.lean).
  GIVEN WITH THE SEED: the statements are not yours to turn. If you find one false, say at which input.
  Laid BY PROGRAM, IN A SANDBOX (cutbox-rows.mjs): the forced cells as the released guide's own fill.sh prints them over the translation fe31cf58d9b97792… (all of the seat's roots in one cut). By AI agents, Wed Nov 11 2026. No macro, syntax, notation, axiom, sorry.
-/
import Derived.Test.YtmnphdgghjdkmaaChecked
import GoSem.Claim
import GoSem.ClaimJoined
import GoSem.ClaimMapViews
import Derived.JoinedTies
import Derived.KernelRfl
namespace Go.Proofs.Ytmnphdgghjdkmaa
/- THE CELL 'sum', in the pinned program and in every row, IS THE sha256 OF THE DUMP (.gsa) THAT YtmnphdgghjdkmaaProg.lean LOADS. Nothing in Lean hashes anything: it is a label: what it is worth is what the hold of that sum in a sandbox is worth. -/
noncomputable def Try.pinned : Pinned := { name := "ytmnphdgghjdkmaa", sum := "fe31cf58d9b97792026ffc8c4793b941731244758d8d5a1400827b87c89ede33", checked := Try.checked }
namespace Rows
def none {H : Type} : Left H := { results := [], args := [] }

/-- 'trucelaw17.PayDoes': WHATEVER THE INPUT: true; the input reads as it did. -/
def payDoesSpec : ChangeSpec := { name := "payDoes", fn := fun _ => fun
  | [d1, d2, d3] => { results := [.lit (.bool true)], args := [d1, d2, d3] }
  | _ => none }
def payDoesRow : OpenClaim := { program := "ytmnphdgghjdkmaa", sum := "fe31cf58d9b97792026ffc8c4793b941731244758d8d5a1400827b87c89ede33", func := "truce/trucelaw17.PayDoes", spec := "payDoes", inPlace := ["math/bits.Sub64"], unfollowed := true, recurses := true, apart := false }
def PayDoesSaid : Prop := payDoesRow.holds Try.pinned (OpenSpec.ofChange payDoesSpec)

/-- ITS FALSE NEIGHBOUR: 'it returns false'. Refute it at one input. -/
def payDoesWrong : ChangeSpec := { name := "payDoes", fn := fun _ => fun
  | [d1, d2, d3] => { results := [.lit (.bool false)], args := [d1, d2, d3] }
  | _ => none }
def PayDoesWrongFalsely : Prop := payDoesRow.holds Try.pinned (OpenSpec.ofChange payDoesWrong)

/-- 'trucelaw17.PayOrder': WHATEVER THE INPUT: true; the input reads as it did. -/
def payOrderSpec : ChangeSpec := { name := "payOrder", fn := fun _ => fun
  | [d1, d2] => { results := [.lit (.bool true)], args := [d1, d2] }
  | _ => none }
def payOrderRow : OpenClaim := { program := "ytmnphdgghjdkmaa", sum := "fe31cf58d9b97792026ffc8c4793b941731244758d8d5a1400827b87c89ede33", func := "truce/trucelaw17.PayOrder", spec := "payOrder", inPlace := ["math/bits.Sub64"], unfollowed := true, recurses := true, apart := false }
def PayOrderSaid : Prop := payOrderRow.holds Try.pinned (OpenSpec.ofChange payOrderSpec)

/-- ITS FALSE NEIGHBOUR: 'it returns false'. Refute it at one input. -/
def payOrderWrong : ChangeSpec := { name := "payOrder", fn := fun _ => fun
  | [d1, d2] => { results := [.lit (.bool false)], args := [d1, d2] }
  | _ => none }
def PayOrderWrongFalsely : Prop := payOrderRow.holds Try.pinned (OpenSpec.ofChange payOrderWrong)

/-- 'trucelaw17.PayKeeps': WHATEVER THE INPUT: true; the input reads as it did. -/
def payKeepsSpec : ChangeSpec := { name := "payKeeps", fn := fun _ => fun
  | [d1, d2, d3] => { results := [.lit (.bool true)], args := [d1, d2, d3] }
  | _ => none }
def payKeepsRow : OpenClaim := { program := "ytmnphdgghjdkmaa", sum := "fe31cf58d9b97792026ffc8c4793b941731244758d8d5a1400827b87c89ede33", func := "truce/trucelaw17.PayKeeps", spec := "payKeeps", inPlace := ["math/bits.Sub64", "math/bits.Add64"], unfollowed := true, recurses := true, apart := false }
def PayKeepsSaid : Prop := payKeepsRow.holds Try.pinned (OpenSpec.ofChange payKeepsSpec)

/-- ITS FALSE NEIGHBOUR: 'it returns false'. Refute it at one input. -/
def payKeepsWrong : ChangeSpec := { name := "payKeeps", fn := fun _ => fun
  | [d1, d2, d3] => { results := [.lit (.bool false)], args := [d1, d2, d3] }
  | _ => none }
def PayKeepsWrongFalsely : Prop := payKeepsRow.holds Try.pinned (OpenSpec.ofChange payKeepsWrong)

/-- 'trucelaw17.PayAll': WHATEVER THE INPUT: true; the input reads as it did. -/
def payAllSpec : ChangeSpec := { name := "payAll", fn := fun _ => fun
  | [d1, d2] => { results := [.lit (.bool true)], args := [d1, d2] }
  | _ => none }
def payAllRow : OpenClaim := { program := "ytmnphdgghjdkmaa", sum := "fe31cf58d9b97792026ffc8c4793b941731244758d8d5a1400827b87c89ede33", func := "truce/trucelaw17.PayAll", spec := "payAll", inPlace := ["math/bits.Sub64", "math/bits.Add64"], unfollowed := true, recurses := true, apart := false }
def PayAllSaid : Prop := payAllRow.holds Try.pinned (OpenSpec.ofChange payAllSpec)

/-- ITS FALSE NEIGHBOUR: 'it returns false'. Refute it at one input. -/
def payAllWrong : ChangeSpec := { name := "payAll", fn := fun _ => fun
  | [d1, d2] => { results := [.lit (.bool false)], args := [d1, d2] }
  | _ => none }
def PayAllWrongFalsely : Prop := payAllRow.holds Try.pinned (OpenSpec.ofChange payAllWrong)

/- THE SECOND FORM. 'bulk': how many values and letters a reading holds, each counted each time it is reached (what is shared counts as often as it is met; a slice's spare places count too). A statement '..UptoSaid' is the law's where the arguments, and the package variables that the reading takes, are together of bulk at most 1048576: NARROWER than '..Said'. Prove '..Said' where nothing that the law and all that it calls make is longer than what came in: it says more and counts as full. Else prove '..UptoSaid'. A law counts once. -/
mutual
def uptoBulk {H : Type} : DataW H → Nat
  | .lit (.string bytes) => bytes.length + 1
  | .lit _ => 1
  | .nil => 1
  | .ptr d => uptoBulk d + 1
  | .slice elems spare => uptoBulkAll elems + uptoBulkAll spare + 1
  | .agg parts => uptoBulkAll parts + 1
  | .iface _ d => uptoBulk d + 1
  | .map entries => uptoBulkEntries entries + 1
  | .held _ => 1
def uptoBulkAll {H : Type} : List (DataW H) → Nat
  | [] => 0
  | d :: r => uptoBulk d + uptoBulkAll r
def uptoBulkEntries {H : Type} : List (Lit × DataW H) → Nat
  | [] => 0
  | x :: r => uptoBulkEntry x + uptoBulkEntries r
def uptoBulkEntry {H : Type} : Lit × DataW H → Nat
  | (.string bytes, d) => bytes.length + uptoBulk d + 1
  | (_, d) => uptoBulk d + 1
 end
def uptoSmall : (H : Type) → List (DataW H) → Bool := fun _ ds => decide (uptoBulkAll ds ≤ 1048576)
def OpenSpec.upto (s : _root_.Go.ChangeSpec) : _root_.Go.OpenSpec := { _root_.Go.OpenSpec.ofChange s with cond := some uptoSmall }

/-- 'trucelaw17.PayDoes', WHERE WHAT IT READS IS OF BULK AT MOST 1048576: true; the input reads as it did. -/
def payDoesUptoRow : OpenClaim := { program := "ytmnphdgghjdkmaa", sum := "fe31cf58d9b97792026ffc8c4793b941731244758d8d5a1400827b87c89ede33", func := "truce/trucelaw17.PayDoes", spec := "payDoes", inPlace := ["math/bits.Sub64"], unfollowed := true, recurses := true, apart := false, narrowed := true }
def PayDoesUptoSaid : Prop := payDoesUptoRow.holds Try.pinned (OpenSpec.upto payDoesSpec)

/-- 'trucelaw17.PayOrder', WHERE WHAT IT READS IS OF BULK AT MOST 1048576: true; the input reads as it did. -/
def payOrderUptoRow : OpenClaim := { program := "ytmnphdgghjdkmaa", sum := "fe31cf58d9b97792026ffc8c4793b941731244758d8d5a1400827b87c89ede33", func := "truce/trucelaw17.PayOrder", spec := "payOrder", inPlace := ["math/bits.Sub64"], unfollowed := true, recurses := true, apart := false, narrowed := true }
def PayOrderUptoSaid : Prop := payOrderUptoRow.holds Try.pinned (OpenSpec.upto payOrderSpec)

/-- 'trucelaw17.PayKeeps', WHERE WHAT IT READS IS OF BULK AT MOST 1048576: true; the input reads as it did. -/
def payKeepsUptoRow : OpenClaim := { program := "ytmnphdgghjdkmaa", sum := "fe31cf58d9b97792026ffc8c4793b941731244758d8d5a1400827b87c89ede33", func := "truce/trucelaw17.PayKeeps", spec := "payKeeps", inPlace := ["math/bits.Sub64", "math/bits.Add64"], unfollowed := true, recurses := true, apart := false, narrowed := true }
def PayKeepsUptoSaid : Prop := payKeepsUptoRow.holds Try.pinned (OpenSpec.upto payKeepsSpec)

/-- 'trucelaw17.PayAll', WHERE WHAT IT READS IS OF BULK AT MOST 1048576: true; the input reads as it did. -/
def payAllUptoRow : OpenClaim := { program := "ytmnphdgghjdkmaa", sum := "fe31cf58d9b97792026ffc8c4793b941731244758d8d5a1400827b87c89ede33", func := "truce/trucelaw17.PayAll", spec := "payAll", inPlace := ["math/bits.Sub64", "math/bits.Add64"], unfollowed := true, recurses := true, apart := false, narrowed := true }
def PayAllUptoSaid : Prop := payAllUptoRow.holds Try.pinned (OpenSpec.upto payAllSpec)

end Rows
end Go.Proofs.Ytmnphdgghjdkmaa
