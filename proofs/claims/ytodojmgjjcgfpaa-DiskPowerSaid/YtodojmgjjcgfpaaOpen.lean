import Derived.Test.YtodojmgjjcgfpaaP0
import Derived.ProofKit
import Derived.OpenShut
import Derived.ShutString
import Derived.Lib.SmallJoins
namespace Go.Proofs.Ytodojmgjjcgfpaa.P
open Go.ChangeShapes Go.WideShapes Go.ChangeAt Go.RowKit Go.Joins
open Go.ChangeMaps (open_string shut_string)
structure DiskV where
  D : ByteArray
  T : ByteArray
  F : Int
  O : Bool
def DiskV.val (x : DiskV) : Value := .agg #[.string x.D, .string x.T, .int .i64 x.F, .bool x.O]
theorem open_disk {H : Type} {enc : TypeId × Value → H} {W : World} {b0 : Nat} {base : Nat} {spare : Nat → Bool} {held : Bool} {r : Reach} {v : Value} {d : DataW H} {p : List MemPlace}
    (hv : Value.okWide Try.prog W r b0 23 v) (h : DataW.Trod enc Try.prog W base spare held 23 v d p) : ∃ x : DiskV, v = x.val ∧ (Lit.int .i64 x.F).wf = true := by
  obtain ⟨c0, c1, c2, c3, y0, y1, y2, y3, m, rfl, rfl, rfl, hy0, hy1, hy2, hy3⟩ := open_agg4 Try.underlying23 (by kernel_rfl) (by kernel_rfl) hv h
  obtain ⟨s0, e0, _, _⟩ := DataW.trod_string Try.underlying9 hy0
  obtain ⟨s1, e1, _, _⟩ := DataW.trod_string Try.underlying9 hy1
  obtain ⟨n2, e2, _, w2⟩ := DataW.trod_int Try.underlying3 hy2
  obtain ⟨b3, e3, _⟩ := DataW.trod_bool Try.underlying4 hy3
  simp only [List.cons.injEq, and_true] at e0 e1 e2 e3
  subst e0 e1 e2 e3
  exact ⟨⟨s0, s1, n2, b3⟩, rfl, w2⟩
end Go.Proofs.Ytodojmgjjcgfpaa.P
