import Derived.Test.YtodojmgjjcgfpaaP0
import Derived.BigRegion
namespace Go.Proofs.Ytodojmgjjcgfpaa.P
set_option linter.unusedVariables false
open Go.RowKit Go.Proofs.YtodojmgjjcgfpaaW.PrintWords Go.Proofs.YtodojmgjjcgfpaaW.PrintLast Go.Proofs.YtodojmgjjcgfpaaW.PrintMore
def cutTo (k : Int) (n : Nat) : Int := if 0 < if (n : Int) < k then (n : Int) else k then if (n : Int) < k then (n : Int) else k else 0
theorem cutTo_of (k : Int) (n : Nat) : (if 0 < if (n : Int) < k then (n : Int) else k then if (n : Int) < k then (n : Int) else k else 0) = cutTo k n := rfl
theorem cutTo_le (k : Int) (n : Nat) : 0 ≤ cutTo k n ∧ cutTo k n ≤ n := by unfold cutTo; split <;> split <;> omega
theorem below2 (w : World) (a b : Obj) : Below w.heap.size w ((w.alloc a).alloc b) := below_alloc (below_alloc (Below.refl _ _) a) b
theorem below2d (w : World) (a b : Obj) : Below w.heap.size w (((w.alloc a).alloc b).drew) := pw_below_drewN (below2 w a b) 1
attribute [local go_sem] max2_int min2_int max_two min_two in
set_option maxHeartbeats 1000000 in
theorem crash_any (D T : ByteArray) (F : Int) (O : Bool) (k : Int) (w : World) (hD : D.size ≤ 200000) (hT : T.size ≤ 200000) :
    Calls Try.prog 11 #[.agg #[.string D, .string T, .int .i64 F, .bool O], .int .i64 k] w fun e w' => e = .returned (.agg #[.string (D ++ T.extract 0 (cutTo k T.size).toNat), .string ⟨#[]⟩, .int .i64 (-1), .bool false]) ∧ Below w.heap.size w w' := by
  obtain ⟨j, hj⟩ : ∃ j, cutTo k T.size = j := ⟨_, rfl⟩
  have hb := cutTo_le k T.size
  rw [hj] at hb
  obtain ⟨hb0, hb1⟩ := hb
  have Hj := Aside0.mk hj
  clear hj
  go_enter Try.func11, Try.ntmps11
  go_wp2
  go_region
  simp only [cutTo_of, Hj.out]
  go_wp2
  all_goals exact bodyPost_ret (v := .agg #[.string (D ++ T.extract 0 j.toNat), .string ⟨#[]⟩, .int .i64 (-1), .bool false]) (by simp [results, Try.results11, go_sem]) rfl ⟨by rw [Hj.out], below2d _ _ _⟩
def disk_Crash.f (D T : ByteArray) (F : Int) (O : Bool) (k : Int) : Option (ByteArray × ByteArray × Int × Bool) :=
  if D.size ≤ 200000 ∧ T.size ≤ 200000 then some (D ++ T.extract 0 (cutTo k T.size).toNat, ⟨#[]⟩, -1, false) else none
theorem disk_Crash.calls (a0_0 : ByteArray) (a0_1 : ByteArray) (a0_2 : Int) (a0_3 : Bool) (a1 : Int) (r1 : ByteArray) (r2 : ByteArray) (r3 : Int) (r4 : Bool) (w : World) (h : disk_Crash.f a0_0 a0_1 a0_2 a0_3 a1 = some (r1, r2, r3, r4)) :
    Calls Try.prog 11 #[.agg #[.string a0_0, .string a0_1, .int .i64 a0_2, .bool a0_3], .int .i64 a1] w fun e w' => e = .returned (.agg #[.string r1, .string r2, .int .i64 r3, .bool r4]) ∧ Below w.heap.size w w' := by
  unfold disk_Crash.f at h
  split at h
  · simp only [Option.some.injEq, Prod.mk.injEq] at h
    rename_i hb
    obtain ⟨rfl, rfl, rfl, rfl⟩ := h
    exact crash_any _ _ _ _ _ _ hb.1 hb.2
  · cases h
end Go.Proofs.Ytodojmgjjcgfpaa.P
