import Derived.Test.YtodojmgjjcgfpaaGCrash
namespace Go.Proofs.Ytodojmgjjcgfpaa.P
set_option linter.unusedVariables false
open Go.RowKit Go.Proofs.YtodojmgjjcgfpaaW.PrintWords Go.Proofs.YtodojmgjjcgfpaaW.PrintLast Go.Proofs.YtodojmgjjcgfpaaW.PrintMore
attribute [local go_sem] max2_int min2_int max_two min_two
theorem cutTo_neg {k : Int} (n : Nat) (h : k < 0) : cutTo k n = 0 := by unfold cutTo; split <;> split <;> omega
theorem cutTo_big {k : Int} {n : Nat} (h : (n : Int) < k) : cutTo k n = n := by unfold cutTo; split <;> split <;> omega
theorem cutTo_mid {k : Int} {n : Nat} (h0 : 0 ≤ k) (h : k ≤ n) : cutTo k n = k := by unfold cutTo; split <;> split <;> omega
set_option maxHeartbeats 1000000 in
theorem rcrash_any (D T : ByteArray) (F : Int) (O : Bool) (k : Int) (w : World) (hD : D.size ≤ 200000) (hT : T.size ≤ 200000) :
    Calls Try.prog 19 #[.agg #[.string D, .string T, .int .i64 F, .bool O], .int .i64 k] w fun e w' => e = .returned (.agg #[.string (D ++ T.extract 0 (cutTo k T.size).toNat), .string ⟨#[]⟩, .int .i64 (-1), .bool false]) ∧ Below w.heap.size w w' := by
  rcases Int.lt_or_le k 0 with h0 | h0
  · have e1 : (k < 0) = True := eq_true h0
    have e2 : ((T.size : Int) < 0) = False := eq_false (by omega)
    go_enter Try.func19, Try.ntmps19
    go_wp2
    go_region
    go_wp2
    exact bodyPost_ret (v := .agg #[.string D, .string ⟨#[]⟩, .int .i64 (-1), .bool false]) (by simp [results, Try.results19, go_sem]) rfl ⟨by rw [cutTo_neg _ h0]; simp, below2d _ _ _⟩
  · have e1 : (k < 0) = False := eq_false (by omega)
    rcases Int.lt_or_le T.size k with h1 | h1
    · have e2 : ((T.size : Int) < k) = True := eq_true h1
      go_enter Try.func19, Try.ntmps19
      go_wp2
      go_region
      go_wp2
      exact bodyPost_ret (v := .agg #[.string (D ++ T), .string ⟨#[]⟩, .int .i64 (-1), .bool false]) (by simp [results, Try.results19, go_sem]) rfl ⟨by rw [cutTo_big h1]; simp, below2d _ _ _⟩
    · have e2 : ((T.size : Int) < k) = False := eq_false (by omega)
      go_enter Try.func19, Try.ntmps19
      go_wp2
      go_region
      go_wp2
      exact bodyPost_ret (v := .agg #[.string (D ++ T.extract 0 k.toNat), .string ⟨#[]⟩, .int .i64 (-1), .bool false]) (by simp [results, Try.results19, go_sem]) rfl ⟨by rw [cutTo_mid h0 h1], below2d _ _ _⟩
def truceref22_Crash.f (D T : ByteArray) (F : Int) (O : Bool) (k : Int) : Option (ByteArray × ByteArray × Int × Bool) :=
  if D.size ≤ 200000 ∧ T.size ≤ 200000 then some (D ++ T.extract 0 (cutTo k T.size).toNat, ⟨#[]⟩, -1, false) else none
theorem truceref22_Crash.calls (a0_0 : ByteArray) (a0_1 : ByteArray) (a0_2 : Int) (a0_3 : Bool) (a1 : Int) (r1 : ByteArray) (r2 : ByteArray) (r3 : Int) (r4 : Bool) (w : World) (h : truceref22_Crash.f a0_0 a0_1 a0_2 a0_3 a1 = some (r1, r2, r3, r4)) :
    Calls Try.prog 19 #[.agg #[.string a0_0, .string a0_1, .int .i64 a0_2, .bool a0_3], .int .i64 a1] w fun e w' => e = .returned (.agg #[.string r1, .string r2, .int .i64 r3, .bool r4]) ∧ Below w.heap.size w w' := by
  unfold truceref22_Crash.f at h
  split at h
  · simp only [Option.some.injEq, Prod.mk.injEq] at h
    rename_i hb
    obtain ⟨rfl, rfl, rfl, rfl⟩ := h
    exact rcrash_any _ _ _ _ _ _ hb.1 hb.2
  · cases h

theorem rwrite_off (D T s : ByteArray) (F : Int) (w : World) :
    Calls Try.prog 16 #[.agg #[.string D, .string T, .int .i64 F, .bool true], .string s] w fun e w' => e = .returned (.tuple #[.agg #[.string D, .string T, .int .i64 F, .bool true], .int .i64 26]) ∧ Below w.heap.size w w' := by
  go_enter Try.func16, Try.ntmps16
  go_wp2
  exact bodyPost_ret (v := .tuple #[.agg #[.string D, .string T, .int .i64 F, .bool true], .int .i64 26]) (by simp [results, Try.results16, go_sem]) rfl ⟨rfl, below2 _ _ _⟩
theorem rwrite_many (D T s : ByteArray) (F : Int) (w : World) (hD : D.size ≤ 200000) (hT : T.size ≤ 200000) (hs : s.size ≤ 200000) (hd : 131072 < D.size + T.size + s.size) :
    Calls Try.prog 16 #[.agg #[.string D, .string T, .int .i64 F, .bool false], .string s] w fun e w' => e = .returned (.tuple #[.agg #[.string D, .string T, .int .i64 F, .bool false], .int .i64 3]) ∧ Below w.heap.size w w' := by
  go_enter Try.func16, Try.ntmps16
  go_wp2
  exact bodyPost_ret (v := .tuple #[.agg #[.string D, .string T, .int .i64 F, .bool false], .int .i64 3]) (by simp [results, Try.results16, go_sem]) rfl ⟨rfl, below2 _ _ _⟩
set_option maxHeartbeats 1000000 in
theorem rwrite_long (D T s : ByteArray) (F : Int) (w : World) (hD : D.size ≤ 200000) (hT : T.size ≤ 200000) (hs : s.size ≤ 200000) (hd : D.size + T.size + s.size ≤ 131072) (h0 : 0 ≤ F) (h1 : F < s.size) :
    Calls Try.prog 16 #[.agg #[.string D, .string T, .int .i64 F, .bool false], .string s] w fun e w' => e = .returned (.tuple #[.agg #[.string D, .string (T ++ s.extract 0 F.toNat), .int .i64 0, .bool true], .int .i64 26]) ∧ Below w.heap.size w w' := by
  go_enter Try.func16, Try.ntmps16
  go_wp2
  go_region
  go_wp2
  exact bodyPost_ret (v := .tuple #[.agg #[.string D, .string (T ++ s.extract 0 F.toNat), .int .i64 0, .bool true], .int .i64 26]) (by simp [results, Try.results16, go_sem]) rfl ⟨rfl, below2d _ _ _⟩
set_option maxHeartbeats 1000000 in
theorem rwrite_fused (D T s : ByteArray) (F : Int) (w : World) (hD : D.size ≤ 200000) (hT : T.size ≤ 200000) (hs : s.size ≤ 200000) (hd : D.size + T.size + s.size ≤ 131072) (h0 : 0 ≤ F) (h1 : s.size ≤ F) (h2 : F ≤ 200000) :
    Calls Try.prog 16 #[.agg #[.string D, .string T, .int .i64 F, .bool false], .string s] w fun e w' => e = .returned (.tuple #[.agg #[.string D, .string (T ++ s), .int .i64 (F - s.size), .bool false], .int .i64 0]) ∧ Below w.heap.size w w' := by
  go_enter Try.func16, Try.ntmps16
  go_wp2
  exact bodyPost_ret (v := .tuple #[.agg #[.string D, .string (T ++ s), .int .i64 (F - s.size), .bool false], .int .i64 0]) (by simp [results, Try.results16, go_sem]) rfl ⟨rfl, below2 _ _ _⟩
set_option maxHeartbeats 1000000 in
theorem rwrite_free (D T s : ByteArray) (F : Int) (w : World) (hD : D.size ≤ 200000) (hT : T.size ≤ 200000) (hs : s.size ≤ 200000) (hd : D.size + T.size + s.size ≤ 131072) (h0 : F < 0) (h1 : -1 ≤ F) :
    Calls Try.prog 16 #[.agg #[.string D, .string T, .int .i64 F, .bool false], .string s] w fun e w' => e = .returned (.tuple #[.agg #[.string D, .string (T ++ s), .int .i64 F, .bool false], .int .i64 0]) ∧ Below w.heap.size w w' := by
  have hf : decide (0 ≤ F) = false := by simp; omega
  go_enter Try.func16, Try.ntmps16
  go_wp2
  exact bodyPost_ret (v := .tuple #[.agg #[.string D, .string (T ++ s), .int .i64 F, .bool false], .int .i64 0]) (by simp [results, Try.results16, go_sem]) rfl ⟨rfl, below2 _ _ _⟩
def truceref22_Write.f (D T : ByteArray) (F : Int) (O : Bool) (s : ByteArray) : Option (ByteArray × ByteArray × Int × Bool × Int) :=
  if D.size ≤ 200000 ∧ T.size ≤ 200000 ∧ s.size ≤ 200000 ∧ -1 ≤ F ∧ F ≤ 200000 then
    if O = true then some (D, T, F, O, 26)
    else if 131072 < D.size + T.size + s.size then some (D, T, F, O, 3)
    else if F < 0 then some (D, T ++ s, F, false, 0)
    else if F < s.size then some (D, T ++ s.extract 0 F.toNat, 0, true, 26)
    else some (D, T ++ s, F - s.size, false, 0)
  else none
theorem truceref22_Write.calls (a0_0 : ByteArray) (a0_1 : ByteArray) (a0_2 : Int) (a0_3 : Bool) (a1 : ByteArray) (r1 : ByteArray) (r2 : ByteArray) (r3 : Int) (r4 : Bool) (r5 : Int) (w : World) (h : truceref22_Write.f a0_0 a0_1 a0_2 a0_3 a1 = some (r1, r2, r3, r4, r5)) :
    Calls Try.prog 16 #[.agg #[.string a0_0, .string a0_1, .int .i64 a0_2, .bool a0_3], .string a1] w fun e w' => e = .returned (.tuple #[.agg #[.string r1, .string r2, .int .i64 r3, .bool r4], .int .i64 r5]) ∧ Below w.heap.size w w' := by
  unfold truceref22_Write.f at h
  split at h
  · rename_i hb
    obtain ⟨hD, hT, hs, hF, hF2⟩ := hb
    cases a0_3 with
    | true => simp at h; obtain ⟨rfl, rfl, rfl, rfl, rfl⟩ := h; exact rwrite_off _ _ _ _ _
    | false =>
      simp only [Bool.false_eq_true, if_false] at h
      split at h
      · simp at h; obtain ⟨rfl, rfl, rfl, rfl, rfl⟩ := h; exact rwrite_many _ _ _ _ _ hD hT hs (by omega)
      · split at h
        · simp only [Option.some.injEq, Prod.mk.injEq] at h; obtain ⟨rfl, rfl, rfl, rfl, rfl⟩ := h; exact rwrite_free _ _ _ _ _ hD hT hs (by omega) (by omega) (by omega)
        · split at h
          · simp only [Option.some.injEq, Prod.mk.injEq] at h; obtain ⟨rfl, rfl, rfl, rfl, rfl⟩ := h; exact rwrite_long _ _ _ _ _ hD hT hs (by omega) (by omega) (by omega)
          · simp only [Option.some.injEq, Prod.mk.injEq] at h; obtain ⟨rfl, rfl, rfl, rfl, rfl⟩ := h; exact rwrite_fused _ _ _ _ _ hD hT hs (by omega) (by omega) (by omega) (by omega)
  · cases h
end Go.Proofs.Ytodojmgjjcgfpaa.P
