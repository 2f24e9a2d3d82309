import Derived.Test.YtodojmgjjcgfpaaP0
import Derived.Defers
namespace Go.Proofs.Ytodojmgjjcgfpaa.P
open Go.RowKit Go.Proofs.YtodojmgjjcgfpaaW.PrintWords Go.Proofs.YtodojmgjjcgfpaaW.PrintLast Go.Proofs.YtodojmgjjcgfpaaW.PrintMore
set_option maxHeartbeats 1000000 in
theorem write1 (go gs gf : Nat) (D T s : ByteArray) (F : Int) (O b : Bool) (u : FrameMode) (W : World) (h0 : -1 ≤ F) (h1 : F ≤ 200000) (hs : s.size ≤ 200000) (hT : T.size ≤ 200000)
    (ko : W.heap[go]? = some (.cells #[.string D, .string T, .int .i64 F, .bool O] 23 (0, 0))) (ks : W.heap[gs]? = some (.cells #[.string s] 9 (0, 0))) (kf : W.heap[gf]? = some (.cells #[.bool b] 4 (0, 0))) :
    CallsD Try.prog 22 #[.pointer (some ⟨go, 0, none⟩), .pointer (some ⟨gs, 0, none⟩), .pointer (some ⟨gf, 0, none⟩)] u W fun e u' w' => u' = u ∧ (e = .returned (.tuple #[]) ∧
      w'.heap[go]? = some (.cells #[.string D, .string (T ++ s), .int .i64 (if b = true then F - s.size else F), .bool O] 23 (0, 0)) ∧ ∀ B, B ≤ go → Below B W w') := by
  have c1 : W.cell? ⟨go, 1, none⟩ = some (.string T) := blk_cell ko 1
  have c2 : W.cell? ⟨go, 2, none⟩ = some (.int .i64 F) := blk_cell ko 2
  have c4 : W.cell? ⟨gs, 0, none⟩ = some (.string s) := blk_cell ks 0
  have c5 : W.cell? ⟨gf, 0, none⟩ = some (.bool b) := blk_cell kf 0
  have f1 := blk_frozen ko 1
  have f2 := blk_frozen ko 2
  have K := Aside0.mk ko
  clear ko ks kf
  cases b
  · go_enter_d Try.func22, Try.ntmps22
    go_wp2
    go_end0
    exact ⟨rfl, by simpa using blk_set K.out 1 (.string (T ++ s)), fun B hB => (Below.refl _ _).setCell hB _⟩
  · go_enter_d Try.func22, Try.ntmps22
    go_wp2
    go_end0
    exact ⟨rfl, by simpa using blk_set (blk_set K.out 1 (.string (T ++ s))) 2 (.int .i64 (F - s.size)), fun B hB => ((Below.refl _ _).setCell hB _).setCell hB _⟩


theorem blocks4 (w : World) (a b c d : Obj) : ((((w.alloc a).alloc b).alloc c).alloc d).heap[w.heap.size + 1 + 1]? = some c ∧ ((((w.alloc a).alloc b).alloc c).alloc d).heap[w.heap.size + 1]? = some b ∧ ((((w.alloc a).alloc b).alloc c).alloc d).heap[w.heap.size + 1 + 1 + 1]? = some d ∧
    Below w.heap.size w ((((w.alloc a).alloc b).alloc c).alloc d) := by
  refine ⟨?_, ?_, ?_, ?_⟩
  · simpa using blk_alloc (blk_new ((w.alloc a).alloc b) c) d
  · simpa using blk_alloc (blk_alloc (blk_new (w.alloc a) b) c) d
  · simpa using blk_new (((w.alloc a).alloc b).alloc c) d
  · exact below_alloc (below_alloc (below_alloc (below_alloc (Below.refl _ _) a) b) c) d
theorem below3 (w : World) (a b c : Obj) : Below w.heap.size w (((w.alloc a).alloc b).alloc c) := below_alloc (below_alloc (below_alloc (Below.refl _ _) a) b) c

theorem write_off (D T s : ByteArray) (F : Int) (w : World) :
    Calls Try.prog 8 #[.agg #[.string D, .string T, .int .i64 F, .bool true], .string s] w fun e w' => e = .returned (.tuple #[.agg #[.string D, .string T, .int .i64 F, .bool true], .int .i64 26]) ∧ Below w.heap.size w w' := by
  have hmf : ∀ (fn : Fn) (first cap : Array Value) (w : World), (Instr.makeFunc fn first cap).run Try.prog w = .ok (.func fn first cap) w := fun _ _ _ _ => rfl
  go_enter_defers Try.func8, Try.ntmps8
  go_wp2
  exact ⟨.tuple #[.agg #[.string D, .string T, .int .i64 F, .bool true], .int .i64 26], by simp [results, Try.results8, go_sem], rfl, below3 _ _ _ _⟩
theorem write_many (D T s : ByteArray) (F : Int) (w : World) (hD : D.size ≤ 200000) (hT : T.size ≤ 200000) (hs : s.size ≤ 200000) (hd : 131072 < D.size + T.size + s.size) :
    Calls Try.prog 8 #[.agg #[.string D, .string T, .int .i64 F, .bool false], .string s] w fun e w' => e = .returned (.tuple #[.agg #[.string D, .string T, .int .i64 F, .bool false], .int .i64 3]) ∧ Below w.heap.size w w' := by
  have hmf : ∀ (fn : Fn) (first cap : Array Value) (w : World), (Instr.makeFunc fn first cap).run Try.prog w = .ok (.func fn first cap) w := fun _ _ _ _ => rfl
  go_enter_defers Try.func8, Try.ntmps8
  go_wp2
  exact ⟨.tuple #[.agg #[.string D, .string T, .int .i64 F, .bool false], .int .i64 3], by simp [results, Try.results8, go_sem], rfl, below3 _ _ _ _⟩
set_option maxHeartbeats 1000000 in
theorem write_long (D T s : ByteArray) (F : Int) (w : World) (hD : D.size ≤ 200000) (hT : T.size ≤ 200000) (hs : s.size ≤ 200000) (hd : D.size + T.size + s.size ≤ 131072) (h0 : 0 ≤ F) (h1 : F < s.size) :
    Calls Try.prog 8 #[.agg #[.string D, .string T, .int .i64 F, .bool false], .string s] w fun e w' => e = .returned (.tuple #[.agg #[.string D, .string (T ++ s.extract 0 F.toNat), .int .i64 (F - (s.extract 0 F.toNat).size), .bool true], .int .i64 26]) ∧ Below w.heap.size w w' := by
  have hmf : ∀ (fn : Fn) (first cap : Array Value) (w : World), (Instr.makeFunc fn first cap).run Try.prog w = .ok (.func fn first cap) w := fun _ _ _ _ => rfl
  go_enter_defers Try.func8, Try.ntmps8
  go_wp2
  refine leaves_cons (f := 22) (args := #[.pointer (some ⟨w.heap.size + 1 + 1, 0, none⟩), .pointer (some ⟨w.heap.size + 1, 0, none⟩), .pointer (some ⟨w.heap.size + 1 + 1 + 1, 0, none⟩)]) (by simp) (by simp [go_sem]) ?_
  have K := blocks4 w (.cells #[.string D, .string T, .int .i64 F, .bool true] 23) (.cells #[.string (s.extract 0 F.toNat)] 9) (.cells #[.string D, .string T, .int .i64 F, .bool true] 23) (.cells #[.bool true] 4)
  refine (write1 _ _ _ D T (s.extract 0 F.toNat) F true true .returning _ (by omega) (by omega) (by simp; omega) hT K.1 K.2.1 K.2.2.1).mono ?_
  rintro e u' w'' ⟨rfl, rfl, hb, hB⟩
  refine ⟨.tuple #[.agg #[.string D, .string (T ++ s.extract 0 F.toNat), .int .i64 (F - (s.extract 0 F.toNat).size), .bool true], .int .i64 26], ?_, rfl, K.2.2.2.trans (hB _ (by omega))⟩
  have c0 := blk_cell hb 0
  have c1 := blk_cell hb 1
  have c2 := blk_cell hb 2
  have c3 := blk_cell hb 3
  simp at c0 c1 c2 c3
  simp [results, Try.results8, go_sem, c0, c1, c2, c3]
set_option maxHeartbeats 1000000 in
theorem write_fused (D T s : ByteArray) (F : Int) (w : World) (hD : D.size ≤ 200000) (hT : T.size ≤ 200000) (hs : s.size ≤ 200000) (hd : D.size + T.size + s.size ≤ 131072) (h0 : 0 ≤ F) (h1 : s.size ≤ F) (h2 : F ≤ 200000) :
    Calls Try.prog 8 #[.agg #[.string D, .string T, .int .i64 F, .bool false], .string s] w fun e w' => e = .returned (.tuple #[.agg #[.string D, .string (T ++ s), .int .i64 (F - s.size), .bool false], .int .i64 0]) ∧ Below w.heap.size w w' := by
  have hmf : ∀ (fn : Fn) (first cap : Array Value) (w : World), (Instr.makeFunc fn first cap).run Try.prog w = .ok (.func fn first cap) w := fun _ _ _ _ => rfl
  go_enter_defers Try.func8, Try.ntmps8
  go_wp2
  refine leaves_cons (f := 22) (args := #[.pointer (some ⟨w.heap.size + 1 + 1, 0, none⟩), .pointer (some ⟨w.heap.size + 1, 0, none⟩), .pointer (some ⟨w.heap.size + 1 + 1 + 1, 0, none⟩)]) (by simp) (by simp [go_sem]) ?_
  have K := blocks4 w (.cells #[.string D, .string T, .int .i64 F, .bool false] 23) (.cells #[.string s] 9) (.cells #[.string D, .string T, .int .i64 F, .bool false] 23) (.cells #[.bool true] 4)
  refine (write1 _ _ _ D T s F false true .returning _ (by omega) (by omega) hs hT K.1 K.2.1 K.2.2.1).mono ?_
  rintro e u' w'' ⟨rfl, rfl, hb, hB⟩
  refine ⟨.tuple #[.agg #[.string D, .string (T ++ s), .int .i64 (F - s.size), .bool false], .int .i64 0], ?_, rfl, K.2.2.2.trans (hB _ (by omega))⟩
  have c0 := blk_cell hb 0
  have c1 := blk_cell hb 1
  have c2 := blk_cell hb 2
  have c3 := blk_cell hb 3
  simp at c0 c1 c2 c3
  simp [results, Try.results8, go_sem, c0, c1, c2, c3]
set_option maxHeartbeats 1000000 in
theorem write_free (D T s : ByteArray) (F : Int) (w : World) (hD : D.size ≤ 200000) (hT : T.size ≤ 200000) (hs : s.size ≤ 200000) (hd : D.size + T.size + s.size ≤ 131072) (h0 : F < 0) (h1 : -1 ≤ F) :
    Calls Try.prog 8 #[.agg #[.string D, .string T, .int .i64 F, .bool false], .string s] w fun e w' => e = .returned (.tuple #[.agg #[.string D, .string (T ++ s), .int .i64 F, .bool false], .int .i64 0]) ∧ Below w.heap.size w w' := by
  have hf : decide (0 ≤ F) = false := by simp; omega
  have hmf : ∀ (fn : Fn) (first cap : Array Value) (w : World), (Instr.makeFunc fn first cap).run Try.prog w = .ok (.func fn first cap) w := fun _ _ _ _ => rfl
  go_enter_defers Try.func8, Try.ntmps8
  go_wp2
  refine leaves_cons (f := 22) (args := #[.pointer (some ⟨w.heap.size + 1 + 1, 0, none⟩), .pointer (some ⟨w.heap.size + 1, 0, none⟩), .pointer (some ⟨w.heap.size + 1 + 1 + 1, 0, none⟩)]) (by simp) (by simp [go_sem]) ?_
  have K := blocks4 w (.cells #[.string D, .string T, .int .i64 F, .bool false] 23) (.cells #[.string s] 9) (.cells #[.string D, .string T, .int .i64 F, .bool false] 23) (.cells #[.bool false] 4)
  refine (write1 _ _ _ D T s F false false .returning _ (by omega) (by omega) hs hT K.1 K.2.1 K.2.2.1).mono ?_
  rintro e u' w'' ⟨rfl, rfl, hb, hB⟩
  refine ⟨.tuple #[.agg #[.string D, .string (T ++ s), .int .i64 F, .bool false], .int .i64 0], ?_, rfl, K.2.2.2.trans (hB _ (by omega))⟩
  have c0 := blk_cell hb 0
  have c1 := blk_cell hb 1
  have c2 := blk_cell hb 2
  have c3 := blk_cell hb 3
  simp at c0 c1 c2 c3
  simp [results, Try.results8, go_sem, c0, c1, c2, c3]

def disk_Write.f (D T : ByteArray) (F : Int) (O : Bool) (s : ByteArray) : Option (ByteArray × ByteArray × Int × Bool × Int) :=
  if D.size ≤ 200000 ∧ T.size ≤ 200000 ∧ s.size ≤ 200000 ∧ -1 ≤ F ∧ F ≤ 200000 then
    if O = true then some (D, T, F, O, 26)
    else if 131072 < D.size + T.size + s.size then some (D, T, F, O, 3)
    else if F < 0 then some (D, T ++ s, F, false, 0)
    else if F < s.size then some (D, T ++ s.extract 0 F.toNat, F - (s.extract 0 F.toNat).size, true, 26)
    else some (D, T ++ s, F - s.size, false, 0)
  else none
theorem disk_Write.calls (a0_0 : ByteArray) (a0_1 : ByteArray) (a0_2 : Int) (a0_3 : Bool) (a1 : ByteArray) (r1 : ByteArray) (r2 : ByteArray) (r3 : Int) (r4 : Bool) (r5 : Int) (w : World) (h : disk_Write.f a0_0 a0_1 a0_2 a0_3 a1 = some (r1, r2, r3, r4, r5)) :
    Calls Try.prog 8 #[.agg #[.string a0_0, .string a0_1, .int .i64 a0_2, .bool a0_3], .string a1] w fun e w' => e = .returned (.tuple #[.agg #[.string r1, .string r2, .int .i64 r3, .bool r4], .int .i64 r5]) ∧ Below w.heap.size w w' := by
  unfold disk_Write.f at h
  split at h
  · rename_i hb
    obtain ⟨hD, hT, hs, hF, hF2⟩ := hb
    cases a0_3 with
    | true => simp at h; obtain ⟨rfl, rfl, rfl, rfl, rfl⟩ := h; exact write_off _ _ _ _ _
    | false =>
      simp only [Bool.false_eq_true, if_false] at h
      split at h
      · simp at h; obtain ⟨rfl, rfl, rfl, rfl, rfl⟩ := h; exact write_many _ _ _ _ _ hD hT hs (by omega)
      · split at h
        · simp only [Option.some.injEq, Prod.mk.injEq] at h; obtain ⟨rfl, rfl, rfl, rfl, rfl⟩ := h; exact write_free _ _ _ _ _ hD hT hs (by omega) (by omega) (by omega)
        · split at h
          · simp only [Option.some.injEq, Prod.mk.injEq] at h; obtain ⟨rfl, rfl, rfl, rfl, rfl⟩ := h; exact write_long _ _ _ _ _ hD hT hs (by omega) (by omega) (by omega)
          · simp only [Option.some.injEq, Prod.mk.injEq] at h; obtain ⟨rfl, rfl, rfl, rfl, rfl⟩ := h; exact write_fused _ _ _ _ _ hD hT hs (by omega) (by omega) (by omega) (by omega)
  · cases h
end Go.Proofs.Ytodojmgjjcgfpaa.P
