import Derived.Test.YtlkecihibmndbaaGBindA
namespace Go.Proofs.Ytlkecihibmndbaa.P
set_option linter.unusedVariables false
set_option linter.unusedSimpArgs false
open Go.RowKit Go.Shelf Go.Proofs.YtlkecihibmndbaaW.PrintWords
/-! claim.plain, and whether some are of another kind. -/
def firstI (f : S39 → Bool) : List S39 → Nat → Int
  | [], _ => -1
  | x :: l, i => if f x = true then (i : Int) else firstI f l (i + 1)
theorem firstI_drop (f : S39 → Bool) (k : Nat) : ∀ (l : List S39) (i : Nat), k ≤ l.length → (∀ j, j < k → f (at39 l j) = false) → firstI f l i = firstI f (l.drop k) (i + k) := by
  induction k with
  | zero => intro l i _ _; rfl
  | succ k ih =>
    intro l i hk hf
    match l, hk with
    | x :: l, hk =>
      have h0 := hf 0 (by omega)
      have hx : at39 (x :: l) 0 = x := rfl
      rw [hx] at h0
      rw [firstI, h0, if_neg (by simp), ih l (i + 1) (by simpa using hk) (fun j hj => hf (j + 1) (by omega)), List.drop_succ_cons, show i + 1 + k = i + (k + 1) by omega]
theorem firstI_at (f : S39 → Bool) (l : List S39) (k : Nat) (hk : k < l.length) (hf : ∀ j, j < k → f (at39 l j) = false) (h : f (at39 l k) = true) : firstI f l 0 = k := by
  rw [firstI_drop f k l 0 (by omega) hf, List.drop_eq_getElem_cons hk, firstI, if_pos (by rw [← at39_get hk]; exact h), Nat.zero_add]
theorem firstI_none (f : S39 → Bool) (l : List S39) (hf : ∀ j, j < l.length → f (at39 l j) = false) : firstI f l 0 = -1 := by
  rw [firstI_drop f l.length l 0 (Nat.le_refl _) hf, List.drop_length, firstI]
def plainB (d : ByteArray) (x : S39) : Bool := x.f2 == 0 && x.f0.toList == d.toList
def roughB (x : S39) : Bool := x.f2 != 0
def plainI (l : List S39) (d : ByteArray) : Int := firstI (plainB d) l 0
theorem plainFn_any (x : S39) (d : ByteArray) (g : Nat) (w : World) (hg : Box w g 9 #[.string d]) :
    Calls Try.prog 31 #[.agg (rowA x), .pointer (some ⟨g, 0, none⟩)] w fun e w' => e = .returned (.bool (plainB d x)) ∧ Below w.heap.size w w' := by
  have hn := blk_new w (.cells (rowA x) 39)
  have hb := below_alloc (Below.refl w.heap.size w) (.cells (rowA x) 39)
  have HB := Aside0.mk hb
  have n5 := (show Box _ w.heap.size 39 (rowA x) from hn).cell 5 (.int .i64 x.f2) rfl
  have n0 := (show Box _ w.heap.size 39 (rowA x) from hn).cell 0 (.string x.f0) rfl
  have b0 := (show Box _ g 9 _ from blk_below hg hb).cell 0 (.string d) rfl
  clear hn hb hg
  by_cases h : x.f2 = 0
  · have h5 : (x.f2 == 0) = true := by simp [h]
    have hp : plainB d x = (x.f0.toList == d.toList) := by simp [plainB, h]
    rw [hp]
    go_enter Try.func31, Try.ntmps31
    go_wp2
    exact bodyPost_ret (v := .bool (x.f0.toList == d.toList)) (by simp [results, Try.results31, go_sem]) rfl ⟨rfl, HB.out⟩
  · have h5 : (x.f2 == 0) = false := by simp [h]
    have hp : plainB d x = false := by simp [plainB, h]
    rw [hp]
    go_enter Try.func31, Try.ntmps31
    go_wp2
    exact bodyPost_ret (v := .bool false) (by simp [results, Try.results31, go_sem]) rfl ⟨rfl, HB.out⟩
theorem roughFn_any (x : S39) (w : World) :
    Calls Try.prog 29 #[.agg (rowA x)] w fun e w' => e = .returned (.bool (roughB x)) ∧ Below w.heap.size w w' := by
  have hn := blk_new w (.cells (rowA x) 39)
  have hb := below_alloc (Below.refl w.heap.size w) (.cells (rowA x) 39)
  have HB := Aside0.mk hb
  have n5 := (show Box _ w.heap.size 39 (rowA x) from hn).cell 5 (.int .i64 x.f2) rfl
  clear hn hb
  go_enter Try.func29, Try.ntmps29
  go_wp2
  exact bodyPost_ret (v := .bool (x.f2 != 0)) (by simp [results, Try.results29, go_sem]) rfl ⟨rfl, HB.out⟩
set_option maxHeartbeats 1000000 in
theorem indexP_any (l : List S39) (A : Option Addr) (c : Nat) (d : ByteArray) (g : Nat) (w : World) (hC : Kd.C k39 w A l.length l) (hlen : l.length ≤ c) (hl1 : l.length ≤ 100000) (hg : Box w g 9 #[.string d]) :
    Calls Try.prog 30 #[.slice A l.length c, .func (.func 31) #[] #[.pointer (some ⟨g, 0, none⟩)]] w fun e w' => e = .returned (.int .i64 (firstI (plainB d) l 0)) ∧ Below w.heap.size w w' := by
  have HC := Aside0.mk hC
  have HG := Aside0.mk hg
  clear hC hg
  go_enter Try.func30, Try.ntmps30
  go_wp2
  go_loopw [8] (fun i wr => ∃ k : Nat, k ≤ l.length ∧ i = .int .i64 (k : Nat) ∧ (∀ j, j < k → (plainB d) (at39 l j) = false) ∧ Below w.heap.size w wr) (fun i _ => l.length - (intOf i).toNat)
  case atStart => exact ⟨0, by omega, rfl, fun j hj => by omega, Below.refl _ _⟩
  case round =>
    obtain ⟨k, hk, rfl, hz, hbw⟩ := hrel
    have HZ := Aside0.mk hz
    have HW := Aside0.mk hbw
    clear hz hbw
    by_cases hlt : k < l.length
    · have hCw := Kd.C_below HC.out HW.out
      obtain ⟨ad, e, x0, x1, x2, x3, x4, x5, x6, x7⟩ := at_T39 hCw (k : Int) (by omega) (by omega)
      have e' := Aside0.mk e
      have hr : rd_T39 l (k : Int) = at39 l k := by simp [rd_T39, at39]
      rw [hr] at x0 x1 x2 x3 x4 x5 x6 x7
      rw [Int.toNat_natCast] at x0 x1 x2 x3 x4 x5 x6 x7
      have hki : (k : Int) < (l.length : Int) := by omega
      clear hCw hr
      rw [e]
      obtain ⟨x, hx⟩ : ∃ x, x = at39 l k := ⟨_, rfl⟩
      rw [← hx] at x0 x1 x2 x3 x4 x5 x6 x7
      have HX := Aside0.mk hx
      clear hx e
      go_wp2_with fail
      have hrow : Value.agg (rowA x) = .agg #[.string x.f0, .int .u64 x.f1.f0, .int .u64 x.f1.f1, .int .u64 x.f1.f2, .int .u64 x.f1.f3, .int .i64 x.f2, .string x.f3, .string x.f4] := rfl
      rw [← hrow]
      clear hrow x0 x1 x2 x3 x4 x5 x6 x7
      refine (plainFn_any x d g _ (blk_below HG.out HW.out)).mono ?_
      rintro e w1 ⟨rfl, hb1⟩
      have HW1 := Aside0.mk (below_step HW.out hb1)
      clear hb1
      by_cases hx : (plainB d) x = true
      · rw [hx]
        go_wp2
        refine bodyPost_ret (v := .int .i64 (k : Int)) (by simp [results, Try.results30, go_sem]) rfl ⟨?_, HW1.out⟩
        rw [firstI_at (plainB d) l k hlt HZ.out (by rw [← HX.out]; exact hx)]
      · have hx' : (plainB d) x = false := by simpa using hx
        rw [hx']
        go_wp2
        refine ⟨⟨k + 1, by omega, by go_num, ?_, HW1.out⟩, by simp [intOf]; omega⟩
        intro j hj
        by_cases hjk : j = k
        · subst hjk; rw [← HX.out]; exact hx'
        · exact HZ.out j (by omega)
    · obtain rfl : k = l.length := by omega
      go_wp2
      refine bodyPost_ret (v := .int .i64 (-1)) (by simp [results, Try.results30, go_sem]) rfl ⟨?_, HW.out⟩
      rw [firstI_none (plainB d) l HZ.out]
set_option maxHeartbeats 1000000 in
theorem indexR_any (l : List S39) (A : Option Addr) (c : Nat) (w : World) (hC : Kd.C k39 w A l.length l) (hlen : l.length ≤ c) (hl1 : l.length ≤ 100000) :
    Calls Try.prog 30 #[.slice A l.length c, .func (.func 29) #[] #[]] w fun e w' => e = .returned (.int .i64 (firstI roughB l 0)) ∧ Below w.heap.size w w' := by
  have HC := Aside0.mk hC
  clear hC
  go_enter Try.func30, Try.ntmps30
  go_wp2
  go_loopw [8] (fun i wr => ∃ k : Nat, k ≤ l.length ∧ i = .int .i64 (k : Nat) ∧ (∀ j, j < k → roughB (at39 l j) = false) ∧ Below w.heap.size w wr) (fun i _ => l.length - (intOf i).toNat)
  case atStart => exact ⟨0, by omega, rfl, fun j hj => by omega, Below.refl _ _⟩
  case round =>
    obtain ⟨k, hk, rfl, hz, hbw⟩ := hrel
    have HZ := Aside0.mk hz
    have HW := Aside0.mk hbw
    clear hz hbw
    by_cases hlt : k < l.length
    · have hCw := Kd.C_below HC.out HW.out
      obtain ⟨ad, e, x0, x1, x2, x3, x4, x5, x6, x7⟩ := at_T39 hCw (k : Int) (by omega) (by omega)
      have e' := Aside0.mk e
      have hr : rd_T39 l (k : Int) = at39 l k := by simp [rd_T39, at39]
      rw [hr] at x0 x1 x2 x3 x4 x5 x6 x7
      rw [Int.toNat_natCast] at x0 x1 x2 x3 x4 x5 x6 x7
      have hki : (k : Int) < (l.length : Int) := by omega
      clear hCw hr
      rw [e]
      obtain ⟨x, hx⟩ : ∃ x, x = at39 l k := ⟨_, rfl⟩
      rw [← hx] at x0 x1 x2 x3 x4 x5 x6 x7
      have HX := Aside0.mk hx
      clear hx e
      go_wp2_with fail
      have hrow : Value.agg (rowA x) = .agg #[.string x.f0, .int .u64 x.f1.f0, .int .u64 x.f1.f1, .int .u64 x.f1.f2, .int .u64 x.f1.f3, .int .i64 x.f2, .string x.f3, .string x.f4] := rfl
      rw [← hrow]
      clear hrow x0 x1 x2 x3 x4 x5 x6 x7
      refine (roughFn_any x _).mono ?_
      rintro e w1 ⟨rfl, hb1⟩
      have HW1 := Aside0.mk (below_step HW.out hb1)
      clear hb1
      by_cases hx : roughB x = true
      · rw [hx]
        go_wp2
        refine bodyPost_ret (v := .int .i64 (k : Int)) (by simp [results, Try.results30, go_sem]) rfl ⟨?_, HW1.out⟩
        rw [firstI_at roughB l k hlt HZ.out (by rw [← HX.out]; exact hx)]
      · have hx' : roughB x = false := by simpa using hx
        rw [hx']
        go_wp2
        refine ⟨⟨k + 1, by omega, by go_num, ?_, HW1.out⟩, by simp [intOf]; omega⟩
        intro j hj
        by_cases hjk : j = k
        · subst hjk; rw [← HX.out]; exact hx'
        · exact HZ.out j (by omega)
    · obtain rfl : k = l.length := by omega
      go_wp2
      refine bodyPost_ret (v := .int .i64 (-1)) (by simp [results, Try.results30, go_sem]) rfl ⟨?_, HW.out⟩
      rw [firstI_none roughB l HZ.out]
theorem plain_any (l : List S39) (A : Option Addr) (c : Nat) (d : ByteArray) (w : World) (hC : Kd.C k39 w A l.length l) (hlen : l.length ≤ c) (hl1 : l.length ≤ 100000) :
    Calls Try.prog 20 #[.slice A l.length c, .string d] w fun e w' => e = .returned (.int .i64 (plainI l d)) ∧ Below w.heap.size w w' := by
  have hn : Box (w.alloc (.cells #[.string d] 9)) w.heap.size 9 #[.string d] := blk_new w _
  have hb := below_alloc (Below.refl w.heap.size w) (.cells #[.string d] 9)
  have T := indexP_any l A c d w.heap.size _ (Kd.C_below hC hb) hlen hl1 hn
  have HT := Aside0.mk T
  have HB := Aside0.mk hb
  clear T hn hb hC
  go_enter Try.func20, Try.ntmps20
  go_wp2_with fail
  refine HT.out.mono ?_
  rintro e w1 ⟨rfl, hb1⟩
  have HW := Aside0.mk (below_step HB.out hb1)
  clear hb1
  go_wp2
  exact bodyPost_ret (v := .int .i64 (plainI l d)) (by simp [results, Try.results20, go_sem]; rfl) rfl ⟨rfl, HW.out⟩
theorem rough_any (l : List S39) (A : Option Addr) (c : Nat) (w : World) (hC : Kd.C k39 w A l.length l) (hlen : l.length ≤ c) (hl1 : l.length ≤ 100000) :
    Calls Try.prog 28 #[.slice A l.length c, .func (.func 29) #[] #[]] w fun e w' => e = .returned (.bool (decide (0 ≤ firstI roughB l 0))) ∧ Below w.heap.size w w' := by
  have HT := Aside0.mk (indexR_any l A c w hC hlen hl1)
  clear hC
  go_enter Try.func28, Try.ntmps28
  go_wp2_with fail
  refine HT.out.mono ?_
  rintro e w1 ⟨rfl, hb1⟩
  have HW := Aside0.mk hb1
  clear hb1
  go_wp2
  exact bodyPost_ret (v := .bool (decide (0 ≤ firstI roughB l 0))) (by simp [results, Try.results28, go_sem]) rfl ⟨rfl, HW.out⟩
end Go.Proofs.Ytlkecihibmndbaa.P
