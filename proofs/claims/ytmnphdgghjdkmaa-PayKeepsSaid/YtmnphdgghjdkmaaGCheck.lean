import Derived.Test.YtmnphdgghjdkmaaGClone
namespace Go.Proofs.Ytmnphdgghjdkmaa.P
set_option linter.unusedVariables false
set_option linter.unusedSimpArgs false
open Go.RowKit Go.Proofs.YtmnphdgghjdkmaaW.PrintWords
/-! pay.check: places that rise and are there; none of another kind. -/
theorem kind_any (A : Option Addr) (c : Nat) (l : List S40) (gb k : Nat) (hk : k < l.length) (w : World) (hb : Box w gb 25 #[.slice A l.length c]) (hC : Kd.C k40 w A l.length l) :
    Calls Try.prog 27 #[.int .i64 (k : Int), .pointer (some ⟨gb, 0, none⟩)] w fun e w' => e = .returned (.bool ((at40 l k).f2 != 0)) ∧ w = w' := by
  have b0 := hb.cell 0 _ rfl
  obtain ⟨ad, rfl, hx0, hx1, hx2, hx3, hx4, hx5, hx6, hx7⟩ := at_T40 hC (k : Int) (by omega) (by omega)
  have hx : rd_T40 l (k : Int) = at40 l k := by simp [rd_T40, at40]
  rw [hx, Int.toNat_natCast] at hx5
  clear hx0 hx1 hx2 hx3 hx4 hx6 hx7 hC hx hb
  generalize at40 l k = x at *
  have hi : (k : Int) < (l.length : Int) := by omega
  go_enter Try.func27, Try.ntmps27
  go_wp2
  exact bodyPost_ret (v := .bool (x.f2 != 0)) (by simp [results, Try.results27, go_sem]) rfl ⟨rfl, rfl⟩
set_option maxHeartbeats 1000000 in
theorem index_any (A : Option Addr) (c : Nat) (l : List S40) (gb : Nat) (W : List Int) (A2 : Option Addr) (c2 : Nat) (w : World) (hb : Box w gb 25 #[.slice A l.length c]) (hC : Kd.C k40 w A l.length l)
    (hW : Kd.C (Kd.int .i64) w A2 W.length W) (hc2 : W.length ≤ c2) (hW1 : W.length ≤ 1000) (hin : ∀ i, i < W.length → 0 ≤ W.getD i 0 ∧ W.getD i 0 < l.length) :
    Calls Try.prog 32 #[.slice A2 W.length c2, .func (.func 27) #[] #[.pointer (some ⟨gb, 0, none⟩)]] w fun e w' => (∃ r : Int, e = .returned (.int .i64 r) ∧ (decide (0 ≤ r) = decide (rough l W))) ∧ w = w' := by
  have HB := Aside0.mk hb
  have HC := Aside0.mk hC
  have HW := Aside0.mk hW
  clear hb hC hW
  go_enter Try.func32, Try.ntmps32
  go_wp2
  go_loopw [8] (fun i wr => ∃ k : Nat, k ≤ W.length ∧ i = .int .i64 (k : Nat) ∧ (∀ j, j < k → (at40 l (W.getD j 0).toNat).f2 = 0) ∧ wr = w) (fun i _ => W.length - (intOf i).toNat)
  case atStart => exact ⟨0, by omega, rfl, fun j hj => by omega, rfl⟩
  case round =>
    obtain ⟨k, hk, rfl, hz, rfl⟩ := hrel
    have HZ := Aside0.mk hz
    clear hz
    by_cases hlt : k < W.length
    · obtain ⟨ad, e, hcell⟩ := Kd.at_int HW.out (k : Int) (by omega) (by omega)
      subst e
      have hr : rd W (k : Int) = W.getD k 0 := by simp [rd]
      rw [hr, Int.toNat_natCast] at hcell
      have hi := hin k hlt
      have hmem : W.getD k 0 ∈ W := by simp only [List.getD_eq_getElem?_getD, List.getElem?_eq_getElem hlt, Option.getD_some]; exact List.getElem_mem hlt
      have HM := Aside0.mk hmem
      have HIN := Aside0.mk hin
      have hki : (k : Int) < (W.length : Int) := by omega
      obtain ⟨p, hp⟩ : ∃ p : Nat, W.getD k 0 = (p : Int) := ⟨(W.getD k 0).toNat, by omega⟩
      have HP := Aside0.mk hp
      rw [hp] at hcell hi
      clear hr hmem hin hp
      have hlt2 : (k : Int) < W.length := by omega
      go_wp2_with fail
      refine (kind_any A c l gb p (by omega) _ HB.out HC.out).mono ?_
      rintro e w1 ⟨rfl, rfl⟩
      by_cases hx : (at40 l p).f2 = 0
      · have hb : ((at40 l p).f2 != 0) = false := by simp [hx]
        rw [hb]
        go_wp2
        refine ⟨⟨k + 1, by omega, by go_num, ?_, trivial⟩, by simp [intOf]; omega⟩
        intro j hj
        by_cases hjk : j = k
        · subst hjk; rw [HP.out, Int.toNat_natCast]; exact hx
        · exact HZ.out j (by omega)
      · have hb : ((at40 l p).f2 != 0) = true := by simp [hx]
        rw [hb]
        go_wp2
        refine bodyPost_ret (v := .int .i64 (k : Int)) (by simp [results, Try.results32, go_sem]) rfl ⟨⟨k, rfl, ?_⟩, rfl⟩
        have hro : rough l W := ⟨W.getD k 0, HM.out, by rw [HP.out, Int.toNat_natCast]; exact hx⟩
        rw [decide_eq_true hro]
        simp
    · obtain rfl : k = W.length := by omega
      go_wp2
      refine bodyPost_ret (v := .int .i64 (-1)) (by simp [results, Try.results32, go_sem]) rfl ⟨⟨-1, rfl, ?_⟩, rfl⟩
      have hro : ¬ rough l W := by
        rintro ⟨x, hx, hne⟩
        obtain ⟨j, hj, rfl⟩ := List.getElem_of_mem hx
        have := HZ.out j hj
        rw [List.getD_eq_getElem?_getD, List.getElem?_eq_getElem hj, Option.getD_some] at this
        exact hne this
      rw [decide_eq_false hro]
      rfl
theorem rises_nonneg {n : Nat} {W : List Int} (h : rises n W) : ∀ i, i < W.length → 0 ≤ W.getD i 0 ∧ W.getD i 0 < n := by
  intro i
  induction i with
  | zero =>
    intro hi
    have := h 0 hi
    rw [if_pos rfl] at this
    omega
  | succ i ih =>
    intro hi
    have := h (i + 1) hi
    rw [if_neg (by omega), Nat.add_sub_cancel] at this
    have := ih (by omega)
    omega
theorem contains_any (A : Option Addr) (c : Nat) (l : List S40) (gb : Nat) (W : List Int) (A2 : Option Addr) (c2 : Nat) (w : World) (hb : Box w gb 25 #[.slice A l.length c]) (hC : Kd.C k40 w A l.length l)
    (hW : Kd.C (Kd.int .i64) w A2 W.length W) (hc2 : W.length ≤ c2) (hW1 : W.length ≤ 1000) (hin : ∀ i, i < W.length → 0 ≤ W.getD i 0 ∧ W.getD i 0 < l.length) :
    Calls Try.prog 26 #[.slice A2 W.length c2, .func (.func 27) #[] #[.pointer (some ⟨gb, 0, none⟩)]] w fun e w' => e = .returned (.bool (decide (rough l W))) ∧ w = w' := by
  have c1 := index_any A c l gb W A2 c2 w hb hC hW hc2 hW1 hin
  have C1 := Aside0.mk c1
  clear c1 hb hC hW hin
  go_enter Try.func26, Try.ntmps26
  go_wp2_with fail
  refine C1.out.mono ?_
  rintro e w1 ⟨⟨r, rfl, hr⟩, rfl⟩
  go_wp2
  exact bodyPost_ret (v := .bool (decide (rough l W))) (by simp [results, Try.results26, go_sem, hr]) rfl ⟨rfl, rfl⟩
def lastW (W : List Int) (k : Nat) : Int := if k = 0 then -1 else W.getD (k - 1) 0
set_option maxHeartbeats 1000000 in
theorem check_any (A : Option Addr) (c : Nat) (l : List S40) (W : List Int) (A2 : Option Addr) (c2 : Nat) (w : World) (hC : Kd.C k40 w A l.length l) (hl1 : l.length ≤ 1000)
    (hW : Kd.C (Kd.int .i64) w A2 W.length W) (hc2 : W.length ≤ c2) (hW1 : W.length ≤ 1000) :
    Calls Try.prog 17 #[.slice A l.length c, .slice A2 W.length c2] w fun e w' => e = .returned (.int .i64 (checkV l W)) ∧ Below w.heap.size w w' := by
  have hb : Box (w.alloc (.cells #[.slice A l.length c] 25)) w.heap.size 25 #[.slice A l.length c] := blk_new w _
  have hbel := below_alloc (Below.refl w.heap.size w) (.cells #[.slice A l.length c] 25)
  have hC1 := Kd.C_below hC hbel
  have hW2 := Kd.C_below hW hbel
  have HB := Aside0.mk hb
  have HL := Aside0.mk hbel
  have HC := Aside0.mk hC1
  have HW := Aside0.mk hW2
  have b0 := hb.cell 0 _ rfl
  clear hb hbel hC hW hC1 hW2
  go_enter Try.func17, Try.ntmps17
  go_wp2
  generalize w.alloc (.cells #[.slice A l.length c] 25) = w1 at *
  go_loopw [5, 10] (fun last i wr => ∃ k : Nat, k ≤ W.length ∧ i = .int .i64 (k : Nat) ∧ last = .int .i64 (lastW W k) ∧ (∀ j, j < k → (if j = 0 then -1 else W.getD (j - 1) 0) < W.getD j 0 ∧ W.getD j 0 < l.length) ∧ w1 = wr) (fun last i _ => W.length - (intOf i).toNat)
  case atStart => exact ⟨0, by omega, rfl, rfl, fun j hj => by omega, rfl⟩
  case round =>
    obtain ⟨k, hk, rfl, rfl, hz, rfl⟩ := hrel
    have HZ := Aside0.mk hz
    clear hz
    by_cases hlt : k < W.length
    · obtain ⟨ad, e, hcell⟩ := Kd.at_int HW.out (k : Int) (by omega) (by omega)
      subst e
      have hr : rd W (k : Int) = W.getD k 0 := by simp [rd]
      rw [hr, Int.toNat_natCast] at hcell
      have hls : lastW W (k + 1) = W.getD k 0 := by rw [lastW, if_neg (by omega), Nat.add_sub_cancel]
      have hld : lastW W k = if k = 0 then -1 else W.getD (k - 1) 0 := rfl
      have HLS := Aside0.mk (And.intro hls hld)
      have hki : (k : Int) < (W.length : Int) := by omega
      generalize hx : W.getD k 0 = x at *
      generalize lastW W k = last at *
      have HX := Aside0.mk hx
      clear hls hld hr hx
      by_cases c1 : x ≤ last
      · go_wp2
        refine bodyPost_ret (v := .int .i64 3) (by simp [results, Try.results17, go_sem]) rfl ⟨?_, HL.out⟩
        have : ¬ rises l.length W := fun h => by
          have := h k hlt
          rw [HX.out, ← HLS.out.2] at this
          omega
        rw [checkV, if_neg this]
      · by_cases c2 : x < (l.length : Int)
        · go_wp2
          refine ⟨⟨k + 1, by omega, by go_num, by rw [HLS.out.1], ?_, trivial⟩, by simp [intOf]; omega⟩
          intro j hj
          by_cases hjk : j = k
          · subst hjk; rw [HX.out, ← HLS.out.2]; omega
          · exact HZ.out j (by omega)
        · go_wp2
          refine bodyPost_ret (v := .int .i64 3) (by simp [results, Try.results17, go_sem]) rfl ⟨?_, HL.out⟩
          have : ¬ rises l.length W := fun h => by
            have := h k hlt
            rw [HX.out] at this
            omega
          rw [checkV, if_neg this]
    · obtain rfl : k = W.length := by omega
      have hri : rises l.length W := HZ.out
      have hcv : checkV l W = if rough l W then 2 else 0 := by rw [checkV, if_pos hri]
      have HCV := Aside0.mk hcv
      have C1 := Aside0.mk (contains_any A c l w.heap.size W A2 c2 w1 HB.out HC.out HW.out hc2 hW1 (rises_nonneg hri))
      clear hri hcv HZ
      by_cases hro : rough l W
      · rw [if_pos hro] at HCV
        rw [decide_eq_true hro] at C1
        clear hro
        go_wp2_with fail
        refine C1.out.mono ?_
        rintro e w2 ⟨rfl, rfl⟩
        go_wp2
        exact bodyPost_ret (v := .int .i64 2) (by simp [results, Try.results17, go_sem]) rfl ⟨by rw [HCV.out], HL.out⟩
      · rw [if_neg hro] at HCV
        rw [decide_eq_false hro] at C1
        clear hro
        go_wp2_with fail
        refine C1.out.mono ?_
        rintro e w2 ⟨rfl, rfl⟩
        go_wp2
        exact bodyPost_ret (v := .int .i64 0) (by simp [results, Try.results17, go_sem]) rfl ⟨by rw [HCV.out], HL.out⟩
end Go.Proofs.Ytmnphdgghjdkmaa.P
