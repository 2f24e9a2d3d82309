import Derived.Test.YtlkecihibmndbaaGPlain
import Derived.Test.YtlkecihibmndbaaPeqA25
namespace Go.Proofs.Ytlkecihibmndbaa.P
set_option linter.unusedVariables false
set_option linter.unusedSimpArgs false
open Go.RowKit Go.Shelf Go.Proofs.YtlkecihibmndbaaW.PrintWords
attribute [local go_sem] Oper.semAt_some
/-! claim.bound. -/
theorem range_am' {W : World} {ad : Addr} {n : Nat} {l : List S39} (hC : Kd.C k39 W (some ad) n l) (hl : okL l) (p : Nat) (hp : p < n) : W.rangeAt (ad.add (p * 8)).block ((ad.add (p * 8)).off + 1) (wl (am (at39 l p))) := by
  have := range_am hC hl p hp
  rwa [at', Int.toNat_natCast] at this
theorem words_eq {L : List W64} {x : S39} (hL : L.length = 4) (h : (!vw (gw L 0) == x.f1.f0) = false ∧ (!vw (gw L 1) == x.f1.f1) = false ∧ (!vw (gw L 2) == x.f1.f2) = false ∧ (!vw (gw L 3) == x.f1.f3) = false) : L = am x := by
  obtain ⟨a, b, c, d, rfl⟩ := four L hL
  simp only [Bool.not_eq_false', beq_iff_eq] at h
  obtain ⟨h0, h1, h2, h3⟩ := h
  show _ = [BitVec.ofInt 64 x.f1.f0, BitVec.ofInt 64 x.f1.f1, BitVec.ofInt 64 x.f1.f2, BitVec.ofInt 64 x.f1.f3]
  rw [← h0, ← h1, ← h2, ← h3, of_vw, of_vw, of_vw, of_vw]
  rfl
attribute [local go_sem high] eqA25
def boundE (l : List S39) (k : Int) (m : List S39) : Int :=
  if ¬ isThere l.length k then 3
  else if (at' l k).f2 ≠ 1 ∨ m.length ≠ 2 ∨ 0 ≤ firstI roughB m 0 then 2
  else if (addk (am (at39 m 0)) (am (at39 m 1)) 4).2 = 1 ∨ (addk (am (at39 m 0)) (am (at39 m 1)) 4).1 ≠ am (at' l k) then 16
  else if plainI l (at' l k).f3 < 0 ∨ plainI l (at' l k).f4 < 0 then 9 else 0
set_option maxRecDepth 100000 in
set_option maxHeartbeats 4000000 in
theorem bound_any (l : List S39) (hl : okL l) (A : Option Addr) (c : Nat) (k : Int) (m : List S39) (hm : okL m) (A2 : Option Addr) (c2 : Nat) (w : World) (hC : Kd.C k39 w A l.length l) (hlen : l.length ≤ c) (hl1 : l.length ≤ 1000) (hC2 : Kd.C k39 w A2 m.length m) (hlen2 : m.length ≤ c2) (hm1 : m.length ≤ 1000) :
    Calls Try.prog 17 #[.slice A l.length c, .int .i64 k, .slice A2 m.length c2] w fun e w' => e = .returned (.int .i64 (boundE l k m)) ∧ Below w.heap.size w w' := by
  have HL := Aside0.mk (And.intro hl (And.intro hm (And.intro hlen (And.intro hl1 (And.intro hlen2 hm1)))))
  have HC0 := Aside0.mk hC
  have HM0 := Aside0.mk hC2
  have Hi25 := Aside0.mk (show (Try.prog.info? 25).map (·.size) = some 4 by kernel_rfl)
  have Hi39 := Aside0.mk (show (Try.prog.info? 39).map (·.size) = some 8 by kernel_rfl)
  clear hl hm hlen hl1 hlen2 hm1 hC hC2
  by_cases t1 : isThere l.length k
  · have d1 := decide_eq_true t1
    obtain ⟨p, rfl⟩ : ∃ p : Nat, k = p := ⟨k.toNat, by have := t1.1; omega⟩
    have hp : p < l.length := by have := t1.2; omega
    obtain ⟨ad, hA, _⟩ := HC0.out.2.2 (by omega)
    subst hA
    obtain ⟨x, hx⟩ : ∃ x, x = at' l (p : Int) := ⟨_, rfl⟩
    have hX := Aside0.mk hx
    have HE1 := Aside0.mk (show boundE l p m = if x.f2 ≠ 1 ∨ m.length ≠ 2 ∨ 0 ≤ firstI roughB m 0 then 2 else if (addk (am (at39 m 0)) (am (at39 m 1)) 4).2 = 1 ∨ (addk (am (at39 m 0)) (am (at39 m 1)) 4).1 ≠ am x then 16 else if plainI l x.f3 < 0 ∨ plainI l x.f4 < 0 then 9 else 0 by rw [boundE, if_neg (fun h => h t1), ← hx])
    clear t1 hx
    by_cases s1 : x.f2 = 1
    · have k1 : (x.f2 != 1) = false := by simp [s1]
      have S1 := Aside0.mk s1
      clear s1
      by_cases s2 : m.length = 2
      · have k2 : ((m.length : Int) != 2) = false := by simp [s2]
        have S2 := Aside0.mk s2
        clear s2
        by_cases s3 : 0 ≤ firstI roughB m 0
        · have k3 := decide_eq_true s3
          have HE := Aside0.mk (HE1.out.trans (if_pos (.inr (.inr s3))))
          go_enter Try.func17, Try.ntmps17
          go_wp2_with fail
          refine (there_any (some ad) c l p _ HC0.out HL.out.2.2.1).mono ?_
          rintro e w1 ⟨rfl, ⟨nd, hw1⟩⟩
          rw [d1]
          have HW1 := Aside0.mk (show Below w.heap.size w w1 by rw [hw1]; exact pw_below_drewN (Below.refl _ _) _)
          clear hw1
          have HC1 := Aside0.mk (Kd.C_below HC0.out HW1.out)
          obtain ⟨ad1, ea, x0, x1, x2, x3, x4, x5, x6, x7⟩ := at_T39 HC1.out (p : Int) (by omega) (by omega)
          obtain rfl := Option.some.inj ea
          simp only [Int.toNat_natCast] at x0 x1 x2 x3 x4 x5 x6 x7
          have hr : rd_T39 l (p : Int) = at' l p := rfl
          rw [hr] at x0 x1 x2 x3 x4 x5 x6 x7
          have hi : (p : Int) < (l.length : Int) := by omega
          clear hr ea
          rw [← hX.out] at x0 x1 x2 x3 x4 x5 x6 x7
          go_wp2_with fail
          have hn7 : Box (w1.alloc (.cells (rowA x) 39)) w1.heap.size 39 (rowA x) := blk_new w1 _
          have H7 := Aside0.mk hn7
          have HW2 := Aside0.mk (below_alloc HW1.out (.cells (rowA x) 39))
          have N7 := Aside0.mk HW1.out.size
          clear x0 x1 x2 x3 x4 x5 x6 x7 hn7 HC1
          refine (rough_any m A2 c2 (w1.alloc (.cells (rowA x) 39)) (Kd.C_below HM0.out HW2.out) HL.out.2.2.2.2.1 (by have := HL.out.2.2.2.2.2; omega)).mono ?_
          generalize w1.heap.size = g7 at *
          rintro e w3 ⟨rfl, hb3⟩
          have HW3 := Aside0.mk (below_step HW2.out hb3)
          have H73 := Aside0.mk (show Box w3 g7 39 (rowA x) from blk_below H7.out hb3)
          clear hb3 H7
          have y5 := H73.out.cell 5 (.int .i64 x.f2) rfl
          rw [k3]
          go_wp2_with fail
          exact bodyPost_ret (v := .int .i64 2) (by simp [results, Try.results17, go_sem]) rfl ⟨by rw [HE.out], HW3.out⟩
        · have k3 := decide_eq_false s3
          have HE := Aside0.mk (HE1.out.trans (if_neg (fun h => h.elim (fun h => h S1.out) (fun h => h.elim (fun h => h S2.out) (fun h => s3 h)))))
          clear HE1 s3
          obtain ⟨ad2, hA2, _⟩ := HM0.out.2.2 (by have := S2.out; omega)
          subst hA2
          go_enter Try.func17, Try.ntmps17
          go_wp2_with fail
          refine (there_any (some ad) c l p _ HC0.out HL.out.2.2.1).mono ?_
          rintro e w1 ⟨rfl, ⟨nd, hw1⟩⟩
          rw [d1]
          have HW1 := Aside0.mk (show Below w.heap.size w w1 by rw [hw1]; exact pw_below_drewN (Below.refl _ _) _)
          clear hw1
          have HC1 := Aside0.mk (Kd.C_below HC0.out HW1.out)
          obtain ⟨ad1, ea, x0, x1, x2, x3, x4, x5, x6, x7⟩ := at_T39 HC1.out (p : Int) (by omega) (by omega)
          obtain rfl := Option.some.inj ea
          simp only [Int.toNat_natCast] at x0 x1 x2 x3 x4 x5 x6 x7
          have hr : rd_T39 l (p : Int) = at' l p := rfl
          rw [hr] at x0 x1 x2 x3 x4 x5 x6 x7
          have hi : (p : Int) < (l.length : Int) := by omega
          clear hr ea
          rw [← hX.out] at x0 x1 x2 x3 x4 x5 x6 x7
          go_wp2_with fail
          have hn7 : Box (w1.alloc (.cells (rowA x) 39)) w1.heap.size 39 (rowA x) := blk_new w1 _
          have H7 := Aside0.mk hn7
          have HW2 := Aside0.mk (below_alloc HW1.out (.cells (rowA x) 39))
          have N7 := Aside0.mk HW1.out.size
          clear x0 x1 x2 x3 x4 x5 x6 x7 hn7 HC1
          refine (rough_any m (some ad2) c2 (w1.alloc (.cells (rowA x) 39)) (Kd.C_below HM0.out HW2.out) HL.out.2.2.2.2.1 (by have := HL.out.2.2.2.2.2; omega)).mono ?_
          generalize w1.heap.size = g7 at *
          rintro e w3 ⟨rfl, hb3⟩
          have HW3 := Aside0.mk (below_step HW2.out hb3)
          have H73 := Aside0.mk (show Box w3 g7 39 (rowA x) from blk_below H7.out hb3)
          clear hb3 H7
          have y5 := H73.out.cell 5 (.int .i64 x.f2) rfl
          rw [k3]
          go_wp2_with fail
          clear y5 k1 k2 k3 d1
          have HMB := Aside0.mk (fun (X : World) (hX : Below w3.heap.size w3 X) => Kd.C_below HM0.out (below_step HW3.out hX))
          have i0 : (0 : Int) < (m.length : Int) := by have := S2.out; omega
          have i1 : (1 : Int) < (m.length : Int) := by have := S2.out; omega
          have hm0 : ¬ m = [] := by have := S2.out; intro e; rw [e] at this; simp at this
          have HSL3 := Aside0.mk (show (addk (am (at39 m 0)) (am (at39 m 1)) 4).1.length = 4 by rw [addk_len]; rfl)
          have HSB3 := Aside0.mk (fun W => add_any (am (at39 m 0)) (am (at39 m 1)) rfl rfl W)
          generalize addk (am (at39 m 0)) (am (at39 m 1)) 4 = S3 at *
          obtain ⟨L3, u3⟩ := S3
          simp only at HE HSL3 HSB3
          refine wp_put (fun a0 a' w' => ∃ g, a' = ((((((((((((((a0.put (some 33) (.slice (some ad2) m.length c2)).put (some 34) (.pointer (some (ad2.add (0 * 8))))).put (some 35) (.pointer (some ⟨(ad2.add (0 * 8)).block, (ad2.add (0 * 8)).off + 1, none⟩))).put (some 36) (.agg (ws (am (at39 m 0))))).put (some 37) (.slice (some ad2) m.length c2)).put (some 38) (.pointer (some (ad2.add (1 * 8))))).put (some 39) (.pointer (some ⟨(ad2.add (1 * 8)).block, (ad2.add (1 * 8)).off + 1, none⟩))).put (some 40) (.agg (ws (am (at39 m 1))))).put (some 41) (.tuple #[.agg (ws L3), .bool (decide (u3 = 1))])).put (some 32) (.tuple #[.agg (ws L3), .bool (decide (u3 = 1))])).put (some 42) (.agg (ws L3))).put (some 43) (.bool (decide (u3 = 1)))).put (some 9) (.pointer (some ⟨g, 0, none⟩))).put (some 10) (.bool (decide (u3 = 1)))) ∧ Below w3.heap.size w3 w' ∧ w3.heap.size ≤ g ∧ Holds w' g 25 L3) ?hreg ?hnext
          case hreg =>
            refine wp_region_held_drew (S := fun X => Below w3.heap.size w3 X) (by kernel_rfl) (below_drew1 (Below.refl _ _)) (fun hHeld => ?_)
            generalize w3.drew = W0 at *
            try simp only [Act.put, List.getElem_toArray, List.getElem_cons_zero, List.getElem_cons_succ, List.setIfInBounds_toArray, List.set_cons_zero, List.set_cons_succ]
            refine wpAnyH_take (i := 0) (v := .slice (some ad2) m.length c2) rfl (by kernel_rfl) (by kernel_rfl) (by kernel_rfl) (fun _ _ _ h => absurd h.1 (by simp)) (.inl ⟨by rfl, fun _ _ => by go_simp⟩) hHeld ?_
            try simp only [Act.put, List.getElem_toArray, List.getElem_cons_zero, List.getElem_cons_succ, List.setIfInBounds_toArray, List.set_cons_zero, List.set_cons_succ]
            refine wpAnyH_take (i := 1) (v := .pointer (some (ad2.add (0 * 8)))) rfl (by kernel_rfl) (by kernel_rfl) (by kernel_rfl) (fun _ _ _ h => absurd h.1 (by simp)) (.inl ⟨by rfl, fun _ _ => by go_simp⟩) hHeld ?_
            try simp only [Act.put, List.getElem_toArray, List.getElem_cons_zero, List.getElem_cons_succ, List.setIfInBounds_toArray, List.set_cons_zero, List.set_cons_succ]
            refine wpAnyH_take (i := 2) (v := .pointer (some ⟨(ad2.add (0 * 8)).block, (ad2.add (0 * 8)).off + 1, none⟩)) rfl (by kernel_rfl) (by kernel_rfl) (by kernel_rfl) (fun _ _ _ h => absurd h.1 (by simp)) (.inl ⟨by rfl, fun _ _ => by go_simp⟩) hHeld ?_
            try simp only [Act.put, List.getElem_toArray, List.getElem_cons_zero, List.getElem_cons_succ, List.setIfInBounds_toArray, List.set_cons_zero, List.set_cons_succ]
            refine wpAnyH_take (i := 3) (v := .agg (wl (am (at39 m 0))).toArray) rfl (by kernel_rfl) (by kernel_rfl) (by kernel_rfl) (fun _ _ _ h => absurd h.1 (by simp)) (yieldsIf_load_mid rfl 25 _ rfl _ _ rfl (wl (am (at39 m 0))) _ (fun X' hS => range_am' (HMB.out _ hS) HL.out.2.1 0 (by have := S2.out; omega)) Try.underlying25 rfl (by rw [Hi25.out]; rfl)) hHeld ?_
            try simp only [Act.put, List.getElem_toArray, List.getElem_cons_zero, List.getElem_cons_succ, List.setIfInBounds_toArray, List.set_cons_zero, List.set_cons_succ]
            refine wpAnyH_take (i := 4) (v := .slice (some ad2) m.length c2) rfl (by kernel_rfl) (by kernel_rfl) (by kernel_rfl) (fun _ _ _ h => absurd h.1 (by simp)) (.inl ⟨by rfl, fun _ _ => by go_simp⟩) hHeld ?_
            try simp only [Act.put, List.getElem_toArray, List.getElem_cons_zero, List.getElem_cons_succ, List.setIfInBounds_toArray, List.set_cons_zero, List.set_cons_succ]
            refine wpAnyH_take (i := 5) (v := .pointer (some (ad2.add (1 * 8)))) rfl (by kernel_rfl) (by kernel_rfl) (by kernel_rfl) (fun _ _ _ h => absurd h.1 (by simp)) (.inl ⟨by rfl, fun _ _ => by go_simp⟩) hHeld ?_
            try simp only [Act.put, List.getElem_toArray, List.getElem_cons_zero, List.getElem_cons_succ, List.setIfInBounds_toArray, List.set_cons_zero, List.set_cons_succ]
            refine wpAnyH_take (i := 6) (v := .pointer (some ⟨(ad2.add (1 * 8)).block, (ad2.add (1 * 8)).off + 1, none⟩)) rfl (by kernel_rfl) (by kernel_rfl) (by kernel_rfl) (fun _ _ _ h => absurd h.1 (by simp)) (.inl ⟨by rfl, fun _ _ => by go_simp⟩) hHeld ?_
            try simp only [Act.put, List.getElem_toArray, List.getElem_cons_zero, List.getElem_cons_succ, List.setIfInBounds_toArray, List.set_cons_zero, List.set_cons_succ]
            refine wpAnyH_take (i := 7) (v := .agg (wl (am (at39 m 1))).toArray) rfl (by kernel_rfl) (by kernel_rfl) (by kernel_rfl) (fun _ _ _ h => absurd h.1 (by simp)) (yieldsIf_load_mid rfl 25 _ rfl _ _ rfl (wl (am (at39 m 1))) _ (fun X' hS => range_am' (HMB.out _ hS) HL.out.2.1 1 (by have := S2.out; omega)) Try.underlying25 rfl (by rw [Hi25.out]; rfl)) hHeld ?_
            try simp only [Act.put, List.getElem_toArray, List.getElem_cons_zero, List.getElem_cons_succ, List.setIfInBounds_toArray, List.set_cons_zero, List.set_cons_succ]
            rw [wl_eq, wl_eq]
            refine wpAnyH_ready (rs := [8, 12]) (by kernel_rfl) (by simp) ?_
            refine AllReadyH.cons rfl (fun K hK => ?_) ?_
            · go_simp
              refine (HSB3.out _).mono ?_
              rintro e X1 ⟨rfl, hb⟩
              refine hK.out _ _ (below_step hHeld hb) (fun hHeld => ?_)
              clear hb hK K
              try simp only [Act.put, List.getElem_toArray, List.getElem_cons_zero, List.getElem_cons_succ, List.setIfInBounds_toArray, List.set_cons_zero, List.set_cons_succ]
              refine wpAnyH_take (i := 9) (v := .tuple #[.agg (ws L3), .bool (decide (u3 = 1))]) rfl (by kernel_rfl) (by kernel_rfl) (by kernel_rfl) (fun _ _ _ h => absurd h.1 (by simp)) (.inl ⟨by rfl, fun _ _ => by go_simp⟩) hHeld ?_
              try simp only [Act.put, List.getElem_toArray, List.getElem_cons_zero, List.getElem_cons_succ, List.setIfInBounds_toArray, List.set_cons_zero, List.set_cons_succ]
              refine wpAnyH_take (i := 10) (v := .agg (ws L3)) rfl (by kernel_rfl) (by kernel_rfl) (by kernel_rfl) (fun _ _ _ h => absurd h.1 (by simp)) (.inl ⟨by rfl, fun _ _ => by go_simp⟩) hHeld ?_
              try simp only [Act.put, List.getElem_toArray, List.getElem_cons_zero, List.getElem_cons_succ, List.setIfInBounds_toArray, List.set_cons_zero, List.set_cons_succ]
              refine wpAnyH_take (i := 11) (v := .bool (decide (u3 = 1))) rfl (by kernel_rfl) (by kernel_rfl) (by kernel_rfl) (fun _ _ _ h => absurd h.1 (by simp)) (.inl ⟨by rfl, fun _ _ => by go_simp⟩) hHeld ?_
              try simp only [Act.put, List.getElem_toArray, List.getElem_cons_zero, List.getElem_cons_succ, List.setIfInBounds_toArray, List.set_cons_zero, List.set_cons_succ]
              refine wpAnyH_ready (rs := [12]) (by kernel_rfl) (by simp) ?_
              refine AllReadyH.cons rfl (fun K hK => ?_) AllReadyH.nil
              go_simp
              have hb := below_alloc (Below.refl X1.heap.size X1) (.cells #[Value.int .u64 0, .int .u64 0, .int .u64 0, .int .u64 0] 25)
              have H14 := Aside0.mk (And.intro (show Holds (X1.alloc (.cells #[Value.int .u64 0, .int .u64 0, .int .u64 0, .int .u64 0] 25)) X1.heap.size 25 (List.replicate 4 0) from blk_new X1 _) hHeld.size)
              refine hK.out _ _ (below_step hHeld hb) (fun hHeld => ?_)
              clear hb hK K
              generalize X1.alloc _ = X2 at *
              generalize X1.heap.size = g14 at *
              try simp only [Act.put, List.getElem_toArray, List.getElem_cons_zero, List.getElem_cons_succ, List.setIfInBounds_toArray, List.set_cons_zero, List.set_cons_succ]
              have hx := H14.out.1
              have z0 := hx.cell 0 (by simp)
              have y0 := hx.free 0
              have z1 := hx.cell 1 (by simp)
              have y1 := hx.free 1
              have z2 := hx.cell 2 (by simp)
              have y2 := hx.free 2
              have z3 := hx.cell 3 (by simp)
              have y3 := hx.free 3
              clear hx
              have hwf := ws_four L3 HSL3.out
              refine wpAnyH_ready (rs := [13]) (by kernel_rfl) (by simp) ?_
              refine AllReadyH.cons rfl (fun K hK => ?_) AllReadyH.nil
              go_simp
              have n14 := H14.out.2
              refine hK.out _ _ (below_set (below_set (below_set (below_set hHeld n14) n14) n14) n14) (fun hHeld => ?_)
              clear hK K z0 z1 z2 z3 y0 y1 y2 y3 hwf
              have H14' := Aside0.mk (set_four (L := List.replicate 4 0) (H := L3) rfl HSL3.out H14.out.1)
              try simp only [Act.put, List.getElem_toArray, List.getElem_cons_zero, List.getElem_cons_succ, List.setIfInBounds_toArray, List.set_cons_zero, List.set_cons_succ]
              refine wpAnyH_take (i := 14) (v := .bool (decide (u3 = 1))) rfl (by kernel_rfl) (by kernel_rfl) (by kernel_rfl) (fun _ _ _ h => absurd h.1 (by simp)) (.inl ⟨by rfl, fun _ _ => by go_simp⟩) hHeld ?_
              try simp only [Act.put, List.getElem_toArray, List.getElem_cons_zero, List.getElem_cons_succ, List.setIfInBounds_toArray, List.set_cons_zero, List.set_cons_succ]
              refine wpAnyH_done (by kernel_rfl) ?_ _
              refine ⟨rfl, g14, ?_, hHeld, n14, H14'.out⟩
              rw [ws_four L3 HSL3.out]
              try rfl
            refine AllReadyH.cons rfl (fun K hK => ?_) AllReadyH.nil
            go_simp
            have hb := below_alloc (Below.refl W0.heap.size W0) (.cells #[Value.int .u64 0, .int .u64 0, .int .u64 0, .int .u64 0] 25)
            have H14 := Aside0.mk (And.intro (show Holds (W0.alloc (.cells #[Value.int .u64 0, .int .u64 0, .int .u64 0, .int .u64 0] 25)) W0.heap.size 25 (List.replicate 4 0) from blk_new W0 _) hHeld.size)
            refine hK.out _ _ (below_step hHeld hb) (fun hHeld => ?_)
            clear hb hK K
            generalize W0.alloc _ = X3 at *
            generalize W0.heap.size = g14 at *
            try simp only [Act.put, List.getElem_toArray, List.getElem_cons_zero, List.getElem_cons_succ, List.setIfInBounds_toArray, List.set_cons_zero, List.set_cons_succ]
            refine wpAnyH_ready (rs := [8]) (by kernel_rfl) (by simp) ?_
            refine AllReadyH.cons rfl (fun K hK => ?_) AllReadyH.nil
            go_simp
            refine (HSB3.out _).mono ?_
            rintro e X4 ⟨rfl, hb⟩
            replace H14 := Aside0.mk (And.intro (Holds.below H14.out.1 hb) H14.out.2)
            refine hK.out _ _ (below_step hHeld hb) (fun hHeld => ?_)
            clear hb hK K
            try simp only [Act.put, List.getElem_toArray, List.getElem_cons_zero, List.getElem_cons_succ, List.setIfInBounds_toArray, List.set_cons_zero, List.set_cons_succ]
            refine wpAnyH_take (i := 9) (v := .tuple #[.agg (ws L3), .bool (decide (u3 = 1))]) rfl (by kernel_rfl) (by kernel_rfl) (by kernel_rfl) (fun _ _ _ h => absurd h.1 (by simp)) (.inl ⟨by rfl, fun _ _ => by go_simp⟩) hHeld ?_
            try simp only [Act.put, List.getElem_toArray, List.getElem_cons_zero, List.getElem_cons_succ, List.setIfInBounds_toArray, List.set_cons_zero, List.set_cons_succ]
            refine wpAnyH_take (i := 10) (v := .agg (ws L3)) rfl (by kernel_rfl) (by kernel_rfl) (by kernel_rfl) (fun _ _ _ h => absurd h.1 (by simp)) (.inl ⟨by rfl, fun _ _ => by go_simp⟩) hHeld ?_
            try simp only [Act.put, List.getElem_toArray, List.getElem_cons_zero, List.getElem_cons_succ, List.setIfInBounds_toArray, List.set_cons_zero, List.set_cons_succ]
            refine wpAnyH_take (i := 11) (v := .bool (decide (u3 = 1))) rfl (by kernel_rfl) (by kernel_rfl) (by kernel_rfl) (fun _ _ _ h => absurd h.1 (by simp)) (.inl ⟨by rfl, fun _ _ => by go_simp⟩) hHeld ?_
            try simp only [Act.put, List.getElem_toArray, List.getElem_cons_zero, List.getElem_cons_succ, List.setIfInBounds_toArray, List.set_cons_zero, List.set_cons_succ]
            have hx := H14.out.1
            have z0 := hx.cell 0 (by simp)
            have y0 := hx.free 0
            have z1 := hx.cell 1 (by simp)
            have y1 := hx.free 1
            have z2 := hx.cell 2 (by simp)
            have y2 := hx.free 2
            have z3 := hx.cell 3 (by simp)
            have y3 := hx.free 3
            clear hx
            have hwf := ws_four L3 HSL3.out
            refine wpAnyH_ready (rs := [13]) (by kernel_rfl) (by simp) ?_
            refine AllReadyH.cons rfl (fun K hK => ?_) AllReadyH.nil
            go_simp
            have n14 := H14.out.2
            refine hK.out _ _ (below_set (below_set (below_set (below_set hHeld n14) n14) n14) n14) (fun hHeld => ?_)
            clear hK K z0 z1 z2 z3 y0 y1 y2 y3 hwf
            have H14' := Aside0.mk (set_four (L := List.replicate 4 0) (H := L3) rfl HSL3.out H14.out.1)
            try simp only [Act.put, List.getElem_toArray, List.getElem_cons_zero, List.getElem_cons_succ, List.setIfInBounds_toArray, List.set_cons_zero, List.set_cons_succ]
            refine wpAnyH_take (i := 14) (v := .bool (decide (u3 = 1))) rfl (by kernel_rfl) (by kernel_rfl) (by kernel_rfl) (fun _ _ _ h => absurd h.1 (by simp)) (.inl ⟨by rfl, fun _ _ => by go_simp⟩) hHeld ?_
            try simp only [Act.put, List.getElem_toArray, List.getElem_cons_zero, List.getElem_cons_succ, List.setIfInBounds_toArray, List.set_cons_zero, List.set_cons_succ]
            refine wpAnyH_done (by kernel_rfl) ?_ _
            refine ⟨rfl, g14, ?_, hHeld, n14, H14'.out⟩
            rw [ws_four L3 HSL3.out]
            try rfl
          case hnext =>
            rintro _ w4 ⟨g9, rfl, hb4, n9, h9⟩
            try simp only [Act.put, List.getElem_toArray, List.getElem_cons_zero, List.getElem_cons_succ, List.setIfInBounds_toArray, List.set_cons_zero, List.set_cons_succ]
            have HW4 := Aside0.mk (below_step HW3.out hb4)
            have H74 := Aside0.mk (show Box w4 g7 39 (rowA x) from blk_below H73.out hb4)
            have H9 := Aside0.mk h9
            clear hb4 n9 h9 H73 HMB
            by_cases v1 : u3 = 1
            · have k1 := decide_eq_true v1
              have HE' := Aside0.mk (HE.out.trans (if_pos (.inl v1)))
              go_wp2_with fail
              exact bodyPost_ret (v := .int .i64 16) (by simp [results, Try.results17, go_sem]) rfl ⟨by rw [HE'.out], HW4.out⟩
            have k1 := decide_eq_false v1
            have y6 := H74.out.cell 6 (.string x.f3) rfl
            have y7 := H74.out.cell 7 (.string x.f4) rfl
            have y1 := H74.out.cell 1 (.int .u64 x.f1.f0) rfl
            have y2 := H74.out.cell 2 (.int .u64 x.f1.f1) rfl
            have y3 := H74.out.cell 3 (.int .u64 x.f1.f2) rfl
            have y4 := H74.out.cell 4 (.int .u64 x.f1.f3) rfl
            by_cases v2 : L3 = am x
            · have hx9 : Box w4 g9 25 #[.int .u64 x.f1.f0, .int .u64 x.f1.f1, .int .u64 x.f1.f2, .int .u64 x.f1.f3] := by have h9 := H9.out; rw [v2] at h9; have e := ws_wl4 _ _ _ _ (show okA x from by rw [hX.out]; exact HL.out.1 _ (at39_mem (l := l) (k := (p : Int).toNat) (by rw [Int.toNat_natCast]; exact hp))); show w4.heap[g9]? = _; rw [← e]; exact h9
              have z0 := hx9.cell 0 (.int .u64 x.f1.f0) rfl
              have z1 := hx9.cell 1 (.int .u64 x.f1.f1) rfl
              have z2 := hx9.cell 2 (.int .u64 x.f1.f2) rfl
              have z3 := hx9.cell 3 (.int .u64 x.f1.f3) rfl
              clear hx9
              have HE' := Aside0.mk (HE.out.trans (if_neg (fun h => h.elim v1 (fun h => h v2))))
              clear HE v2
              go_wp2_with fail
              refine (plain_any l (some ad) c x.f3 w4 (Kd.C_below HC0.out HW4.out) HL.out.2.2.1 (by have := HL.out.2.2.2.1; omega)).mono ?_
              rintro e w5 ⟨rfl, hb5⟩
              have HW5 := Aside0.mk (below_step HW4.out hb5)
              have b7 := (show Box w5 g7 39 (rowA x) from blk_below H74.out hb5).cell 7 (.string x.f4) rfl
              clear hb5 y1 y2 y3 y4 y6 y7 z0 z1 z2 z3
              by_cases p1 : plainI l x.f3 < 0
              · have q1 := decide_eq_true p1
                have HF := Aside0.mk (HE'.out.trans (if_pos (.inl p1)))
                go_wp2_with fail
                exact bodyPost_ret (v := .int .i64 9) (by simp [results, Try.results17, go_sem]) rfl ⟨by rw [HF.out], HW5.out⟩
              have q1 := decide_eq_false p1
              have P1 := Aside0.mk p1
              clear p1
              go_wp2_with fail
              refine (plain_any l (some ad) c x.f4 w5 (Kd.C_below HC0.out HW5.out) HL.out.2.2.1 (by have := HL.out.2.2.2.1; omega)).mono ?_
              rintro e w6 ⟨rfl, hb6⟩
              have HW6 := Aside0.mk (below_step HW5.out hb6)
              clear hb6 b7
              by_cases p2 : plainI l x.f4 < 0
              · have q2 := decide_eq_true p2
                have HF := Aside0.mk (HE'.out.trans (if_pos (.inr p2)))
                go_wp2_with fail
                exact bodyPost_ret (v := .int .i64 9) (by simp [results, Try.results17, go_sem]) rfl ⟨by rw [HF.out], HW6.out⟩
              have q2 := decide_eq_false p2
              have HF := Aside0.mk (HE'.out.trans (if_neg (fun h => h.elim (fun h => by have := P1.out; omega) (fun h => by omega))))
              go_wp2_with fail
              exact bodyPost_ret (v := .int .i64 0) (by simp [results, Try.results17, go_sem]) rfl ⟨by rw [HF.out], HW6.out⟩
            · have z0 := H9.out.cell 0 (by rw [HSL3.out]; omega)
              have z1 := H9.out.cell 1 (by rw [HSL3.out]; omega)
              have z2 := H9.out.cell 2 (by rw [HSL3.out]; omega)
              have z3 := H9.out.cell 3 (by rw [HSL3.out]; omega)
              have HE' := Aside0.mk (HE.out.trans (if_pos (.inr v2)))
              clear HE
              have V2 := Aside0.mk v2
              clear v2
              go_wp2_with fail
              all_goals first | exact bodyPost_ret (v := .int .i64 16) (by simp [results, Try.results17, go_sem]) rfl ⟨by rw [HE'.out], HW4.out⟩ | exact absurd (words_eq HSL3.out (by assumption)) V2.out
      · have k2 : ((m.length : Int) != 2) = true := by simp; omega
        have HE := Aside0.mk (HE1.out.trans (if_pos (.inr (.inl s2))))
        go_enter Try.func17, Try.ntmps17
        go_wp2_with fail
        refine (there_any (some ad) c l p _ HC0.out HL.out.2.2.1).mono ?_
        rintro e w1 ⟨rfl, ⟨nd, hw1⟩⟩
        rw [d1]
        have HW1 := Aside0.mk (show Below w.heap.size w w1 by rw [hw1]; exact pw_below_drewN (Below.refl _ _) _)
        clear hw1
        have HC1 := Aside0.mk (Kd.C_below HC0.out HW1.out)
        obtain ⟨ad1, ea, x0, x1, x2, x3, x4, x5, x6, x7⟩ := at_T39 HC1.out (p : Int) (by omega) (by omega)
        obtain rfl := Option.some.inj ea
        simp only [Int.toNat_natCast] at x0 x1 x2 x3 x4 x5 x6 x7
        have hr : rd_T39 l (p : Int) = at' l p := rfl
        rw [hr] at x0 x1 x2 x3 x4 x5 x6 x7
        have hi : (p : Int) < (l.length : Int) := by omega
        clear hr ea
        rw [← hX.out] at x0 x1 x2 x3 x4 x5 x6 x7
        go_wp2_with fail
        have hn7 : Box (w1.alloc (.cells (rowA x) 39)) w1.heap.size 39 (rowA x) := blk_new w1 _
        have H7 := Aside0.mk hn7
        have HW2 := Aside0.mk (below_alloc HW1.out (.cells (rowA x) 39))
        have N7 := Aside0.mk HW1.out.size
        clear x0 x1 x2 x3 x4 x5 x6 x7 hn7 HC1
        refine (rough_any m A2 c2 (w1.alloc (.cells (rowA x) 39)) (Kd.C_below HM0.out HW2.out) HL.out.2.2.2.2.1 (by have := HL.out.2.2.2.2.2; omega)).mono ?_
        generalize w1.heap.size = g7 at *
        rintro e w3 ⟨rfl, hb3⟩
        have HW3 := Aside0.mk (below_step HW2.out hb3)
        have H73 := Aside0.mk (show Box w3 g7 39 (rowA x) from blk_below H7.out hb3)
        clear hb3 H7
        have y5 := H73.out.cell 5 (.int .i64 x.f2) rfl
        go_wp2_with fail
        exact bodyPost_ret (v := .int .i64 2) (by simp [results, Try.results17, go_sem]) rfl ⟨by rw [HE.out], HW3.out⟩
    · have k1 : (x.f2 != 1) = true := by simp [s1]
      have HE := Aside0.mk (HE1.out.trans (if_pos (.inl s1)))
      go_enter Try.func17, Try.ntmps17
      go_wp2_with fail
      refine (there_any (some ad) c l p _ HC0.out HL.out.2.2.1).mono ?_
      rintro e w1 ⟨rfl, ⟨nd, hw1⟩⟩
      rw [d1]
      have HW1 := Aside0.mk (show Below w.heap.size w w1 by rw [hw1]; exact pw_below_drewN (Below.refl _ _) _)
      clear hw1
      have HC1 := Aside0.mk (Kd.C_below HC0.out HW1.out)
      obtain ⟨ad1, ea, x0, x1, x2, x3, x4, x5, x6, x7⟩ := at_T39 HC1.out (p : Int) (by omega) (by omega)
      obtain rfl := Option.some.inj ea
      simp only [Int.toNat_natCast] at x0 x1 x2 x3 x4 x5 x6 x7
      have hr : rd_T39 l (p : Int) = at' l p := rfl
      rw [hr] at x0 x1 x2 x3 x4 x5 x6 x7
      have hi : (p : Int) < (l.length : Int) := by omega
      clear hr ea
      rw [← hX.out] at x0 x1 x2 x3 x4 x5 x6 x7
      go_wp2_with fail
      have hn7 : Box (w1.alloc (.cells (rowA x) 39)) w1.heap.size 39 (rowA x) := blk_new w1 _
      have H7 := Aside0.mk hn7
      have HW2 := Aside0.mk (below_alloc HW1.out (.cells (rowA x) 39))
      have N7 := Aside0.mk HW1.out.size
      clear x0 x1 x2 x3 x4 x5 x6 x7 hn7 HC1
      refine (rough_any m A2 c2 (w1.alloc (.cells (rowA x) 39)) (Kd.C_below HM0.out HW2.out) HL.out.2.2.2.2.1 (by have := HL.out.2.2.2.2.2; omega)).mono ?_
      generalize w1.heap.size = g7 at *
      rintro e w3 ⟨rfl, hb3⟩
      have HW3 := Aside0.mk (below_step HW2.out hb3)
      have H73 := Aside0.mk (show Box w3 g7 39 (rowA x) from blk_below H7.out hb3)
      clear hb3 H7
      have y5 := H73.out.cell 5 (.int .i64 x.f2) rfl
      go_wp2_with fail
      exact bodyPost_ret (v := .int .i64 2) (by simp [results, Try.results17, go_sem]) rfl ⟨by rw [HE.out], HW3.out⟩
  · have d1 := decide_eq_false t1
    have HE := Aside0.mk (show boundE l k m = 3 by rw [boundE, if_pos t1])
    go_enter Try.func17, Try.ntmps17
    go_wp2_with fail
    refine (there_any A c l k _ HC0.out HL.out.2.2.1).mono ?_
    rintro e w1 ⟨rfl, ⟨nd, hw1⟩⟩
    rw [d1]
    have HW1 := Aside0.mk (show Below w.heap.size w w1 by rw [hw1]; exact pw_below_drewN (Below.refl _ _) _)
    clear hw1
    go_wp2_with fail
    exact bodyPost_ret (v := .int .i64 3) (by simp [results, Try.results17, go_sem]) rfl ⟨by rw [HE.out], HW1.out⟩
end Go.Proofs.Ytlkecihibmndbaa.P
