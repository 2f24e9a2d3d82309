import Derived.Test.YtlkecihibmndbaaPureS
namespace Go.Proofs.Ytlkecihibmndbaa.P
set_option linter.unusedVariables false
set_option linter.unusedSimpArgs false
open Go.RowKit Go.Shelf Go.Proofs.YtlkecihibmndbaaW.PrintWords Go.Proofs.YtlkecihibmndbaaW.PrintLast
attribute [local go_sem] Oper.semAt_some
attribute [local go_sem high] eqA25 eqA39
/-! ClaimSides, walked. -/
theorem C_of_owns {W : World} {base n : Nat} {v : Value} {LL : List S39} (h : W.ownsRow base 39 8 v n (cells39 LL)) (hn : LL.length = n) : ∃ A c, v = .slice A LL.length c ∧ Kd.C k39 W A LL.length LL ∧ LL.length ≤ c := by
  subst hn
  have hR : Kd.R k39 39 W base (fun _ => True) v LL := R_of_cells39 h (fun _ => True) (fun _ _ => trivial)
  obtain ⟨A, c, rfl⟩ := Kd.R_slice hR
  exact ⟨A, c, rfl, (Kd.R_reads' hR).2.2, (Kd.R_reads' hR).2.1⟩
theorem bindL_lens (l : List S39) (ch : ByteArray) (i j : Int) (a b : List W64) : (bindL l ch i j a b).length = l.length + 1 := by simp [bindL]
set_option maxRecDepth 100000 in
set_option maxHeartbeats 8000000 in
theorem sides_any (l : List S39) (hl : okL l) (A : Option Addr) (c : Nat) (ch : ByteArray) (i j : Int) (a b : List W64) (ha : a.length = 4) (hb : b.length = 4) (w : World)
    (hC : Kd.C k39 w A l.length l) (hlen : l.length ≤ c) :
    Calls Try.prog 6 #[.slice A l.length c, .string ch, .int .i64 i, .int .i64 j, .agg (ws a), .agg (ws b)] w fun e w' => e = .returned (.bool true) ∧ Below w.heap.size w w' := by
  have hu39 := Try.underlying39
  have T := two w (.cells (ws a) 25) (.cells (ws b) 25)
  have HT := Aside0.mk T
  have Hi25 := Aside0.mk (show (Try.prog.info? 25).map (·.size) = some 4 by kernel_rfl)
  have HC := Aside0.mk hC
  have HAW := Aside0.mk (fun W => trucelaw18_awake.calls true W awake_true)
  clear T hC
  by_cases c1 : l.length ≤ 60
  · have F1 := Aside0.mk (few_true l c1)
    have HL := Aside0.mk (And.intro ha (And.intro hb (And.intro hl (And.intro hlen (show l.length ≤ 1000 by omega)))))
    clear ha hb hl hlen
    go_enter Try.func6, Try.ntmps6
    go_wp2_with fail
    refine (trucelaw18_few.calls A c l true _ (Kd.C_below HC.out HT.out.2.2) HL.out.2.2.2.1 F1.out).mono ?_
    rintro e w1 ⟨rfl, ⟨nd, hw1⟩⟩
    have HW1 := Aside0.mk (show Below w.heap.size w w1 by rw [hw1]; exact pw_below_drewN HT.out.2.2 _)
    have HG1 := Aside0.mk (show Holds w1 w.heap.size 25 a ∧ Holds w1 (w.heap.size + 1) 25 b by rw [hw1]; exact ⟨HT.out.1, HT.out.2.1⟩)
    clear hw1
    go_wp2_with (first | (refine load_ws rfl 25 _ rfl w.heap.size rfl 25 a 4 _ HG1.out.1 HL.out.1 Try.underlying25 rfl Hi25.out ?_) | (refine load_ws rfl 25 _ rfl (w.heap.size + 1) rfl 25 b 4 _ HG1.out.2 HL.out.2.1 Try.underlying25 rfl Hi25.out ?_))
    refine (bind_any ch i j a b HL.out.1 HL.out.2.1 l HL.out.2.2.1 A c w1 (Kd.C_below HC.out HW1.out) HL.out.2.2.2.1 HL.out.2.2.2.2).mono ?_
    intro e w2 h2
    by_cases hE : bindE l ch i j a b = 0
    · obtain ⟨v, rfl, ho, hb2⟩ := h2.2 hE
      obtain ⟨p, q, rfl, rfl, hf⟩ := bfine_of hE
      have hul : (bindL l ch p q a b).length = l.length + 1 := bindL_lens _ _ _ _ _ _
      obtain ⟨Au, cu, rfl, hCu, hlu⟩ := C_of_owns ho hul
      clear ho h2 hE
      have hp := hf.hp
      have hq := hf.hq
      have HPQ := Aside0.mk hf.ne
      have HSD := Aside0.mk (show Sided l (bindL l ch p q a b) ch p q (subk (am (at' l p)) a 4).1 (subk (am (at' l q)) b 4).1 (addk a b 4).1 from sided HL.out.2.2.1 HL.out.1 hf)
      have HU1 := Aside0.mk (show (subk (am (at' l p)) a 4).2 ≠ 1 from hf.up)
      have HU2 := Aside0.mk (show (subk (am (at' l q)) b 4).2 ≠ 1 from hf.uq)
      have HU3 := Aside0.mk hf.ov
      clear hf
      obtain ⟨ad, hA, _⟩ := HC.out.2.2 (by omega)
      subst hA
      obtain ⟨adu, hAu, _⟩ := hCu.2.2 (by omega)
      subst hAu
      have HC2 := Aside0.mk (Kd.C_below HC.out (below_step HW1.out hb2))
      have HW2 := Aside0.mk (below_step HW1.out hb2)
      have HG2 := Aside0.mk (And.intro (Holds.below HG1.out.1 hb2) (Holds.below HG1.out.2 hb2))
      have HU0 := Aside0.mk hCu
      have HLU := Aside0.mk hlu
      clear hb2 hCu hlu HG1 HW1
      generalize bindL l ch p q a b = U at *
      have HB := Aside0.mk (fun (X : World) (hX : Below w2.heap.size w2 X) => Kd.C_below HC2.out hX)
      have HSL1 := Aside0.mk (show (subk (am (at' l p)) a 4).1.length = 4 by rw [subk_len]; exact rfl)
      have HSU1 := Aside0.mk (show decide ((subk (am (at' l p)) a 4).2 > 0) = false from decide_eq_false (by have h1 := subk_c (am (at' l p)) a 4; have h2 := HU1.out; omega))
      have HSB1 := Aside0.mk (fun W => rsub_any (am (at' l p)) a rfl HL.out.1 W)
      have HSL2 := Aside0.mk (show (subk (am (at' l q)) b 4).1.length = 4 by rw [subk_len]; exact rfl)
      have HSU2 := Aside0.mk (show decide ((subk (am (at' l q)) b 4).2 > 0) = false from decide_eq_false (by have h1 := subk_c (am (at' l q)) b 4; have h2 := HU2.out; omega))
      have HSB2 := Aside0.mk (fun W => rsub_any (am (at' l q)) b rfl HL.out.2.1 W)
      have HSL3 := Aside0.mk (show (addk a b 4).1.length = 4 by rw [addk_len]; exact HL.out.1)
      have HSU3 := Aside0.mk (show decide ((addk a b 4).2 > 0) = false from decide_eq_false (by have h1 := addk_c a b 4; have h2 := HU3.out; omega))
      have HSB3 := Aside0.mk (fun W => radd_any a b HL.out.1 HL.out.2.1 W)
      clear HU1 HU2 HU3
      generalize subk (am (at' l p)) a 4 = S1 at *
      generalize subk (am (at' l q)) b 4 = S2 at *
      generalize addk a b 4 = S3 at *
      obtain ⟨L1, u1⟩ := S1
      obtain ⟨L2, u2⟩ := S2
      obtain ⟨L3, u3⟩ := S3
      simp only at HSD HSL1 HSL2 HSL3 HSB1 HSB2 HSB3 HSU1 HSU2 HSU3
      have i1 : decide ((p : Int) < l.length) = true := decide_eq_true (by omega)
      have i2 : decide ((q : Int) < l.length) = true := decide_eq_true (by omega)
      clear hul
      go_wp2_with fail
      refine wp_put (fun a0 a' w' => ∃ gn, a' = ((((((((((((a0.put (some 43) (.slice (some ad) l.length c)).put (some 44) (.int .i64 (p : Nat))).put (some 45) (.pointer (some (ad.add (p * 8))))).put (some 46) (.pointer (some ⟨(ad.add (p * 8)).block, (ad.add (p * 8)).off + 1, none⟩))).put (some 47) (.agg (ws (am (at' l p))))).put (some 48) (.agg (ws a))).put (some 49) (.tuple #[.agg (ws L1), .bool (decide (u1 > 0))])).put (some 42) (.tuple #[.agg (ws L1), .bool (decide (u1 > 0))])).put (some 50) (.agg (ws L1))).put (some 51) (.bool (decide (u1 > 0)))).put (some 16) (.pointer (some ⟨gn, 0, none⟩))).put (some 17) (.bool (decide (u1 > 0)))) ∧ Below w2.heap.size w2 w' ∧ w2.heap.size ≤ gn ∧ Holds w' gn 25 L1) ?hreg ?hnext
      case hreg =>
        refine wp_region_held_drew (S := fun X => Below w2.heap.size w2 X) (by kernel_rfl) (below_drew1 (Below.refl _ _)) (fun hHeld => ?_)
        generalize w2.drew = W0 at *
        try simp only [Act.put, List.getElem_toArray, List.getElem_cons_zero, List.getElem_cons_succ, List.setIfInBounds_toArray, List.set_cons_zero, List.set_cons_succ]
        refine wpAnyH_take (i := 0) (v := .slice (some ad) l.length c) rfl (by kernel_rfl) (by kernel_rfl) (by kernel_rfl) (fun _ _ _ h => absurd h.1 (by simp)) (.inl ⟨by rfl, fun _ _ => by go_simp⟩) hHeld ?_
        try simp only [Act.put, List.getElem_toArray, List.getElem_cons_zero, List.getElem_cons_succ, List.setIfInBounds_toArray, List.set_cons_zero, List.set_cons_succ]
        refine wpAnyH_take (i := 1) (v := .int .i64 (p : Nat)) rfl (by kernel_rfl) (by kernel_rfl) (by kernel_rfl) (fun _ _ _ h => absurd h.1 (by simp)) (.inl ⟨by rfl, fun _ _ => by go_simp⟩) hHeld ?_
        try simp only [Act.put, List.getElem_toArray, List.getElem_cons_zero, List.getElem_cons_succ, List.setIfInBounds_toArray, List.set_cons_zero, List.set_cons_succ]
        refine wpAnyH_take (i := 2) (v := .pointer (some (ad.add (p * 8)))) rfl (by kernel_rfl) (by kernel_rfl) (by kernel_rfl) (fun _ _ _ h => absurd h.1 (by simp)) (.inl ⟨by rfl, fun _ _ => by go_simp⟩) hHeld ?_
        try simp only [Act.put, List.getElem_toArray, List.getElem_cons_zero, List.getElem_cons_succ, List.setIfInBounds_toArray, List.set_cons_zero, List.set_cons_succ]
        refine wpAnyH_take (i := 3) (v := .pointer (some ⟨(ad.add (p * 8)).block, (ad.add (p * 8)).off + 1, none⟩)) rfl (by kernel_rfl) (by kernel_rfl) (by kernel_rfl) (fun _ _ _ h => absurd h.1 (by simp)) (.inl ⟨by rfl, fun _ _ => by go_simp⟩) hHeld ?_
        try simp only [Act.put, List.getElem_toArray, List.getElem_cons_zero, List.getElem_cons_succ, List.setIfInBounds_toArray, List.set_cons_zero, List.set_cons_succ]
        refine wpAnyH_take (i := 4) (v := .agg (wl (am (at' l p))).toArray) rfl (by kernel_rfl) (by kernel_rfl) (by kernel_rfl) (fun _ _ _ h => absurd h.1 (by simp)) (yieldsIf_load_mid rfl 25 _ rfl _ _ rfl (wl (am (at' l p))) _ (fun X' hS => range_am (HB.out _ hS) HL.out.2.2.1 p hp) Try.underlying25 rfl (by rw [Hi25.out]; rfl)) hHeld ?_
        try simp only [Act.put, List.getElem_toArray, List.getElem_cons_zero, List.getElem_cons_succ, List.setIfInBounds_toArray, List.set_cons_zero, List.set_cons_succ]
        refine wpAnyH_take (i := 5) (v := .agg (wl a).toArray) rfl (by kernel_rfl) (by kernel_rfl) (by kernel_rfl) (fun _ _ _ h => absurd h.1 (by simp)) (yieldsIf_load_mid rfl 25 _ rfl w.heap.size 0 rfl (wl a) _ (fun X' hS => range_of (Holds.below HG2.out.1 hS)) Try.underlying25 rfl (by rw [Hi25.out, wl, List.length_map, HL.out.1])) hHeld ?_
        try simp only [Act.put, List.getElem_toArray, List.getElem_cons_zero, List.getElem_cons_succ, List.setIfInBounds_toArray, List.set_cons_zero, List.set_cons_succ]
        rw [wl_eq, wl_eq]
        refine wpAnyH_ready (rs := [6, 10]) (by kernel_rfl) (by simp) ?_
        refine AllReadyH.cons rfl (fun K hK => ?_) ?_
        · go_simp
          refine (HSB1.out _).mono ?_
          rintro e X1 ⟨rfl, hb⟩
          refine hK.out _ _ (below_step hHeld hb) (fun hHeld => ?_)
          clear hb hK K
          try simp only [Act.put, List.getElem_toArray, List.getElem_cons_zero, List.getElem_cons_succ, List.setIfInBounds_toArray, List.set_cons_zero, List.set_cons_succ]
          refine wpAnyH_take (i := 7) (v := .tuple #[.agg (ws L1), .bool (decide (u1 > 0))]) rfl (by kernel_rfl) (by kernel_rfl) (by kernel_rfl) (fun _ _ _ h => absurd h.1 (by simp)) (.inl ⟨by rfl, fun _ _ => by go_simp⟩) hHeld ?_
          try simp only [Act.put, List.getElem_toArray, List.getElem_cons_zero, List.getElem_cons_succ, List.setIfInBounds_toArray, List.set_cons_zero, List.set_cons_succ]
          refine wpAnyH_take (i := 8) (v := .agg (ws L1)) rfl (by kernel_rfl) (by kernel_rfl) (by kernel_rfl) (fun _ _ _ h => absurd h.1 (by simp)) (.inl ⟨by rfl, fun _ _ => by go_simp⟩) hHeld ?_
          try simp only [Act.put, List.getElem_toArray, List.getElem_cons_zero, List.getElem_cons_succ, List.setIfInBounds_toArray, List.set_cons_zero, List.set_cons_succ]
          refine wpAnyH_take (i := 9) (v := .bool (decide (u1 > 0))) rfl (by kernel_rfl) (by kernel_rfl) (by kernel_rfl) (fun _ _ _ h => absurd h.1 (by simp)) (.inl ⟨by rfl, fun _ _ => by go_simp⟩) hHeld ?_
          try simp only [Act.put, List.getElem_toArray, List.getElem_cons_zero, List.getElem_cons_succ, List.setIfInBounds_toArray, List.set_cons_zero, List.set_cons_succ]
          refine wpAnyH_ready (rs := [10]) (by kernel_rfl) (by simp) ?_
          refine AllReadyH.cons rfl (fun K hK => ?_) AllReadyH.nil
          go_simp
          have hb := below_alloc (Below.refl X1.heap.size X1) (.cells #[Value.int .u64 0, .int .u64 0, .int .u64 0, .int .u64 0] 25)
          have H14 := Aside0.mk (And.intro (show Holds (X1.alloc (.cells #[Value.int .u64 0, .int .u64 0, .int .u64 0, .int .u64 0] 25)) X1.heap.size 25 (List.replicate 4 0) from blk_new X1 _) hHeld.size)
          refine hK.out _ _ (below_step hHeld hb) (fun hHeld => ?_)
          clear hb hK K
          generalize X1.alloc _ = X2 at *
          generalize X1.heap.size = g14 at *
          try simp only [Act.put, List.getElem_toArray, List.getElem_cons_zero, List.getElem_cons_succ, List.setIfInBounds_toArray, List.set_cons_zero, List.set_cons_succ]
          have hx := H14.out.1
          have z0 := hx.cell 0 (by simp)
          have y0 := hx.free 0
          have z1 := hx.cell 1 (by simp)
          have y1 := hx.free 1
          have z2 := hx.cell 2 (by simp)
          have y2 := hx.free 2
          have z3 := hx.cell 3 (by simp)
          have y3 := hx.free 3
          clear hx
          have hwf := ws_four L1 HSL1.out
          refine wpAnyH_ready (rs := [11]) (by kernel_rfl) (by simp) ?_
          refine AllReadyH.cons rfl (fun K hK => ?_) AllReadyH.nil
          go_simp
          have n14 := H14.out.2
          refine hK.out _ _ (below_set (below_set (below_set (below_set hHeld n14) n14) n14) n14) (fun hHeld => ?_)
          clear hK K z0 z1 z2 z3 y0 y1 y2 y3 hwf
          have H14' := Aside0.mk (set_four (L := List.replicate 4 0) (H := L1) rfl HSL1.out H14.out.1)
          try simp only [Act.put, List.getElem_toArray, List.getElem_cons_zero, List.getElem_cons_succ, List.setIfInBounds_toArray, List.set_cons_zero, List.set_cons_succ]
          refine wpAnyH_take (i := 12) (v := .bool (decide (u1 > 0))) rfl (by kernel_rfl) (by kernel_rfl) (by kernel_rfl) (fun _ _ _ h => absurd h.1 (by simp)) (.inl ⟨by rfl, fun _ _ => by go_simp⟩) hHeld ?_
          try simp only [Act.put, List.getElem_toArray, List.getElem_cons_zero, List.getElem_cons_succ, List.setIfInBounds_toArray, List.set_cons_zero, List.set_cons_succ]
          refine wpAnyH_done (by kernel_rfl) ?_ _
          refine ⟨rfl, g14, ?_, hHeld, n14, H14'.out⟩
          rw [ws_four L1 HSL1.out]
          try rfl
        refine AllReadyH.cons rfl (fun K hK => ?_) AllReadyH.nil
        go_simp
        have hb := below_alloc (Below.refl W0.heap.size W0) (.cells #[Value.int .u64 0, .int .u64 0, .int .u64 0, .int .u64 0] 25)
        have H14 := Aside0.mk (And.intro (show Holds (W0.alloc (.cells #[Value.int .u64 0, .int .u64 0, .int .u64 0, .int .u64 0] 25)) W0.heap.size 25 (List.replicate 4 0) from blk_new W0 _) hHeld.size)
        refine hK.out _ _ (below_step hHeld hb) (fun hHeld => ?_)
        clear hb hK K
        generalize W0.alloc _ = X3 at *
        generalize W0.heap.size = g14 at *
        try simp only [Act.put, List.getElem_toArray, List.getElem_cons_zero, List.getElem_cons_succ, List.setIfInBounds_toArray, List.set_cons_zero, List.set_cons_succ]
        refine wpAnyH_ready (rs := [6]) (by kernel_rfl) (by simp) ?_
        refine AllReadyH.cons rfl (fun K hK => ?_) AllReadyH.nil
        go_simp
        refine (HSB1.out _).mono ?_
        rintro e X4 ⟨rfl, hb⟩
        replace H14 := Aside0.mk (And.intro (Holds.below H14.out.1 hb) H14.out.2)
        refine hK.out _ _ (below_step hHeld hb) (fun hHeld => ?_)
        clear hb hK K
        try simp only [Act.put, List.getElem_toArray, List.getElem_cons_zero, List.getElem_cons_succ, List.setIfInBounds_toArray, List.set_cons_zero, List.set_cons_succ]
        refine wpAnyH_take (i := 7) (v := .tuple #[.agg (ws L1), .bool (decide (u1 > 0))]) rfl (by kernel_rfl) (by kernel_rfl) (by kernel_rfl) (fun _ _ _ h => absurd h.1 (by simp)) (.inl ⟨by rfl, fun _ _ => by go_simp⟩) hHeld ?_
        try simp only [Act.put, List.getElem_toArray, List.getElem_cons_zero, List.getElem_cons_succ, List.setIfInBounds_toArray, List.set_cons_zero, List.set_cons_succ]
        refine wpAnyH_take (i := 8) (v := .agg (ws L1)) rfl (by kernel_rfl) (by kernel_rfl) (by kernel_rfl) (fun _ _ _ h => absurd h.1 (by simp)) (.inl ⟨by rfl, fun _ _ => by go_simp⟩) hHeld ?_
        try simp only [Act.put, List.getElem_toArray, List.getElem_cons_zero, List.getElem_cons_succ, List.setIfInBounds_toArray, List.set_cons_zero, List.set_cons_succ]
        refine wpAnyH_take (i := 9) (v := .bool (decide (u1 > 0))) rfl (by kernel_rfl) (by kernel_rfl) (by kernel_rfl) (fun _ _ _ h => absurd h.1 (by simp)) (.inl ⟨by rfl, fun _ _ => by go_simp⟩) hHeld ?_
        try simp only [Act.put, List.getElem_toArray, List.getElem_cons_zero, List.getElem_cons_succ, List.setIfInBounds_toArray, List.set_cons_zero, List.set_cons_succ]
        have hx := H14.out.1
        have z0 := hx.cell 0 (by simp)
        have y0 := hx.free 0
        have z1 := hx.cell 1 (by simp)
        have y1 := hx.free 1
        have z2 := hx.cell 2 (by simp)
        have y2 := hx.free 2
        have z3 := hx.cell 3 (by simp)
        have y3 := hx.free 3
        clear hx
        have hwf := ws_four L1 HSL1.out
        refine wpAnyH_ready (rs := [11]) (by kernel_rfl) (by simp) ?_
        refine AllReadyH.cons rfl (fun K hK => ?_) AllReadyH.nil
        go_simp
        have n14 := H14.out.2
        refine hK.out _ _ (below_set (below_set (below_set (below_set hHeld n14) n14) n14) n14) (fun hHeld => ?_)
        clear hK K z0 z1 z2 z3 y0 y1 y2 y3 hwf
        have H14' := Aside0.mk (set_four (L := List.replicate 4 0) (H := L1) rfl HSL1.out H14.out.1)
        try simp only [Act.put, List.getElem_toArray, List.getElem_cons_zero, List.getElem_cons_succ, List.setIfInBounds_toArray, List.set_cons_zero, List.set_cons_succ]
        refine wpAnyH_take (i := 12) (v := .bool (decide (u1 > 0))) rfl (by kernel_rfl) (by kernel_rfl) (by kernel_rfl) (fun _ _ _ h => absurd h.1 (by simp)) (.inl ⟨by rfl, fun _ _ => by go_simp⟩) hHeld ?_
        try simp only [Act.put, List.getElem_toArray, List.getElem_cons_zero, List.getElem_cons_succ, List.setIfInBounds_toArray, List.set_cons_zero, List.set_cons_succ]
        refine wpAnyH_done (by kernel_rfl) ?_ _
        refine ⟨rfl, g14, ?_, hHeld, n14, H14'.out⟩
        rw [ws_four L1 HSL1.out]
        try rfl
      case hnext =>
        rintro _ w3 ⟨g16, rfl, hb3, n14, h14⟩
        rw [HSU1.out]
        try simp only [Act.put, List.getElem_toArray, List.getElem_cons_zero, List.getElem_cons_succ, List.setIfInBounds_toArray, List.set_cons_zero, List.set_cons_succ]
        have HC3 := Aside0.mk (HB.out _ hb3)
        have HB3 := Aside0.mk (fun (X : World) (hX : Below w3.heap.size w3 X) => Kd.C_below HC3.out hX)
        have HU3 := Aside0.mk (Kd.C_below HU0.out hb3)
        have HW3 := Aside0.mk (below_step HW2.out hb3)
        have HG3 := Aside0.mk (And.intro (Holds.below HG2.out.1 hb3) (And.intro (Holds.below HG2.out.2 hb3) h14))
        clear hb3 n14 h14 HU0 HB HC2 HW2 HG2
        go_wp2_with fail
        refine wp_put (fun a0 a' w' => ∃ gn, a' = ((((((((((((a0.put (some 53) (.slice (some ad) l.length c)).put (some 54) (.int .i64 (q : Nat))).put (some 55) (.pointer (some (ad.add (q * 8))))).put (some 56) (.pointer (some ⟨(ad.add (q * 8)).block, (ad.add (q * 8)).off + 1, none⟩))).put (some 57) (.agg (ws (am (at' l q))))).put (some 58) (.agg (ws b))).put (some 59) (.tuple #[.agg (ws L2), .bool (decide (u2 > 0))])).put (some 52) (.tuple #[.agg (ws L2), .bool (decide (u2 > 0))])).put (some 60) (.agg (ws L2))).put (some 61) (.bool (decide (u2 > 0)))).put (some 18) (.pointer (some ⟨gn, 0, none⟩))).put (some 19) (.bool (decide (u2 > 0)))) ∧ Below w3.heap.size w3 w' ∧ w3.heap.size ≤ gn ∧ Holds w' gn 25 L2) ?hreg ?hnext
        case hreg =>
          refine wp_region_held_drew (S := fun X => Below w3.heap.size w3 X) (by kernel_rfl) (below_drew1 (Below.refl _ _)) (fun hHeld => ?_)
          generalize w3.drew = W0 at *
          try simp only [Act.put, List.getElem_toArray, List.getElem_cons_zero, List.getElem_cons_succ, List.setIfInBounds_toArray, List.set_cons_zero, List.set_cons_succ]
          refine wpAnyH_take (i := 0) (v := .slice (some ad) l.length c) rfl (by kernel_rfl) (by kernel_rfl) (by kernel_rfl) (fun _ _ _ h => absurd h.1 (by simp)) (.inl ⟨by rfl, fun _ _ => by go_simp⟩) hHeld ?_
          try simp only [Act.put, List.getElem_toArray, List.getElem_cons_zero, List.getElem_cons_succ, List.setIfInBounds_toArray, List.set_cons_zero, List.set_cons_succ]
          refine wpAnyH_take (i := 1) (v := .int .i64 (q : Nat)) rfl (by kernel_rfl) (by kernel_rfl) (by kernel_rfl) (fun _ _ _ h => absurd h.1 (by simp)) (.inl ⟨by rfl, fun _ _ => by go_simp⟩) hHeld ?_
          try simp only [Act.put, List.getElem_toArray, List.getElem_cons_zero, List.getElem_cons_succ, List.setIfInBounds_toArray, List.set_cons_zero, List.set_cons_succ]
          refine wpAnyH_take (i := 2) (v := .pointer (some (ad.add (q * 8)))) rfl (by kernel_rfl) (by kernel_rfl) (by kernel_rfl) (fun _ _ _ h => absurd h.1 (by simp)) (.inl ⟨by rfl, fun _ _ => by go_simp⟩) hHeld ?_
          try simp only [Act.put, List.getElem_toArray, List.getElem_cons_zero, List.getElem_cons_succ, List.setIfInBounds_toArray, List.set_cons_zero, List.set_cons_succ]
          refine wpAnyH_take (i := 3) (v := .pointer (some ⟨(ad.add (q * 8)).block, (ad.add (q * 8)).off + 1, none⟩)) rfl (by kernel_rfl) (by kernel_rfl) (by kernel_rfl) (fun _ _ _ h => absurd h.1 (by simp)) (.inl ⟨by rfl, fun _ _ => by go_simp⟩) hHeld ?_
          try simp only [Act.put, List.getElem_toArray, List.getElem_cons_zero, List.getElem_cons_succ, List.setIfInBounds_toArray, List.set_cons_zero, List.set_cons_succ]
          refine wpAnyH_take (i := 4) (v := .agg (wl (am (at' l q))).toArray) rfl (by kernel_rfl) (by kernel_rfl) (by kernel_rfl) (fun _ _ _ h => absurd h.1 (by simp)) (yieldsIf_load_mid rfl 25 _ rfl _ _ rfl (wl (am (at' l q))) _ (fun X' hS => range_am (HB3.out _ hS) HL.out.2.2.1 q hq) Try.underlying25 rfl (by rw [Hi25.out]; rfl)) hHeld ?_
          try simp only [Act.put, List.getElem_toArray, List.getElem_cons_zero, List.getElem_cons_succ, List.setIfInBounds_toArray, List.set_cons_zero, List.set_cons_succ]
          refine wpAnyH_take (i := 5) (v := .agg (wl b).toArray) rfl (by kernel_rfl) (by kernel_rfl) (by kernel_rfl) (fun _ _ _ h => absurd h.1 (by simp)) (yieldsIf_load_mid rfl 25 _ rfl (w.heap.size + 1) 0 rfl (wl b) _ (fun X' hS => range_of (Holds.below HG3.out.2.1 hS)) Try.underlying25 rfl (by rw [Hi25.out, wl, List.length_map, HL.out.2.1])) hHeld ?_
          try simp only [Act.put, List.getElem_toArray, List.getElem_cons_zero, List.getElem_cons_succ, List.setIfInBounds_toArray, List.set_cons_zero, List.set_cons_succ]
          rw [wl_eq, wl_eq]
          refine wpAnyH_ready (rs := [6, 10]) (by kernel_rfl) (by simp) ?_
          refine AllReadyH.cons rfl (fun K hK => ?_) ?_
          · go_simp
            refine (HSB2.out _).mono ?_
            rintro e X5 ⟨rfl, hb⟩
            refine hK.out _ _ (below_step hHeld hb) (fun hHeld => ?_)
            clear hb hK K
            try simp only [Act.put, List.getElem_toArray, List.getElem_cons_zero, List.getElem_cons_succ, List.setIfInBounds_toArray, List.set_cons_zero, List.set_cons_succ]
            refine wpAnyH_take (i := 7) (v := .tuple #[.agg (ws L2), .bool (decide (u2 > 0))]) rfl (by kernel_rfl) (by kernel_rfl) (by kernel_rfl) (fun _ _ _ h => absurd h.1 (by simp)) (.inl ⟨by rfl, fun _ _ => by go_simp⟩) hHeld ?_
            try simp only [Act.put, List.getElem_toArray, List.getElem_cons_zero, List.getElem_cons_succ, List.setIfInBounds_toArray, List.set_cons_zero, List.set_cons_succ]
            refine wpAnyH_take (i := 8) (v := .agg (ws L2)) rfl (by kernel_rfl) (by kernel_rfl) (by kernel_rfl) (fun _ _ _ h => absurd h.1 (by simp)) (.inl ⟨by rfl, fun _ _ => by go_simp⟩) hHeld ?_
            try simp only [Act.put, List.getElem_toArray, List.getElem_cons_zero, List.getElem_cons_succ, List.setIfInBounds_toArray, List.set_cons_zero, List.set_cons_succ]
            refine wpAnyH_take (i := 9) (v := .bool (decide (u2 > 0))) rfl (by kernel_rfl) (by kernel_rfl) (by kernel_rfl) (fun _ _ _ h => absurd h.1 (by simp)) (.inl ⟨by rfl, fun _ _ => by go_simp⟩) hHeld ?_
            try simp only [Act.put, List.getElem_toArray, List.getElem_cons_zero, List.getElem_cons_succ, List.setIfInBounds_toArray, List.set_cons_zero, List.set_cons_succ]
            refine wpAnyH_ready (rs := [10]) (by kernel_rfl) (by simp) ?_
            refine AllReadyH.cons rfl (fun K hK => ?_) AllReadyH.nil
            go_simp
            have hb := below_alloc (Below.refl X5.heap.size X5) (.cells #[Value.int .u64 0, .int .u64 0, .int .u64 0, .int .u64 0] 25)
            have H14 := Aside0.mk (And.intro (show Holds (X5.alloc (.cells #[Value.int .u64 0, .int .u64 0, .int .u64 0, .int .u64 0] 25)) X5.heap.size 25 (List.replicate 4 0) from blk_new X5 _) hHeld.size)
            refine hK.out _ _ (below_step hHeld hb) (fun hHeld => ?_)
            clear hb hK K
            generalize X5.alloc _ = X6 at *
            generalize X5.heap.size = g14 at *
            try simp only [Act.put, List.getElem_toArray, List.getElem_cons_zero, List.getElem_cons_succ, List.setIfInBounds_toArray, List.set_cons_zero, List.set_cons_succ]
            have hx := H14.out.1
            have z0 := hx.cell 0 (by simp)
            have y0 := hx.free 0
            have z1 := hx.cell 1 (by simp)
            have y1 := hx.free 1
            have z2 := hx.cell 2 (by simp)
            have y2 := hx.free 2
            have z3 := hx.cell 3 (by simp)
            have y3 := hx.free 3
            clear hx
            have hwf := ws_four L2 HSL2.out
            refine wpAnyH_ready (rs := [11]) (by kernel_rfl) (by simp) ?_
            refine AllReadyH.cons rfl (fun K hK => ?_) AllReadyH.nil
            go_simp
            have n14 := H14.out.2
            refine hK.out _ _ (below_set (below_set (below_set (below_set hHeld n14) n14) n14) n14) (fun hHeld => ?_)
            clear hK K z0 z1 z2 z3 y0 y1 y2 y3 hwf
            have H14' := Aside0.mk (set_four (L := List.replicate 4 0) (H := L2) rfl HSL2.out H14.out.1)
            try simp only [Act.put, List.getElem_toArray, List.getElem_cons_zero, List.getElem_cons_succ, List.setIfInBounds_toArray, List.set_cons_zero, List.set_cons_succ]
            refine wpAnyH_take (i := 12) (v := .bool (decide (u2 > 0))) rfl (by kernel_rfl) (by kernel_rfl) (by kernel_rfl) (fun _ _ _ h => absurd h.1 (by simp)) (.inl ⟨by rfl, fun _ _ => by go_simp⟩) hHeld ?_
            try simp only [Act.put, List.getElem_toArray, List.getElem_cons_zero, List.getElem_cons_succ, List.setIfInBounds_toArray, List.set_cons_zero, List.set_cons_succ]
            refine wpAnyH_done (by kernel_rfl) ?_ _
            refine ⟨rfl, g14, ?_, hHeld, n14, H14'.out⟩
            rw [ws_four L2 HSL2.out]
            try rfl
          refine AllReadyH.cons rfl (fun K hK => ?_) AllReadyH.nil
          go_simp
          have hb := below_alloc (Below.refl W0.heap.size W0) (.cells #[Value.int .u64 0, .int .u64 0, .int .u64 0, .int .u64 0] 25)
          have H14 := Aside0.mk (And.intro (show Holds (W0.alloc (.cells #[Value.int .u64 0, .int .u64 0, .int .u64 0, .int .u64 0] 25)) W0.heap.size 25 (List.replicate 4 0) from blk_new W0 _) hHeld.size)
          refine hK.out _ _ (below_step hHeld hb) (fun hHeld => ?_)
          clear hb hK K
          generalize W0.alloc _ = X7 at *
          generalize W0.heap.size = g14 at *
          try simp only [Act.put, List.getElem_toArray, List.getElem_cons_zero, List.getElem_cons_succ, List.setIfInBounds_toArray, List.set_cons_zero, List.set_cons_succ]
          refine wpAnyH_ready (rs := [6]) (by kernel_rfl) (by simp) ?_
          refine AllReadyH.cons rfl (fun K hK => ?_) AllReadyH.nil
          go_simp
          refine (HSB2.out _).mono ?_
          rintro e X8 ⟨rfl, hb⟩
          replace H14 := Aside0.mk (And.intro (Holds.below H14.out.1 hb) H14.out.2)
          refine hK.out _ _ (below_step hHeld hb) (fun hHeld => ?_)
          clear hb hK K
          try simp only [Act.put, List.getElem_toArray, List.getElem_cons_zero, List.getElem_cons_succ, List.setIfInBounds_toArray, List.set_cons_zero, List.set_cons_succ]
          refine wpAnyH_take (i := 7) (v := .tuple #[.agg (ws L2), .bool (decide (u2 > 0))]) rfl (by kernel_rfl) (by kernel_rfl) (by kernel_rfl) (fun _ _ _ h => absurd h.1 (by simp)) (.inl ⟨by rfl, fun _ _ => by go_simp⟩) hHeld ?_
          try simp only [Act.put, List.getElem_toArray, List.getElem_cons_zero, List.getElem_cons_succ, List.setIfInBounds_toArray, List.set_cons_zero, List.set_cons_succ]
          refine wpAnyH_take (i := 8) (v := .agg (ws L2)) rfl (by kernel_rfl) (by kernel_rfl) (by kernel_rfl) (fun _ _ _ h => absurd h.1 (by simp)) (.inl ⟨by rfl, fun _ _ => by go_simp⟩) hHeld ?_
          try simp only [Act.put, List.getElem_toArray, List.getElem_cons_zero, List.getElem_cons_succ, List.setIfInBounds_toArray, List.set_cons_zero, List.set_cons_succ]
          refine wpAnyH_take (i := 9) (v := .bool (decide (u2 > 0))) rfl (by kernel_rfl) (by kernel_rfl) (by kernel_rfl) (fun _ _ _ h => absurd h.1 (by simp)) (.inl ⟨by rfl, fun _ _ => by go_simp⟩) hHeld ?_
          try simp only [Act.put, List.getElem_toArray, List.getElem_cons_zero, List.getElem_cons_succ, List.setIfInBounds_toArray, List.set_cons_zero, List.set_cons_succ]
          have hx := H14.out.1
          have z0 := hx.cell 0 (by simp)
          have y0 := hx.free 0
          have z1 := hx.cell 1 (by simp)
          have y1 := hx.free 1
          have z2 := hx.cell 2 (by simp)
          have y2 := hx.free 2
          have z3 := hx.cell 3 (by simp)
          have y3 := hx.free 3
          clear hx
          have hwf := ws_four L2 HSL2.out
          refine wpAnyH_ready (rs := [11]) (by kernel_rfl) (by simp) ?_
          refine AllReadyH.cons rfl (fun K hK => ?_) AllReadyH.nil
          go_simp
          have n14 := H14.out.2
          refine hK.out _ _ (below_set (below_set (below_set (below_set hHeld n14) n14) n14) n14) (fun hHeld => ?_)
          clear hK K z0 z1 z2 z3 y0 y1 y2 y3 hwf
          have H14' := Aside0.mk (set_four (L := List.replicate 4 0) (H := L2) rfl HSL2.out H14.out.1)
          try simp only [Act.put, List.getElem_toArray, List.getElem_cons_zero, List.getElem_cons_succ, List.setIfInBounds_toArray, List.set_cons_zero, List.set_cons_succ]
          refine wpAnyH_take (i := 12) (v := .bool (decide (u2 > 0))) rfl (by kernel_rfl) (by kernel_rfl) (by kernel_rfl) (fun _ _ _ h => absurd h.1 (by simp)) (.inl ⟨by rfl, fun _ _ => by go_simp⟩) hHeld ?_
          try simp only [Act.put, List.getElem_toArray, List.getElem_cons_zero, List.getElem_cons_succ, List.setIfInBounds_toArray, List.set_cons_zero, List.set_cons_succ]
          refine wpAnyH_done (by kernel_rfl) ?_ _
          refine ⟨rfl, g14, ?_, hHeld, n14, H14'.out⟩
          rw [ws_four L2 HSL2.out]
          try rfl
        case hnext =>
          rintro _ w4 ⟨g18, rfl, hb4, n16, h16⟩
          rw [HSU2.out]
          try simp only [Act.put, List.getElem_toArray, List.getElem_cons_zero, List.getElem_cons_succ, List.setIfInBounds_toArray, List.set_cons_zero, List.set_cons_succ]
          have HC4 := Aside0.mk (HB3.out _ hb4)
          have HU4 := Aside0.mk (Kd.C_below HU3.out hb4)
          have HW4 := Aside0.mk (below_step HW3.out hb4)
          have HG4 := Aside0.mk (And.intro (Holds.below HG3.out.1 hb4) (And.intro (Holds.below HG3.out.2.1 hb4) (And.intro (Holds.below HG3.out.2.2 hb4) h16)))
          clear hb4 n16 h16 HB3 HC3 HU3 HW3 HG3
          go_wp2_with (first | (refine load_ws rfl 25 _ rfl w.heap.size rfl 25 a 4 _ HG4.out.1 HL.out.1 Try.underlying25 rfl Hi25.out ?_) | (refine load_ws rfl 25 _ rfl (w.heap.size + 1) rfl 25 b 4 _ HG4.out.2.1 HL.out.2.1 Try.underlying25 rfl Hi25.out ?_))
          refine (HSB3.out _).mono ?_
          rintro e w5 ⟨rfl, hb5⟩
          rw [HSU3.out]
          have hn18 := blk_new w5 (.cells #[Value.int .u64 0, .int .u64 0, .int .u64 0, .int .u64 0] 25)
          go_wp2_with (refine store_ws rfl 25 _ _ rfl w5.heap.size rfl 25 (List.replicate 4 0) L3 4 rfl hn18 rfl HSL3.out Hi25.out ?_)
          intro w6 h18 hbl hf6 hs6
          clear hf6 hs6
          have hb6 := below_step hb5 ((below_alloc (Below.refl w5.heap.size w5) (.cells #[Value.int .u64 0, .int .u64 0, .int .u64 0, .int .u64 0] 25)).trans (hbl _ (Nat.le_refl _)))
          have HC6 := Aside0.mk (Kd.C_below HC4.out hb6)
          have HB := Aside0.mk (fun (X : World) (hX : Below w6.heap.size w6 X) => Kd.C_below HC6.out hX)
          have HU6 := Aside0.mk (Kd.C_below HU4.out hb6)
          have HU := Aside0.mk (fun (X : World) (hX : Below w6.heap.size w6 X) => Kd.C_below HU6.out hX)
          have HW6 := Aside0.mk (below_step HW4.out hb6)
          have HG6 := Aside0.mk (And.intro (Holds.below HG4.out.2.2.1 hb6) (And.intro (Holds.below HG4.out.2.2.2 hb6) h18))
          clear hn18 hbl hb6 hb5 h18 HU4 HC4 HW4 HG4 HSB3
          generalize w5.heap.size = g20 at *
          have HWR := Aside0.mk (show wrap64 ((l.length : Int) + 1) = (U.length : Int) by have := HSD.out.len; unfold wrap64; omega)
          have n3 : p < U.length := by have := HSD.out.len; omega
          have n4 : q < U.length := by have := HSD.out.len; omega
          have n5 : l.length < U.length := by have := HSD.out.len; omega
          have i3 : decide ((p : Int) < U.length) = true := decide_eq_true (by have := HSD.out.len; omega)
          have i4 : decide ((q : Int) < U.length) = true := decide_eq_true (by have := HSD.out.len; omega)
          have i5 : decide ((l.length : Int) < U.length) = true := decide_eq_true (by have := HSD.out.len; omega)
          go_wp2_with fail
          refine wp_put (fun a0 a' w' => a' = ((((((((((((((((((((((((((((((((((((((((((((((((((((((((((a0.put (some 68) (.slice (some adu) U.length cu)).put (some 69) (.int .i64 (U.length : Nat))).put (some 70) (.int .i64 (l.length : Nat))).put (some 71) (.int .i64 (U.length : Nat))).put (some 72) (.bool false)).put (some 73) (.bool false)).put (some 74) (.bool false)).put (some 75) (.bool false)).put (some 76) (.bool false)).put (some 77) (.bool false)).put (some 78) (.bool false)).put (some 79) (.bool false)).put (some 80) (.bool false)).put (some 81) (.bool false)).put (some 82) (.bool false)).put (some 83) (.slice (some adu) U.length cu)).put (some 84) (.int .i64 (p : Nat))).put (some 85) (.pointer (some (adu.add (p * 8))))).put (some 86) (.pointer (some ⟨(adu.add (p * 8)).block, (adu.add (p * 8)).off + 1, none⟩))).put (some 87) (.agg #[.int .u64 (vw (gw L1 0)), .int .u64 (vw (gw L1 1)), .int .u64 (vw (gw L1 2)), .int .u64 (vw (gw L1 3))])).put (some 88) (.agg #[.int .u64 (vw (gw L1 0)), .int .u64 (vw (gw L1 1)), .int .u64 (vw (gw L1 2)), .int .u64 (vw (gw L1 3))])).put (some 89) (.bool false)).put (some 90) (.bool false)).put (some 91) (.bool false)).put (some 92) (.slice (some adu) U.length cu)).put (some 93) (.int .i64 (q : Nat))).put (some 94) (.pointer (some (adu.add (q * 8))))).put (some 95) (.pointer (some ⟨(adu.add (q * 8)).block, (adu.add (q * 8)).off + 1, none⟩))).put (some 96) (.agg #[.int .u64 (vw (gw L2 0)), .int .u64 (vw (gw L2 1)), .int .u64 (vw (gw L2 2)), .int .u64 (vw (gw L2 3))])).put (some 97) (.agg #[.int .u64 (vw (gw L2 0)), .int .u64 (vw (gw L2 1)), .int .u64 (vw (gw L2 2)), .int .u64 (vw (gw L2 3))])).put (some 98) (.bool false)).put (some 99) (.bool false)).put (some 100) (.bool false)).put (some 101) (.slice (some adu) U.length cu)).put (some 102) (.int .i64 (l.length : Nat))).put (some 103) (.pointer (some (adu.add (l.length * 8))))).put (some 104) (.pointer (some ⟨(adu.add (l.length * 8)).block, (adu.add (l.length * 8)).off + 1, none⟩))).put (some 105) (.agg #[.int .u64 (vw (gw L3 0)), .int .u64 (vw (gw L3 1)), .int .u64 (vw (gw L3 2)), .int .u64 (vw (gw L3 3))])).put (some 106) (.agg #[.int .u64 (vw (gw L3 0)), .int .u64 (vw (gw L3 1)), .int .u64 (vw (gw L3 2)), .int .u64 (vw (gw L3 3))])).put (some 107) (.bool false)).put (some 108) (.bool false)).put (some 109) (.bool false)).put (some 110) (.slice (some adu) U.length cu)).put (some 111) (.int .i64 (l.length : Nat))).put (some 112) (.pointer (some (adu.add (l.length * 8))))).put (some 113) (.pointer (some (adu.add (l.length * 8))))).put (some 114) (.string ch)).put (some 115) (.string ch)).put (some 116) (.bool false)).put (some 117) (.bool false)).put (some 118) (.bool false)).put (some 119) (.slice (some adu) U.length cu)).put (some 120) (.int .i64 (l.length : Nat))).put (some 121) (.pointer (some (adu.add (l.length * 8))))).put (some 122) (.pointer (some ⟨(adu.add (l.length * 8)).block, (adu.add (l.length * 8)).off + 5, none⟩))).put (some 123) (.int .i64 1)).put (some 124) (.bool false)).put (some 125) (.bool false)) ∧ Below w6.heap.size w6 w') ?hreg ?hnext
          case hreg =>
            refine wp_region_held_drew (S := fun X => Below w6.heap.size w6 X) (by kernel_rfl) (below_drew1 (Below.refl _ _)) (fun hHeld => ?_)
            generalize w6.drew = W0 at *
            try simp only [Act.put, List.getElem_toArray, List.getElem_cons_zero, List.getElem_cons_succ, List.setIfInBounds_toArray, List.set_cons_zero, List.set_cons_succ]
            refine wpAnyH_take (i := 0) (v := .slice (some adu) U.length cu) rfl (by kernel_rfl) (by kernel_rfl) (by kernel_rfl) (fun _ _ _ h => absurd h.1 (by simp)) (.inl ⟨by rfl, fun _ _ => by go_simp⟩) hHeld ?_
            try simp only [Act.put, List.getElem_toArray, List.getElem_cons_zero, List.getElem_cons_succ, List.setIfInBounds_toArray, List.set_cons_zero, List.set_cons_succ]
            refine wpAnyH_take (i := 1) (v := .int .i64 (U.length : Nat)) rfl (by kernel_rfl) (by kernel_rfl) (by kernel_rfl) (fun _ _ _ h => absurd h.1 (by simp)) (.inl ⟨by rfl, fun _ _ => by go_simp⟩) hHeld ?_
            try simp only [Act.put, List.getElem_toArray, List.getElem_cons_zero, List.getElem_cons_succ, List.setIfInBounds_toArray, List.set_cons_zero, List.set_cons_succ]
            refine wpAnyH_take (i := 2) (v := .int .i64 (l.length : Nat)) rfl (by kernel_rfl) (by kernel_rfl) (by kernel_rfl) (fun _ _ _ h => absurd h.1 (by simp)) (.inl ⟨by rfl, fun _ _ => by go_simp⟩) hHeld ?_
            try simp only [Act.put, List.getElem_toArray, List.getElem_cons_zero, List.getElem_cons_succ, List.setIfInBounds_toArray, List.set_cons_zero, List.set_cons_succ]
            refine wpAnyH_take (i := 3) (v := .int .i64 (U.length : Nat)) rfl (by kernel_rfl) (by kernel_rfl) (by kernel_rfl) (fun _ _ _ h => absurd h.1 (by simp)) (.inl ⟨by rfl, fun _ _ => by go_simp; first | exact HWR.out | (rw [i64_w]; exact HWR.out)⟩) hHeld ?_
            try simp only [Act.put, List.getElem_toArray, List.getElem_cons_zero, List.getElem_cons_succ, List.setIfInBounds_toArray, List.set_cons_zero, List.set_cons_succ]
            refine wpAnyH_take (i := 4) (v := .bool false) rfl (by kernel_rfl) (by kernel_rfl) (by kernel_rfl) (fun _ _ _ h => absurd h.1 (by simp)) (.inl ⟨by rfl, fun _ _ => by go_simp⟩) hHeld ?_
            try simp only [Act.put, List.getElem_toArray, List.getElem_cons_zero, List.getElem_cons_succ, List.setIfInBounds_toArray, List.set_cons_zero, List.set_cons_succ]
            refine wpAnyH_take (i := 5) (v := .bool false) rfl (by kernel_rfl) (by kernel_rfl) (by kernel_rfl) (fun _ _ _ h => absurd h.1 (by simp)) (.inl ⟨by rfl, fun _ _ => by go_simp⟩) hHeld ?_
            try simp only [Act.put, List.getElem_toArray, List.getElem_cons_zero, List.getElem_cons_succ, List.setIfInBounds_toArray, List.set_cons_zero, List.set_cons_succ]
            refine wpAnyH_take (i := 6) (v := .bool false) rfl (by kernel_rfl) (by kernel_rfl) (by kernel_rfl) (fun _ _ _ h => absurd h.1 (by simp)) (.inl ⟨by rfl, fun _ _ => by go_simp⟩) hHeld ?_
            try simp only [Act.put, List.getElem_toArray, List.getElem_cons_zero, List.getElem_cons_succ, List.setIfInBounds_toArray, List.set_cons_zero, List.set_cons_succ]
            refine wpAnyH_take (i := 7) (v := .bool false) rfl (by kernel_rfl) (by kernel_rfl) (by kernel_rfl) (fun _ _ _ h => absurd h.1 (by simp)) (.inl ⟨by rfl, fun _ _ => by go_simp⟩) hHeld ?_
            try simp only [Act.put, List.getElem_toArray, List.getElem_cons_zero, List.getElem_cons_succ, List.setIfInBounds_toArray, List.set_cons_zero, List.set_cons_succ]
            refine wpAnyH_take (i := 8) (v := .bool false) rfl (by kernel_rfl) (by kernel_rfl) (by kernel_rfl) (fun _ _ _ h => absurd h.1 (by simp)) (.inl ⟨by rfl, fun _ _ => by go_simp⟩) hHeld ?_
            try simp only [Act.put, List.getElem_toArray, List.getElem_cons_zero, List.getElem_cons_succ, List.setIfInBounds_toArray, List.set_cons_zero, List.set_cons_succ]
            refine wpAnyH_take (i := 9) (v := .bool false) rfl (by kernel_rfl) (by kernel_rfl) (by kernel_rfl) (fun _ _ _ h => absurd h.1 (by simp)) (.inl ⟨by rfl, fun _ _ => by go_simp⟩) hHeld ?_
            try simp only [Act.put, List.getElem_toArray, List.getElem_cons_zero, List.getElem_cons_succ, List.setIfInBounds_toArray, List.set_cons_zero, List.set_cons_succ]
            refine wpAnyH_take (i := 10) (v := .bool false) rfl (by kernel_rfl) (by kernel_rfl) (by kernel_rfl) (fun _ _ _ h => absurd h.1 (by simp)) (.inl ⟨by rfl, fun _ _ => by go_simp⟩) hHeld ?_
            try simp only [Act.put, List.getElem_toArray, List.getElem_cons_zero, List.getElem_cons_succ, List.setIfInBounds_toArray, List.set_cons_zero, List.set_cons_succ]
            refine wpAnyH_take (i := 11) (v := .bool false) rfl (by kernel_rfl) (by kernel_rfl) (by kernel_rfl) (fun _ _ _ h => absurd h.1 (by simp)) (.inl ⟨by rfl, fun _ _ => by go_simp⟩) hHeld ?_
            try simp only [Act.put, List.getElem_toArray, List.getElem_cons_zero, List.getElem_cons_succ, List.setIfInBounds_toArray, List.set_cons_zero, List.set_cons_succ]
            refine wpAnyH_take (i := 12) (v := .bool false) rfl (by kernel_rfl) (by kernel_rfl) (by kernel_rfl) (fun _ _ _ h => absurd h.1 (by simp)) (.inl ⟨by rfl, fun _ _ => by go_simp⟩) hHeld ?_
            try simp only [Act.put, List.getElem_toArray, List.getElem_cons_zero, List.getElem_cons_succ, List.setIfInBounds_toArray, List.set_cons_zero, List.set_cons_succ]
            refine wpAnyH_take (i := 13) (v := .bool false) rfl (by kernel_rfl) (by kernel_rfl) (by kernel_rfl) (fun _ _ _ h => absurd h.1 (by simp)) (.inl ⟨by rfl, fun _ _ => by go_simp⟩) hHeld ?_
            try simp only [Act.put, List.getElem_toArray, List.getElem_cons_zero, List.getElem_cons_succ, List.setIfInBounds_toArray, List.set_cons_zero, List.set_cons_succ]
            refine wpAnyH_take (i := 14) (v := .bool false) rfl (by kernel_rfl) (by kernel_rfl) (by kernel_rfl) (fun _ _ _ h => absurd h.1 (by simp)) (.inl ⟨by rfl, fun _ _ => by go_simp⟩) hHeld ?_
            try simp only [Act.put, List.getElem_toArray, List.getElem_cons_zero, List.getElem_cons_succ, List.setIfInBounds_toArray, List.set_cons_zero, List.set_cons_succ]
            refine wpAnyH_take (i := 15) (v := .slice (some adu) U.length cu) rfl (by kernel_rfl) (by kernel_rfl) (by kernel_rfl) (fun _ _ _ h => absurd h.1 (by simp)) (.inl ⟨by rfl, fun _ _ => by go_simp⟩) hHeld ?_
            try simp only [Act.put, List.getElem_toArray, List.getElem_cons_zero, List.getElem_cons_succ, List.setIfInBounds_toArray, List.set_cons_zero, List.set_cons_succ]
            refine wpAnyH_take (i := 16) (v := .int .i64 (p : Nat)) rfl (by kernel_rfl) (by kernel_rfl) (by kernel_rfl) (fun _ _ _ h => absurd h.1 (by simp)) (.inl ⟨by rfl, fun _ _ => by go_simp⟩) hHeld ?_
            try simp only [Act.put, List.getElem_toArray, List.getElem_cons_zero, List.getElem_cons_succ, List.setIfInBounds_toArray, List.set_cons_zero, List.set_cons_succ]
            refine wpAnyH_take (i := 17) (v := .pointer (some (adu.add (p * 8)))) rfl (by kernel_rfl) (by kernel_rfl) (by kernel_rfl) (fun _ _ _ h => absurd h.1 (by simp)) (.inl ⟨by rfl, fun _ _ => by go_simp⟩) hHeld ?_
            try simp only [Act.put, List.getElem_toArray, List.getElem_cons_zero, List.getElem_cons_succ, List.setIfInBounds_toArray, List.set_cons_zero, List.set_cons_succ]
            refine wpAnyH_take (i := 18) (v := .pointer (some ⟨(adu.add (p * 8)).block, (adu.add (p * 8)).off + 1, none⟩)) rfl (by kernel_rfl) (by kernel_rfl) (by kernel_rfl) (fun _ _ _ h => absurd h.1 (by simp)) (.inl ⟨by rfl, fun _ _ => by go_simp⟩) hHeld ?_
            try simp only [Act.put, List.getElem_toArray, List.getElem_cons_zero, List.getElem_cons_succ, List.setIfInBounds_toArray, List.set_cons_zero, List.set_cons_succ]
            refine wpAnyH_take (i := 19) (v := .agg #[.int .u64 (vw (gw L1 0)), .int .u64 (vw (gw L1 1)), .int .u64 (vw (gw L1 2)), .int .u64 (vw (gw L1 3))]) rfl (by kernel_rfl) (by kernel_rfl) (by kernel_rfl) (fun _ _ _ h => absurd h.1 (by simp)) (yieldsIf_load_mid rfl 25 _ rfl _ _ rfl [.int .u64 (vw (gw L1 0)), .int .u64 (vw (gw L1 1)), .int .u64 (vw (gw L1 2)), .int .u64 (vw (gw L1 3))] _ (fun X' hS => by rw [← wl_four L1 HSL1.out, ← HSD.out.ap]; exact range_am' (HU.out _ hS) HSD.out.ok p (by have := HSD.out.len; omega)) Try.underlying25 rfl (by rw [Hi25.out]; rfl)) hHeld ?_
            try simp only [Act.put, List.getElem_toArray, List.getElem_cons_zero, List.getElem_cons_succ, List.setIfInBounds_toArray, List.set_cons_zero, List.set_cons_succ]
            refine wpAnyH_take (i := 20) (v := .agg #[.int .u64 (vw (gw L1 0)), .int .u64 (vw (gw L1 1)), .int .u64 (vw (gw L1 2)), .int .u64 (vw (gw L1 3))]) rfl (by kernel_rfl) (by kernel_rfl) (by kernel_rfl) (fun _ _ _ h => absurd h.1 (by simp)) (yieldsIf_load_mid rfl 25 _ rfl g16 0 rfl [.int .u64 (vw (gw L1 0)), .int .u64 (vw (gw L1 1)), .int .u64 (vw (gw L1 2)), .int .u64 (vw (gw L1 3))] _ (fun X' hS => by rw [← wl_four L1 HSL1.out]; exact range_of (Holds.below HG6.out.1 hS)) Try.underlying25 rfl (by rw [Hi25.out]; rfl)) hHeld ?_
            try simp only [Act.put, List.getElem_toArray, List.getElem_cons_zero, List.getElem_cons_succ, List.setIfInBounds_toArray, List.set_cons_zero, List.set_cons_succ]
            refine wpAnyH_take (i := 21) (v := .bool false) rfl (by kernel_rfl) (by kernel_rfl) (by kernel_rfl) (fun _ _ _ h => absurd h.1 (by simp)) (.inl ⟨by rfl, fun _ _ => by go_simp⟩) hHeld ?_
            try simp only [Act.put, List.getElem_toArray, List.getElem_cons_zero, List.getElem_cons_succ, List.setIfInBounds_toArray, List.set_cons_zero, List.set_cons_succ]
            refine wpAnyH_take (i := 22) (v := .bool false) rfl (by kernel_rfl) (by kernel_rfl) (by kernel_rfl) (fun _ _ _ h => absurd h.1 (by simp)) (.inl ⟨by rfl, fun _ _ => by go_simp⟩) hHeld ?_
            try simp only [Act.put, List.getElem_toArray, List.getElem_cons_zero, List.getElem_cons_succ, List.setIfInBounds_toArray, List.set_cons_zero, List.set_cons_succ]
            refine wpAnyH_take (i := 23) (v := .bool false) rfl (by kernel_rfl) (by kernel_rfl) (by kernel_rfl) (fun _ _ _ h => absurd h.1 (by simp)) (.inl ⟨by rfl, fun _ _ => by go_simp⟩) hHeld ?_
            try simp only [Act.put, List.getElem_toArray, List.getElem_cons_zero, List.getElem_cons_succ, List.setIfInBounds_toArray, List.set_cons_zero, List.set_cons_succ]
            refine wpAnyH_take (i := 24) (v := .slice (some adu) U.length cu) rfl (by kernel_rfl) (by kernel_rfl) (by kernel_rfl) (fun _ _ _ h => absurd h.1 (by simp)) (.inl ⟨by rfl, fun _ _ => by go_simp⟩) hHeld ?_
            try simp only [Act.put, List.getElem_toArray, List.getElem_cons_zero, List.getElem_cons_succ, List.setIfInBounds_toArray, List.set_cons_zero, List.set_cons_succ]
            refine wpAnyH_take (i := 25) (v := .int .i64 (q : Nat)) rfl (by kernel_rfl) (by kernel_rfl) (by kernel_rfl) (fun _ _ _ h => absurd h.1 (by simp)) (.inl ⟨by rfl, fun _ _ => by go_simp⟩) hHeld ?_
            try simp only [Act.put, List.getElem_toArray, List.getElem_cons_zero, List.getElem_cons_succ, List.setIfInBounds_toArray, List.set_cons_zero, List.set_cons_succ]
            refine wpAnyH_take (i := 26) (v := .pointer (some (adu.add (q * 8)))) rfl (by kernel_rfl) (by kernel_rfl) (by kernel_rfl) (fun _ _ _ h => absurd h.1 (by simp)) (.inl ⟨by rfl, fun _ _ => by go_simp⟩) hHeld ?_
            try simp only [Act.put, List.getElem_toArray, List.getElem_cons_zero, List.getElem_cons_succ, List.setIfInBounds_toArray, List.set_cons_zero, List.set_cons_succ]
            refine wpAnyH_take (i := 27) (v := .pointer (some ⟨(adu.add (q * 8)).block, (adu.add (q * 8)).off + 1, none⟩)) rfl (by kernel_rfl) (by kernel_rfl) (by kernel_rfl) (fun _ _ _ h => absurd h.1 (by simp)) (.inl ⟨by rfl, fun _ _ => by go_simp⟩) hHeld ?_
            try simp only [Act.put, List.getElem_toArray, List.getElem_cons_zero, List.getElem_cons_succ, List.setIfInBounds_toArray, List.set_cons_zero, List.set_cons_succ]
            refine wpAnyH_take (i := 28) (v := .agg #[.int .u64 (vw (gw L2 0)), .int .u64 (vw (gw L2 1)), .int .u64 (vw (gw L2 2)), .int .u64 (vw (gw L2 3))]) rfl (by kernel_rfl) (by kernel_rfl) (by kernel_rfl) (fun _ _ _ h => absurd h.1 (by simp)) (yieldsIf_load_mid rfl 25 _ rfl _ _ rfl [.int .u64 (vw (gw L2 0)), .int .u64 (vw (gw L2 1)), .int .u64 (vw (gw L2 2)), .int .u64 (vw (gw L2 3))] _ (fun X' hS => by rw [← wl_four L2 HSL2.out, ← HSD.out.aq]; exact range_am' (HU.out _ hS) HSD.out.ok q (by have := HSD.out.len; omega)) Try.underlying25 rfl (by rw [Hi25.out]; rfl)) hHeld ?_
            try simp only [Act.put, List.getElem_toArray, List.getElem_cons_zero, List.getElem_cons_succ, List.setIfInBounds_toArray, List.set_cons_zero, List.set_cons_succ]
            refine wpAnyH_take (i := 29) (v := .agg #[.int .u64 (vw (gw L2 0)), .int .u64 (vw (gw L2 1)), .int .u64 (vw (gw L2 2)), .int .u64 (vw (gw L2 3))]) rfl (by kernel_rfl) (by kernel_rfl) (by kernel_rfl) (fun _ _ _ h => absurd h.1 (by simp)) (yieldsIf_load_mid rfl 25 _ rfl g18 0 rfl [.int .u64 (vw (gw L2 0)), .int .u64 (vw (gw L2 1)), .int .u64 (vw (gw L2 2)), .int .u64 (vw (gw L2 3))] _ (fun X' hS => by rw [← wl_four L2 HSL2.out]; exact range_of (Holds.below HG6.out.2.1 hS)) Try.underlying25 rfl (by rw [Hi25.out]; rfl)) hHeld ?_
            try simp only [Act.put, List.getElem_toArray, List.getElem_cons_zero, List.getElem_cons_succ, List.setIfInBounds_toArray, List.set_cons_zero, List.set_cons_succ]
            refine wpAnyH_take (i := 30) (v := .bool false) rfl (by kernel_rfl) (by kernel_rfl) (by kernel_rfl) (fun _ _ _ h => absurd h.1 (by simp)) (.inl ⟨by rfl, fun _ _ => by go_simp⟩) hHeld ?_
            try simp only [Act.put, List.getElem_toArray, List.getElem_cons_zero, List.getElem_cons_succ, List.setIfInBounds_toArray, List.set_cons_zero, List.set_cons_succ]
            refine wpAnyH_take (i := 31) (v := .bool false) rfl (by kernel_rfl) (by kernel_rfl) (by kernel_rfl) (fun _ _ _ h => absurd h.1 (by simp)) (.inl ⟨by rfl, fun _ _ => by go_simp⟩) hHeld ?_
            try simp only [Act.put, List.getElem_toArray, List.getElem_cons_zero, List.getElem_cons_succ, List.setIfInBounds_toArray, List.set_cons_zero, List.set_cons_succ]
            refine wpAnyH_take (i := 32) (v := .bool false) rfl (by kernel_rfl) (by kernel_rfl) (by kernel_rfl) (fun _ _ _ h => absurd h.1 (by simp)) (.inl ⟨by rfl, fun _ _ => by go_simp⟩) hHeld ?_
            try simp only [Act.put, List.getElem_toArray, List.getElem_cons_zero, List.getElem_cons_succ, List.setIfInBounds_toArray, List.set_cons_zero, List.set_cons_succ]
            refine wpAnyH_take (i := 33) (v := .slice (some adu) U.length cu) rfl (by kernel_rfl) (by kernel_rfl) (by kernel_rfl) (fun _ _ _ h => absurd h.1 (by simp)) (.inl ⟨by rfl, fun _ _ => by go_simp⟩) hHeld ?_
            try simp only [Act.put, List.getElem_toArray, List.getElem_cons_zero, List.getElem_cons_succ, List.setIfInBounds_toArray, List.set_cons_zero, List.set_cons_succ]
            refine wpAnyH_take (i := 34) (v := .int .i64 (l.length : Nat)) rfl (by kernel_rfl) (by kernel_rfl) (by kernel_rfl) (fun _ _ _ h => absurd h.1 (by simp)) (.inl ⟨by rfl, fun _ _ => by go_simp⟩) hHeld ?_
            try simp only [Act.put, List.getElem_toArray, List.getElem_cons_zero, List.getElem_cons_succ, List.setIfInBounds_toArray, List.set_cons_zero, List.set_cons_succ]
            refine wpAnyH_take (i := 35) (v := .pointer (some (adu.add (l.length * 8)))) rfl (by kernel_rfl) (by kernel_rfl) (by kernel_rfl) (fun _ _ _ h => absurd h.1 (by simp)) (.inl ⟨by rfl, fun _ _ => by go_simp⟩) hHeld ?_
            try simp only [Act.put, List.getElem_toArray, List.getElem_cons_zero, List.getElem_cons_succ, List.setIfInBounds_toArray, List.set_cons_zero, List.set_cons_succ]
            refine wpAnyH_take (i := 36) (v := .pointer (some ⟨(adu.add (l.length * 8)).block, (adu.add (l.length * 8)).off + 1, none⟩)) rfl (by kernel_rfl) (by kernel_rfl) (by kernel_rfl) (fun _ _ _ h => absurd h.1 (by simp)) (.inl ⟨by rfl, fun _ _ => by go_simp⟩) hHeld ?_
            try simp only [Act.put, List.getElem_toArray, List.getElem_cons_zero, List.getElem_cons_succ, List.setIfInBounds_toArray, List.set_cons_zero, List.set_cons_succ]
            refine wpAnyH_take (i := 37) (v := .agg #[.int .u64 (vw (gw L3 0)), .int .u64 (vw (gw L3 1)), .int .u64 (vw (gw L3 2)), .int .u64 (vw (gw L3 3))]) rfl (by kernel_rfl) (by kernel_rfl) (by kernel_rfl) (fun _ _ _ h => absurd h.1 (by simp)) (yieldsIf_load_mid rfl 25 _ rfl _ _ rfl [.int .u64 (vw (gw L3 0)), .int .u64 (vw (gw L3 1)), .int .u64 (vw (gw L3 2)), .int .u64 (vw (gw L3 3))] _ (fun X' hS => by rw [← wl_four L3 HSL3.out, ← HSD.out.an]; exact range_am' (HU.out _ hS) HSD.out.ok l.length (by have := HSD.out.len; omega)) Try.underlying25 rfl (by rw [Hi25.out]; rfl)) hHeld ?_
            try simp only [Act.put, List.getElem_toArray, List.getElem_cons_zero, List.getElem_cons_succ, List.setIfInBounds_toArray, List.set_cons_zero, List.set_cons_succ]
            refine wpAnyH_take (i := 38) (v := .agg #[.int .u64 (vw (gw L3 0)), .int .u64 (vw (gw L3 1)), .int .u64 (vw (gw L3 2)), .int .u64 (vw (gw L3 3))]) rfl (by kernel_rfl) (by kernel_rfl) (by kernel_rfl) (fun _ _ _ h => absurd h.1 (by simp)) (yieldsIf_load_mid rfl 25 _ rfl g20 0 rfl [.int .u64 (vw (gw L3 0)), .int .u64 (vw (gw L3 1)), .int .u64 (vw (gw L3 2)), .int .u64 (vw (gw L3 3))] _ (fun X' hS => by rw [← wl_four L3 HSL3.out]; exact range_of (Holds.below HG6.out.2.2 hS)) Try.underlying25 rfl (by rw [Hi25.out]; rfl)) hHeld ?_
            try simp only [Act.put, List.getElem_toArray, List.getElem_cons_zero, List.getElem_cons_succ, List.setIfInBounds_toArray, List.set_cons_zero, List.set_cons_succ]
            refine wpAnyH_take (i := 39) (v := .bool false) rfl (by kernel_rfl) (by kernel_rfl) (by kernel_rfl) (fun _ _ _ h => absurd h.1 (by simp)) (.inl ⟨by rfl, fun _ _ => by go_simp⟩) hHeld ?_
            try simp only [Act.put, List.getElem_toArray, List.getElem_cons_zero, List.getElem_cons_succ, List.setIfInBounds_toArray, List.set_cons_zero, List.set_cons_succ]
            refine wpAnyH_take (i := 40) (v := .bool false) rfl (by kernel_rfl) (by kernel_rfl) (by kernel_rfl) (fun _ _ _ h => absurd h.1 (by simp)) (.inl ⟨by rfl, fun _ _ => by go_simp⟩) hHeld ?_
            try simp only [Act.put, List.getElem_toArray, List.getElem_cons_zero, List.getElem_cons_succ, List.setIfInBounds_toArray, List.set_cons_zero, List.set_cons_succ]
            refine wpAnyH_take (i := 41) (v := .bool false) rfl (by kernel_rfl) (by kernel_rfl) (by kernel_rfl) (fun _ _ _ h => absurd h.1 (by simp)) (.inl ⟨by rfl, fun _ _ => by go_simp⟩) hHeld ?_
            try simp only [Act.put, List.getElem_toArray, List.getElem_cons_zero, List.getElem_cons_succ, List.setIfInBounds_toArray, List.set_cons_zero, List.set_cons_succ]
            refine wpAnyH_take (i := 42) (v := .slice (some adu) U.length cu) rfl (by kernel_rfl) (by kernel_rfl) (by kernel_rfl) (fun _ _ _ h => absurd h.1 (by simp)) (.inl ⟨by rfl, fun _ _ => by go_simp⟩) hHeld ?_
            try simp only [Act.put, List.getElem_toArray, List.getElem_cons_zero, List.getElem_cons_succ, List.setIfInBounds_toArray, List.set_cons_zero, List.set_cons_succ]
            refine wpAnyH_take (i := 43) (v := .int .i64 (l.length : Nat)) rfl (by kernel_rfl) (by kernel_rfl) (by kernel_rfl) (fun _ _ _ h => absurd h.1 (by simp)) (.inl ⟨by rfl, fun _ _ => by go_simp⟩) hHeld ?_
            try simp only [Act.put, List.getElem_toArray, List.getElem_cons_zero, List.getElem_cons_succ, List.setIfInBounds_toArray, List.set_cons_zero, List.set_cons_succ]
            refine wpAnyH_take (i := 44) (v := .pointer (some (adu.add (l.length * 8)))) rfl (by kernel_rfl) (by kernel_rfl) (by kernel_rfl) (fun _ _ _ h => absurd h.1 (by simp)) (.inl ⟨by rfl, fun _ _ => by go_simp⟩) hHeld ?_
            try simp only [Act.put, List.getElem_toArray, List.getElem_cons_zero, List.getElem_cons_succ, List.setIfInBounds_toArray, List.set_cons_zero, List.set_cons_succ]
            refine wpAnyH_take (i := 45) (v := .pointer (some (adu.add (l.length * 8)))) rfl (by kernel_rfl) (by kernel_rfl) (by kernel_rfl) (fun _ _ _ h => absurd h.1 (by simp)) (.inl ⟨by rfl, fun _ _ => by go_simp⟩) hHeld ?_
            try simp only [Act.put, List.getElem_toArray, List.getElem_cons_zero, List.getElem_cons_succ, List.setIfInBounds_toArray, List.set_cons_zero, List.set_cons_succ]
            refine wpAnyH_take (i := 46) (v := .string ch) rfl (by kernel_rfl) (by kernel_rfl) (by kernel_rfl) (fun _ _ _ h => absurd h.1 (by simp)) (.inl ⟨by rfl, fun X' hS => by have b := (cells8 (HU.out _ hS) l.length (by have := HSD.out.len; omega)).1; rw [HSD.out.dest] at b; go_simp⟩) hHeld ?_
            try simp only [Act.put, List.getElem_toArray, List.getElem_cons_zero, List.getElem_cons_succ, List.setIfInBounds_toArray, List.set_cons_zero, List.set_cons_succ]
            refine wpAnyH_take (i := 47) (v := .string ch) rfl (by kernel_rfl) (by kernel_rfl) (by kernel_rfl) (fun _ _ _ h => absurd h.1 (by simp)) (.inl ⟨by rfl, fun _ _ => by go_simp⟩) hHeld ?_
            try simp only [Act.put, List.getElem_toArray, List.getElem_cons_zero, List.getElem_cons_succ, List.setIfInBounds_toArray, List.set_cons_zero, List.set_cons_succ]
            refine wpAnyH_take (i := 48) (v := .bool false) rfl (by kernel_rfl) (by kernel_rfl) (by kernel_rfl) (fun _ _ _ h => absurd h.1 (by simp)) (.inl ⟨by rfl, fun _ _ => by go_simp⟩) hHeld ?_
            try simp only [Act.put, List.getElem_toArray, List.getElem_cons_zero, List.getElem_cons_succ, List.setIfInBounds_toArray, List.set_cons_zero, List.set_cons_succ]
            refine wpAnyH_take (i := 49) (v := .bool false) rfl (by kernel_rfl) (by kernel_rfl) (by kernel_rfl) (fun _ _ _ h => absurd h.1 (by simp)) (.inl ⟨by rfl, fun _ _ => by go_simp⟩) hHeld ?_
            try simp only [Act.put, List.getElem_toArray, List.getElem_cons_zero, List.getElem_cons_succ, List.setIfInBounds_toArray, List.set_cons_zero, List.set_cons_succ]
            refine wpAnyH_take (i := 50) (v := .bool false) rfl (by kernel_rfl) (by kernel_rfl) (by kernel_rfl) (fun _ _ _ h => absurd h.1 (by simp)) (.inl ⟨by rfl, fun _ _ => by go_simp⟩) hHeld ?_
            try simp only [Act.put, List.getElem_toArray, List.getElem_cons_zero, List.getElem_cons_succ, List.setIfInBounds_toArray, List.set_cons_zero, List.set_cons_succ]
            refine wpAnyH_take (i := 51) (v := .slice (some adu) U.length cu) rfl (by kernel_rfl) (by kernel_rfl) (by kernel_rfl) (fun _ _ _ h => absurd h.1 (by simp)) (.inl ⟨by rfl, fun _ _ => by go_simp⟩) hHeld ?_
            try simp only [Act.put, List.getElem_toArray, List.getElem_cons_zero, List.getElem_cons_succ, List.setIfInBounds_toArray, List.set_cons_zero, List.set_cons_succ]
            refine wpAnyH_take (i := 52) (v := .int .i64 (l.length : Nat)) rfl (by kernel_rfl) (by kernel_rfl) (by kernel_rfl) (fun _ _ _ h => absurd h.1 (by simp)) (.inl ⟨by rfl, fun _ _ => by go_simp⟩) hHeld ?_
            try simp only [Act.put, List.getElem_toArray, List.getElem_cons_zero, List.getElem_cons_succ, List.setIfInBounds_toArray, List.set_cons_zero, List.set_cons_succ]
            refine wpAnyH_take (i := 53) (v := .pointer (some (adu.add (l.length * 8)))) rfl (by kernel_rfl) (by kernel_rfl) (by kernel_rfl) (fun _ _ _ h => absurd h.1 (by simp)) (.inl ⟨by rfl, fun _ _ => by go_simp⟩) hHeld ?_
            try simp only [Act.put, List.getElem_toArray, List.getElem_cons_zero, List.getElem_cons_succ, List.setIfInBounds_toArray, List.set_cons_zero, List.set_cons_succ]
            refine wpAnyH_take (i := 54) (v := .pointer (some ⟨(adu.add (l.length * 8)).block, (adu.add (l.length * 8)).off + 5, none⟩)) rfl (by kernel_rfl) (by kernel_rfl) (by kernel_rfl) (fun _ _ _ h => absurd h.1 (by simp)) (.inl ⟨by rfl, fun _ _ => by go_simp⟩) hHeld ?_
            try simp only [Act.put, List.getElem_toArray, List.getElem_cons_zero, List.getElem_cons_succ, List.setIfInBounds_toArray, List.set_cons_zero, List.set_cons_succ]
            refine wpAnyH_take (i := 55) (v := .int .i64 1) rfl (by kernel_rfl) (by kernel_rfl) (by kernel_rfl) (fun _ _ _ h => absurd h.1 (by simp)) (.inl ⟨by rfl, fun X' hS => by have b := (cells8 (HU.out _ hS) l.length (by have := HSD.out.len; omega)).2.2.2.2.2.1; rw [HSD.out.kind] at b; go_simp⟩) hHeld ?_
            try simp only [Act.put, List.getElem_toArray, List.getElem_cons_zero, List.getElem_cons_succ, List.setIfInBounds_toArray, List.set_cons_zero, List.set_cons_succ]
            refine wpAnyH_take (i := 56) (v := .bool false) rfl (by kernel_rfl) (by kernel_rfl) (by kernel_rfl) (fun _ _ _ h => absurd h.1 (by simp)) (.inl ⟨by rfl, fun _ _ => by go_simp⟩) hHeld ?_
            try simp only [Act.put, List.getElem_toArray, List.getElem_cons_zero, List.getElem_cons_succ, List.setIfInBounds_toArray, List.set_cons_zero, List.set_cons_succ]
            refine wpAnyH_take (i := 57) (v := .bool false) rfl (by kernel_rfl) (by kernel_rfl) (by kernel_rfl) (fun _ _ _ h => absurd h.1 (by simp)) (.inl ⟨by rfl, fun _ _ => by go_simp⟩) hHeld ?_
            try simp only [Act.put, List.getElem_toArray, List.getElem_cons_zero, List.getElem_cons_succ, List.setIfInBounds_toArray, List.set_cons_zero, List.set_cons_succ]
            refine wpAnyH_done (by kernel_rfl) ?_ _
            refine ⟨rfl, ?_, hHeld⟩
            try rfl
          case hnext =>
            rintro _ w7 ⟨rfl, hb7⟩
            try simp only [Act.put, List.getElem_toArray, List.getElem_cons_zero, List.getElem_cons_succ, List.setIfInBounds_toArray, List.set_cons_zero, List.set_cons_succ]
            have HC7 := Aside0.mk (HB.out _ hb7)
            have HU7 := Aside0.mk (HU.out _ hb7)
            have HW7 := Aside0.mk (below_step HW6.out hb7)
            clear hb7 HB HU HC6 HU6 HW6 HG6 HWR
            go_wp2_with fail
            go_loopw [128] (fun it wr => ∃ x : Nat, x ≤ l.length ∧ it = .int .i64 (x : Nat) ∧ Below w.heap.size w wr ∧ Kd.C k39 wr (some ad) l.length l ∧ Kd.C k39 wr (some adu) U.length U) (fun it _ => l.length - (intOf it).toNat)
            case atStart => exact ⟨0, by omega, rfl, HW7.out, HC7.out, HU7.out⟩
            case round =>
              obtain ⟨x, hxl, rfl, hbw, hcr, hur⟩ := hrel
              have HWr := Aside0.mk hbw
              have HC8 := Aside0.mk hcr
              have HU8 := Aside0.mk hur
              clear hbw hcr hur HW7 HC7 HU7
              by_cases hx : x < l.length
              · have hx1 := decide_eq_true (show (x : Int) < (l.length : Int) by omega)
                have n6 : x < U.length := by omega
                have i6 : decide ((x : Int) < U.length) = true := decide_eq_true (by have := HSD.out.len; omega)
                go_wp2_with fail
                have HB := Aside0.mk (fun (X : World) (hX : Below wr.heap.size wr X) => Kd.C_below HC8.out hX)
                have HU := Aside0.mk (fun (X : World) (hX : Below wr.heap.size wr X) => Kd.C_below HU8.out hX)
                by_cases e1 : x = p
                · subst e1
                  have b1 : ((x : Int) != (x : Int)) = false := by simp
                  refine wp_put (fun a0 a' w' => a' = (((((((((((((((((((a0.put (some 131) (.int .i64 (x : Nat))).put (some 132) (.int .i64 (x : Nat))).put (some 133) (.bool false)).put (some 134) (.bool false)).put (some 135) (undef)).put (some 136) (undef)).put (some 137) (undef)).put (some 138) (.bool false)).put (some 139) (.bool false)).put (some 140) (undef)).put (some 141) (undef)).put (some 142) (undef)).put (some 143) (undef)).put (some 144) (undef)).put (some 145) (undef)).put (some 146) (undef)).put (some 147) (undef)).put (some 148) (undef)).put (some 149) (.bool false)) ∧ Below wr.heap.size wr w') ?hreg ?hnext
                  case hreg =>
                    refine wp_region_held_drew (S := fun X => Below wr.heap.size wr X) (by kernel_rfl) (below_drew1 (Below.refl _ _)) (fun hHeld => ?_)
                    generalize wr.drew = W0 at *
                    try simp only [Act.put, List.getElem_toArray, List.getElem_cons_zero, List.getElem_cons_succ, List.setIfInBounds_toArray, List.set_cons_zero, List.set_cons_succ]
                    refine wpAnyH_take (i := 0) (v := .int .i64 (x : Nat)) rfl (by kernel_rfl) (by kernel_rfl) (by kernel_rfl) (fun _ _ _ h => absurd h.1 (by simp)) (.inl ⟨by rfl, fun _ _ => by go_simp⟩) hHeld ?_
                    try simp only [Act.put, List.getElem_toArray, List.getElem_cons_zero, List.getElem_cons_succ, List.setIfInBounds_toArray, List.set_cons_zero, List.set_cons_succ]
                    refine wpAnyH_take (i := 1) (v := .int .i64 (x : Nat)) rfl (by kernel_rfl) (by kernel_rfl) (by kernel_rfl) (fun _ _ _ h => absurd h.1 (by simp)) (.inl ⟨by rfl, fun _ _ => by go_simp⟩) hHeld ?_
                    try simp only [Act.put, List.getElem_toArray, List.getElem_cons_zero, List.getElem_cons_succ, List.setIfInBounds_toArray, List.set_cons_zero, List.set_cons_succ]
                    refine wpAnyH_take (i := 2) (v := .bool false) rfl (by kernel_rfl) (by kernel_rfl) (by kernel_rfl) (fun _ _ _ h => absurd h.1 (by simp)) (.inl ⟨by rfl, fun _ _ => by go_simp⟩) hHeld ?_
                    try simp only [Act.put, List.getElem_toArray, List.getElem_cons_zero, List.getElem_cons_succ, List.setIfInBounds_toArray, List.set_cons_zero, List.set_cons_succ]
                    refine wpAnyH_take (i := 3) (v := .bool false) rfl (by kernel_rfl) (by kernel_rfl) (by kernel_rfl) (fun _ _ _ h => absurd h.1 (by simp)) (.inl ⟨by rfl, fun _ _ => by go_simp⟩) hHeld ?_
                    try simp only [Act.put, List.getElem_toArray, List.getElem_cons_zero, List.getElem_cons_succ, List.setIfInBounds_toArray, List.set_cons_zero, List.set_cons_succ]
                    refine wpAnyH_take (i := 4) (v := undef) rfl (by kernel_rfl) (by kernel_rfl) (by kernel_rfl) (fun _ _ _ h => absurd h.1 (by simp)) (.inr ⟨by rfl, rfl⟩) hHeld ?_
                    try simp only [Act.put, List.getElem_toArray, List.getElem_cons_zero, List.getElem_cons_succ, List.setIfInBounds_toArray, List.set_cons_zero, List.set_cons_succ]
                    refine wpAnyH_take (i := 5) (v := undef) rfl (by kernel_rfl) (by kernel_rfl) (by kernel_rfl) (fun _ _ _ h => absurd h.1 (by simp)) (.inr ⟨by rfl, rfl⟩) hHeld ?_
                    try simp only [Act.put, List.getElem_toArray, List.getElem_cons_zero, List.getElem_cons_succ, List.setIfInBounds_toArray, List.set_cons_zero, List.set_cons_succ]
                    refine wpAnyH_take (i := 6) (v := undef) rfl (by kernel_rfl) (by kernel_rfl) (by kernel_rfl) (fun _ _ _ h => absurd h.1 (by simp)) (.inr ⟨by rfl, rfl⟩) hHeld ?_
                    try simp only [Act.put, List.getElem_toArray, List.getElem_cons_zero, List.getElem_cons_succ, List.setIfInBounds_toArray, List.set_cons_zero, List.set_cons_succ]
                    refine wpAnyH_take (i := 7) (v := .bool false) rfl (by kernel_rfl) (by kernel_rfl) (by kernel_rfl) (fun _ _ _ h => absurd h.1 (by simp)) (.inl ⟨by rfl, fun _ _ => by go_simp⟩) hHeld ?_
                    try simp only [Act.put, List.getElem_toArray, List.getElem_cons_zero, List.getElem_cons_succ, List.setIfInBounds_toArray, List.set_cons_zero, List.set_cons_succ]
                    refine wpAnyH_take (i := 8) (v := .bool false) rfl (by kernel_rfl) (by kernel_rfl) (by kernel_rfl) (fun _ _ _ h => absurd h.1 (by simp)) (.inl ⟨by rfl, fun _ _ => by go_simp⟩) hHeld ?_
                    try simp only [Act.put, List.getElem_toArray, List.getElem_cons_zero, List.getElem_cons_succ, List.setIfInBounds_toArray, List.set_cons_zero, List.set_cons_succ]
                    refine wpAnyH_take (i := 9) (v := undef) rfl (by kernel_rfl) (by kernel_rfl) (by kernel_rfl) (fun _ _ _ h => absurd h.1 (by simp)) (.inr ⟨by rfl, rfl⟩) hHeld ?_
                    try simp only [Act.put, List.getElem_toArray, List.getElem_cons_zero, List.getElem_cons_succ, List.setIfInBounds_toArray, List.set_cons_zero, List.set_cons_succ]
                    refine wpAnyH_take (i := 10) (v := undef) rfl (by kernel_rfl) (by kernel_rfl) (by kernel_rfl) (fun _ _ _ h => absurd h.1 (by simp)) (.inr ⟨by rfl, rfl⟩) hHeld ?_
                    try simp only [Act.put, List.getElem_toArray, List.getElem_cons_zero, List.getElem_cons_succ, List.setIfInBounds_toArray, List.set_cons_zero, List.set_cons_succ]
                    refine wpAnyH_take (i := 11) (v := undef) rfl (by kernel_rfl) (by kernel_rfl) (by kernel_rfl) (fun _ _ _ h => absurd h.1 (by simp)) (.inr ⟨by rfl, rfl⟩) hHeld ?_
                    try simp only [Act.put, List.getElem_toArray, List.getElem_cons_zero, List.getElem_cons_succ, List.setIfInBounds_toArray, List.set_cons_zero, List.set_cons_succ]
                    refine wpAnyH_take (i := 12) (v := undef) rfl (by kernel_rfl) (by kernel_rfl) (by kernel_rfl) (fun _ _ _ h => absurd h.1 (by simp)) (.inr ⟨by rfl, rfl⟩) hHeld ?_
                    try simp only [Act.put, List.getElem_toArray, List.getElem_cons_zero, List.getElem_cons_succ, List.setIfInBounds_toArray, List.set_cons_zero, List.set_cons_succ]
                    refine wpAnyH_take (i := 13) (v := undef) rfl (by kernel_rfl) (by kernel_rfl) (by kernel_rfl) (fun _ _ _ h => absurd h.1 (by simp)) (.inr ⟨by rfl, rfl⟩) hHeld ?_
                    try simp only [Act.put, List.getElem_toArray, List.getElem_cons_zero, List.getElem_cons_succ, List.setIfInBounds_toArray, List.set_cons_zero, List.set_cons_succ]
                    refine wpAnyH_take (i := 14) (v := undef) rfl (by kernel_rfl) (by kernel_rfl) (by kernel_rfl) (fun _ _ _ h => absurd h.1 (by simp)) (.inr ⟨by rfl, rfl⟩) hHeld ?_
                    try simp only [Act.put, List.getElem_toArray, List.getElem_cons_zero, List.getElem_cons_succ, List.setIfInBounds_toArray, List.set_cons_zero, List.set_cons_succ]
                    refine wpAnyH_take (i := 15) (v := undef) rfl (by kernel_rfl) (by kernel_rfl) (by kernel_rfl) (fun _ _ _ h => absurd h.1 (by simp)) (.inr ⟨by rfl, rfl⟩) hHeld ?_
                    try simp only [Act.put, List.getElem_toArray, List.getElem_cons_zero, List.getElem_cons_succ, List.setIfInBounds_toArray, List.set_cons_zero, List.set_cons_succ]
                    refine wpAnyH_take (i := 16) (v := undef) rfl (by kernel_rfl) (by kernel_rfl) (by kernel_rfl) (fun _ _ _ h => absurd h.1 (by simp)) (.inr ⟨by rfl, rfl⟩) hHeld ?_
                    try simp only [Act.put, List.getElem_toArray, List.getElem_cons_zero, List.getElem_cons_succ, List.setIfInBounds_toArray, List.set_cons_zero, List.set_cons_succ]
                    refine wpAnyH_take (i := 17) (v := undef) rfl (by kernel_rfl) (by kernel_rfl) (by kernel_rfl) (fun _ _ _ h => absurd h.1 (by simp)) (.inr ⟨by rfl, rfl⟩) hHeld ?_
                    try simp only [Act.put, List.getElem_toArray, List.getElem_cons_zero, List.getElem_cons_succ, List.setIfInBounds_toArray, List.set_cons_zero, List.set_cons_succ]
                    refine wpAnyH_take (i := 18) (v := .bool false) rfl (by kernel_rfl) (by kernel_rfl) (by kernel_rfl) (fun _ _ _ h => absurd h.1 (by simp)) (.inl ⟨by rfl, fun _ _ => by go_simp⟩) hHeld ?_
                    try simp only [Act.put, List.getElem_toArray, List.getElem_cons_zero, List.getElem_cons_succ, List.setIfInBounds_toArray, List.set_cons_zero, List.set_cons_succ]
                    refine wpAnyH_done (by kernel_rfl) ?_ _
                    refine ⟨rfl, ?_, hHeld⟩
                    try rfl
                  case hnext =>
                    rintro _ w8 ⟨rfl, hb8⟩
                    try simp only [Act.put, List.getElem_toArray, List.getElem_cons_zero, List.getElem_cons_succ, List.setIfInBounds_toArray, List.set_cons_zero, List.set_cons_succ]
                    have HW8 := Aside0.mk (below_step HWr.out hb8)
                    have HC9 := Aside0.mk (HB.out _ hb8)
                    have HU9 := Aside0.mk (HU.out _ hb8)
                    clear hb8
                    go_wp2_with fail
                    refine ⟨⟨x + 1, by omega, by go_num, HW8.out, HC9.out, HU9.out⟩, by simp [intOf]; omega⟩
                by_cases e2 : x = q
                · subst e2
                  have b1 : ((x : Int) != (p : Int)) = true := bne_iff_ne.2 (by omega)
                  have b2 : ((x : Int) != (x : Int)) = false := by simp
                  refine wp_put (fun a0 a' w' => a' = (((((((((((((((((((a0.put (some 131) (.int .i64 (x : Nat))).put (some 132) (.int .i64 (p : Nat))).put (some 133) (.bool true)).put (some 134) (.bool true)).put (some 135) (.int .i64 (x : Nat))).put (some 136) (.int .i64 (x : Nat))).put (some 137) (.bool false)).put (some 138) (.bool false)).put (some 139) (.bool false)).put (some 140) (undef)).put (some 141) (undef)).put (some 142) (undef)).put (some 143) (undef)).put (some 144) (undef)).put (some 145) (undef)).put (some 146) (undef)).put (some 147) (undef)).put (some 148) (undef)).put (some 149) (.bool false)) ∧ Below wr.heap.size wr w') ?hreg ?hnext
                  case hreg =>
                    refine wp_region_held_drew (S := fun X => Below wr.heap.size wr X) (by kernel_rfl) (below_drew1 (Below.refl _ _)) (fun hHeld => ?_)
                    generalize wr.drew = W0 at *
                    try simp only [Act.put, List.getElem_toArray, List.getElem_cons_zero, List.getElem_cons_succ, List.setIfInBounds_toArray, List.set_cons_zero, List.set_cons_succ]
                    refine wpAnyH_take (i := 0) (v := .int .i64 (x : Nat)) rfl (by kernel_rfl) (by kernel_rfl) (by kernel_rfl) (fun _ _ _ h => absurd h.1 (by simp)) (.inl ⟨by rfl, fun _ _ => by go_simp⟩) hHeld ?_
                    try simp only [Act.put, List.getElem_toArray, List.getElem_cons_zero, List.getElem_cons_succ, List.setIfInBounds_toArray, List.set_cons_zero, List.set_cons_succ]
                    refine wpAnyH_take (i := 1) (v := .int .i64 (p : Nat)) rfl (by kernel_rfl) (by kernel_rfl) (by kernel_rfl) (fun _ _ _ h => absurd h.1 (by simp)) (.inl ⟨by rfl, fun _ _ => by go_simp⟩) hHeld ?_
                    try simp only [Act.put, List.getElem_toArray, List.getElem_cons_zero, List.getElem_cons_succ, List.setIfInBounds_toArray, List.set_cons_zero, List.set_cons_succ]
                    refine wpAnyH_take (i := 2) (v := .bool true) rfl (by kernel_rfl) (by kernel_rfl) (by kernel_rfl) (fun _ _ _ h => absurd h.1 (by simp)) (.inl ⟨by rfl, fun _ _ => by go_simp⟩) hHeld ?_
                    try simp only [Act.put, List.getElem_toArray, List.getElem_cons_zero, List.getElem_cons_succ, List.setIfInBounds_toArray, List.set_cons_zero, List.set_cons_succ]
                    refine wpAnyH_take (i := 3) (v := .bool true) rfl (by kernel_rfl) (by kernel_rfl) (by kernel_rfl) (fun _ _ _ h => absurd h.1 (by simp)) (.inl ⟨by rfl, fun _ _ => by go_simp⟩) hHeld ?_
                    try simp only [Act.put, List.getElem_toArray, List.getElem_cons_zero, List.getElem_cons_succ, List.setIfInBounds_toArray, List.set_cons_zero, List.set_cons_succ]
                    refine wpAnyH_take (i := 4) (v := .int .i64 (x : Nat)) rfl (by kernel_rfl) (by kernel_rfl) (by kernel_rfl) (fun _ _ _ h => absurd h.1 (by simp)) (.inl ⟨by rfl, fun _ _ => by go_simp⟩) hHeld ?_
                    try simp only [Act.put, List.getElem_toArray, List.getElem_cons_zero, List.getElem_cons_succ, List.setIfInBounds_toArray, List.set_cons_zero, List.set_cons_succ]
                    refine wpAnyH_take (i := 5) (v := .int .i64 (x : Nat)) rfl (by kernel_rfl) (by kernel_rfl) (by kernel_rfl) (fun _ _ _ h => absurd h.1 (by simp)) (.inl ⟨by rfl, fun _ _ => by go_simp⟩) hHeld ?_
                    try simp only [Act.put, List.getElem_toArray, List.getElem_cons_zero, List.getElem_cons_succ, List.setIfInBounds_toArray, List.set_cons_zero, List.set_cons_succ]
                    refine wpAnyH_take (i := 6) (v := .bool false) rfl (by kernel_rfl) (by kernel_rfl) (by kernel_rfl) (fun _ _ _ h => absurd h.1 (by simp)) (.inl ⟨by rfl, fun _ _ => by go_simp⟩) hHeld ?_
                    try simp only [Act.put, List.getElem_toArray, List.getElem_cons_zero, List.getElem_cons_succ, List.setIfInBounds_toArray, List.set_cons_zero, List.set_cons_succ]
                    refine wpAnyH_take (i := 7) (v := .bool false) rfl (by kernel_rfl) (by kernel_rfl) (by kernel_rfl) (fun _ _ _ h => absurd h.1 (by simp)) (.inl ⟨by rfl, fun _ _ => by go_simp⟩) hHeld ?_
                    try simp only [Act.put, List.getElem_toArray, List.getElem_cons_zero, List.getElem_cons_succ, List.setIfInBounds_toArray, List.set_cons_zero, List.set_cons_succ]
                    refine wpAnyH_take (i := 8) (v := .bool false) rfl (by kernel_rfl) (by kernel_rfl) (by kernel_rfl) (fun _ _ _ h => absurd h.1 (by simp)) (.inl ⟨by rfl, fun _ _ => by go_simp⟩) hHeld ?_
                    try simp only [Act.put, List.getElem_toArray, List.getElem_cons_zero, List.getElem_cons_succ, List.setIfInBounds_toArray, List.set_cons_zero, List.set_cons_succ]
                    refine wpAnyH_take (i := 9) (v := undef) rfl (by kernel_rfl) (by kernel_rfl) (by kernel_rfl) (fun _ _ _ h => absurd h.1 (by simp)) (.inr ⟨by rfl, rfl⟩) hHeld ?_
                    try simp only [Act.put, List.getElem_toArray, List.getElem_cons_zero, List.getElem_cons_succ, List.setIfInBounds_toArray, List.set_cons_zero, List.set_cons_succ]
                    refine wpAnyH_take (i := 10) (v := undef) rfl (by kernel_rfl) (by kernel_rfl) (by kernel_rfl) (fun _ _ _ h => absurd h.1 (by simp)) (.inr ⟨by rfl, rfl⟩) hHeld ?_
                    try simp only [Act.put, List.getElem_toArray, List.getElem_cons_zero, List.getElem_cons_succ, List.setIfInBounds_toArray, List.set_cons_zero, List.set_cons_succ]
                    refine wpAnyH_take (i := 11) (v := undef) rfl (by kernel_rfl) (by kernel_rfl) (by kernel_rfl) (fun _ _ _ h => absurd h.1 (by simp)) (.inr ⟨by rfl, rfl⟩) hHeld ?_
                    try simp only [Act.put, List.getElem_toArray, List.getElem_cons_zero, List.getElem_cons_succ, List.setIfInBounds_toArray, List.set_cons_zero, List.set_cons_succ]
                    refine wpAnyH_take (i := 12) (v := undef) rfl (by kernel_rfl) (by kernel_rfl) (by kernel_rfl) (fun _ _ _ h => absurd h.1 (by simp)) (.inr ⟨by rfl, rfl⟩) hHeld ?_
                    try simp only [Act.put, List.getElem_toArray, List.getElem_cons_zero, List.getElem_cons_succ, List.setIfInBounds_toArray, List.set_cons_zero, List.set_cons_succ]
                    refine wpAnyH_take (i := 13) (v := undef) rfl (by kernel_rfl) (by kernel_rfl) (by kernel_rfl) (fun _ _ _ h => absurd h.1 (by simp)) (.inr ⟨by rfl, rfl⟩) hHeld ?_
                    try simp only [Act.put, List.getElem_toArray, List.getElem_cons_zero, List.getElem_cons_succ, List.setIfInBounds_toArray, List.set_cons_zero, List.set_cons_succ]
                    refine wpAnyH_take (i := 14) (v := undef) rfl (by kernel_rfl) (by kernel_rfl) (by kernel_rfl) (fun _ _ _ h => absurd h.1 (by simp)) (.inr ⟨by rfl, rfl⟩) hHeld ?_
                    try simp only [Act.put, List.getElem_toArray, List.getElem_cons_zero, List.getElem_cons_succ, List.setIfInBounds_toArray, List.set_cons_zero, List.set_cons_succ]
                    refine wpAnyH_take (i := 15) (v := undef) rfl (by kernel_rfl) (by kernel_rfl) (by kernel_rfl) (fun _ _ _ h => absurd h.1 (by simp)) (.inr ⟨by rfl, rfl⟩) hHeld ?_
                    try simp only [Act.put, List.getElem_toArray, List.getElem_cons_zero, List.getElem_cons_succ, List.setIfInBounds_toArray, List.set_cons_zero, List.set_cons_succ]
                    refine wpAnyH_take (i := 16) (v := undef) rfl (by kernel_rfl) (by kernel_rfl) (by kernel_rfl) (fun _ _ _ h => absurd h.1 (by simp)) (.inr ⟨by rfl, rfl⟩) hHeld ?_
                    try simp only [Act.put, List.getElem_toArray, List.getElem_cons_zero, List.getElem_cons_succ, List.setIfInBounds_toArray, List.set_cons_zero, List.set_cons_succ]
                    refine wpAnyH_take (i := 17) (v := undef) rfl (by kernel_rfl) (by kernel_rfl) (by kernel_rfl) (fun _ _ _ h => absurd h.1 (by simp)) (.inr ⟨by rfl, rfl⟩) hHeld ?_
                    try simp only [Act.put, List.getElem_toArray, List.getElem_cons_zero, List.getElem_cons_succ, List.setIfInBounds_toArray, List.set_cons_zero, List.set_cons_succ]
                    refine wpAnyH_take (i := 18) (v := .bool false) rfl (by kernel_rfl) (by kernel_rfl) (by kernel_rfl) (fun _ _ _ h => absurd h.1 (by simp)) (.inl ⟨by rfl, fun _ _ => by go_simp⟩) hHeld ?_
                    try simp only [Act.put, List.getElem_toArray, List.getElem_cons_zero, List.getElem_cons_succ, List.setIfInBounds_toArray, List.set_cons_zero, List.set_cons_succ]
                    refine wpAnyH_done (by kernel_rfl) ?_ _
                    refine ⟨rfl, ?_, hHeld⟩
                    try rfl
                  case hnext =>
                    rintro _ w8 ⟨rfl, hb8⟩
                    try simp only [Act.put, List.getElem_toArray, List.getElem_cons_zero, List.getElem_cons_succ, List.setIfInBounds_toArray, List.set_cons_zero, List.set_cons_succ]
                    have HW8 := Aside0.mk (below_step HWr.out hb8)
                    have HC9 := Aside0.mk (HB.out _ hb8)
                    have HU9 := Aside0.mk (HU.out _ hb8)
                    clear hb8
                    go_wp2_with fail
                    refine ⟨⟨x + 1, by omega, by go_num, HW8.out, HC9.out, HU9.out⟩, by simp [intOf]; omega⟩
                have HXE := Aside0.mk (HSD.out.rest x hx e1 e2)
                have b1 : ((x : Int) != (p : Int)) = true := bne_iff_ne.2 (by omega)
                have b2 : ((x : Int) != (q : Int)) = true := bne_iff_ne.2 (by omega)
                refine wp_put (fun a0 a' w' => a' = (((((((((((((((((((a0.put (some 131) (.int .i64 (x : Nat))).put (some 132) (.int .i64 (p : Nat))).put (some 133) (.bool true)).put (some 134) (.bool true)).put (some 135) (.int .i64 (x : Nat))).put (some 136) (.int .i64 (q : Nat))).put (some 137) (.bool true)).put (some 138) (.bool true)).put (some 139) (.bool true)).put (some 140) (.slice (some adu) U.length cu)).put (some 141) (.int .i64 (x : Nat))).put (some 142) (.pointer (some (adu.add (x * 8))))).put (some 143) (.agg #[.string (at39 l x).f0, .int .u64 (at39 l x).f1.f0, .int .u64 (at39 l x).f1.f1, .int .u64 (at39 l x).f1.f2, .int .u64 (at39 l x).f1.f3, .int .i64 (at39 l x).f2, .string (at39 l x).f3, .string (at39 l x).f4])).put (some 144) (.slice (some ad) l.length c)).put (some 145) (.int .i64 (x : Nat))).put (some 146) (.pointer (some (ad.add (x * 8))))).put (some 147) (.agg #[.string (at39 l x).f0, .int .u64 (at39 l x).f1.f0, .int .u64 (at39 l x).f1.f1, .int .u64 (at39 l x).f1.f2, .int .u64 (at39 l x).f1.f3, .int .i64 (at39 l x).f2, .string (at39 l x).f3, .string (at39 l x).f4])).put (some 148) (.bool false)).put (some 149) (.bool false)) ∧ Below wr.heap.size wr w') ?hreg ?hnext
                case hreg =>
                  refine wp_region_held_drew (S := fun X => Below wr.heap.size wr X) (by kernel_rfl) (below_drew1 (Below.refl _ _)) (fun hHeld => ?_)
                  generalize wr.drew = W0 at *
                  try simp only [Act.put, List.getElem_toArray, List.getElem_cons_zero, List.getElem_cons_succ, List.setIfInBounds_toArray, List.set_cons_zero, List.set_cons_succ]
                  refine wpAnyH_take (i := 0) (v := .int .i64 (x : Nat)) rfl (by kernel_rfl) (by kernel_rfl) (by kernel_rfl) (fun _ _ _ h => absurd h.1 (by simp)) (.inl ⟨by rfl, fun _ _ => by go_simp⟩) hHeld ?_
                  try simp only [Act.put, List.getElem_toArray, List.getElem_cons_zero, List.getElem_cons_succ, List.setIfInBounds_toArray, List.set_cons_zero, List.set_cons_succ]
                  refine wpAnyH_take (i := 1) (v := .int .i64 (p : Nat)) rfl (by kernel_rfl) (by kernel_rfl) (by kernel_rfl) (fun _ _ _ h => absurd h.1 (by simp)) (.inl ⟨by rfl, fun _ _ => by go_simp⟩) hHeld ?_
                  try simp only [Act.put, List.getElem_toArray, List.getElem_cons_zero, List.getElem_cons_succ, List.setIfInBounds_toArray, List.set_cons_zero, List.set_cons_succ]
                  refine wpAnyH_take (i := 2) (v := .bool true) rfl (by kernel_rfl) (by kernel_rfl) (by kernel_rfl) (fun _ _ _ h => absurd h.1 (by simp)) (.inl ⟨by rfl, fun _ _ => by go_simp⟩) hHeld ?_
                  try simp only [Act.put, List.getElem_toArray, List.getElem_cons_zero, List.getElem_cons_succ, List.setIfInBounds_toArray, List.set_cons_zero, List.set_cons_succ]
                  refine wpAnyH_take (i := 3) (v := .bool true) rfl (by kernel_rfl) (by kernel_rfl) (by kernel_rfl) (fun _ _ _ h => absurd h.1 (by simp)) (.inl ⟨by rfl, fun _ _ => by go_simp⟩) hHeld ?_
                  try simp only [Act.put, List.getElem_toArray, List.getElem_cons_zero, List.getElem_cons_succ, List.setIfInBounds_toArray, List.set_cons_zero, List.set_cons_succ]
                  refine wpAnyH_take (i := 4) (v := .int .i64 (x : Nat)) rfl (by kernel_rfl) (by kernel_rfl) (by kernel_rfl) (fun _ _ _ h => absurd h.1 (by simp)) (.inl ⟨by rfl, fun _ _ => by go_simp⟩) hHeld ?_
                  try simp only [Act.put, List.getElem_toArray, List.getElem_cons_zero, List.getElem_cons_succ, List.setIfInBounds_toArray, List.set_cons_zero, List.set_cons_succ]
                  refine wpAnyH_take (i := 5) (v := .int .i64 (q : Nat)) rfl (by kernel_rfl) (by kernel_rfl) (by kernel_rfl) (fun _ _ _ h => absurd h.1 (by simp)) (.inl ⟨by rfl, fun _ _ => by go_simp⟩) hHeld ?_
                  try simp only [Act.put, List.getElem_toArray, List.getElem_cons_zero, List.getElem_cons_succ, List.setIfInBounds_toArray, List.set_cons_zero, List.set_cons_succ]
                  refine wpAnyH_take (i := 6) (v := .bool true) rfl (by kernel_rfl) (by kernel_rfl) (by kernel_rfl) (fun _ _ _ h => absurd h.1 (by simp)) (.inl ⟨by rfl, fun _ _ => by go_simp⟩) hHeld ?_
                  try simp only [Act.put, List.getElem_toArray, List.getElem_cons_zero, List.getElem_cons_succ, List.setIfInBounds_toArray, List.set_cons_zero, List.set_cons_succ]
                  refine wpAnyH_take (i := 7) (v := .bool true) rfl (by kernel_rfl) (by kernel_rfl) (by kernel_rfl) (fun _ _ _ h => absurd h.1 (by simp)) (.inl ⟨by rfl, fun _ _ => by go_simp⟩) hHeld ?_
                  try simp only [Act.put, List.getElem_toArray, List.getElem_cons_zero, List.getElem_cons_succ, List.setIfInBounds_toArray, List.set_cons_zero, List.set_cons_succ]
                  refine wpAnyH_take (i := 8) (v := .bool true) rfl (by kernel_rfl) (by kernel_rfl) (by kernel_rfl) (fun _ _ _ h => absurd h.1 (by simp)) (.inl ⟨by rfl, fun _ _ => by go_simp⟩) hHeld ?_
                  try simp only [Act.put, List.getElem_toArray, List.getElem_cons_zero, List.getElem_cons_succ, List.setIfInBounds_toArray, List.set_cons_zero, List.set_cons_succ]
                  refine wpAnyH_take (i := 9) (v := .slice (some adu) U.length cu) rfl (by kernel_rfl) (by kernel_rfl) (by kernel_rfl) (fun _ _ _ h => absurd h.1 (by simp)) (.inl ⟨by rfl, fun _ _ => by go_simp⟩) hHeld ?_
                  try simp only [Act.put, List.getElem_toArray, List.getElem_cons_zero, List.getElem_cons_succ, List.setIfInBounds_toArray, List.set_cons_zero, List.set_cons_succ]
                  refine wpAnyH_take (i := 10) (v := .int .i64 (x : Nat)) rfl (by kernel_rfl) (by kernel_rfl) (by kernel_rfl) (fun _ _ _ h => absurd h.1 (by simp)) (.inl ⟨by rfl, fun _ _ => by go_simp⟩) hHeld ?_
                  try simp only [Act.put, List.getElem_toArray, List.getElem_cons_zero, List.getElem_cons_succ, List.setIfInBounds_toArray, List.set_cons_zero, List.set_cons_succ]
                  refine wpAnyH_take (i := 11) (v := .pointer (some (adu.add (x * 8)))) rfl (by kernel_rfl) (by kernel_rfl) (by kernel_rfl) (fun _ _ _ h => absurd h.1 (by simp)) (.inl ⟨by rfl, fun _ _ => by go_simp⟩) hHeld ?_
                  try simp only [Act.put, List.getElem_toArray, List.getElem_cons_zero, List.getElem_cons_succ, List.setIfInBounds_toArray, List.set_cons_zero, List.set_cons_succ]
                  refine wpAnyH_take (i := 12) (v := .agg #[.string (at39 l x).f0, .int .u64 (at39 l x).f1.f0, .int .u64 (at39 l x).f1.f1, .int .u64 (at39 l x).f1.f2, .int .u64 (at39 l x).f1.f3, .int .i64 (at39 l x).f2, .string (at39 l x).f3, .string (at39 l x).f4]) rfl (by kernel_rfl) (by kernel_rfl) (by kernel_rfl) (fun _ _ _ h => absurd h.1 (by simp)) (.inl ⟨by rfl, fun X' hS => by obtain ⟨b0, b1, b2, b3, b4, b5, b6, b7⟩ := cells8 (HU.out _ hS) x (by have := HSD.out.len; omega); rw [HXE.out] at b0 b1 b2 b3 b4 b5 b6 b7; go_simp⟩) hHeld ?_
                  try simp only [Act.put, List.getElem_toArray, List.getElem_cons_zero, List.getElem_cons_succ, List.setIfInBounds_toArray, List.set_cons_zero, List.set_cons_succ]
                  refine wpAnyH_take (i := 13) (v := .slice (some ad) l.length c) rfl (by kernel_rfl) (by kernel_rfl) (by kernel_rfl) (fun _ _ _ h => absurd h.1 (by simp)) (.inl ⟨by rfl, fun _ _ => by go_simp⟩) hHeld ?_
                  try simp only [Act.put, List.getElem_toArray, List.getElem_cons_zero, List.getElem_cons_succ, List.setIfInBounds_toArray, List.set_cons_zero, List.set_cons_succ]
                  refine wpAnyH_take (i := 14) (v := .int .i64 (x : Nat)) rfl (by kernel_rfl) (by kernel_rfl) (by kernel_rfl) (fun _ _ _ h => absurd h.1 (by simp)) (.inl ⟨by rfl, fun _ _ => by go_simp⟩) hHeld ?_
                  try simp only [Act.put, List.getElem_toArray, List.getElem_cons_zero, List.getElem_cons_succ, List.setIfInBounds_toArray, List.set_cons_zero, List.set_cons_succ]
                  refine wpAnyH_take (i := 15) (v := .pointer (some (ad.add (x * 8)))) rfl (by kernel_rfl) (by kernel_rfl) (by kernel_rfl) (fun _ _ _ h => absurd h.1 (by simp)) (.inl ⟨by rfl, fun _ _ => by go_simp⟩) hHeld ?_
                  try simp only [Act.put, List.getElem_toArray, List.getElem_cons_zero, List.getElem_cons_succ, List.setIfInBounds_toArray, List.set_cons_zero, List.set_cons_succ]
                  refine wpAnyH_take (i := 16) (v := .agg #[.string (at39 l x).f0, .int .u64 (at39 l x).f1.f0, .int .u64 (at39 l x).f1.f1, .int .u64 (at39 l x).f1.f2, .int .u64 (at39 l x).f1.f3, .int .i64 (at39 l x).f2, .string (at39 l x).f3, .string (at39 l x).f4]) rfl (by kernel_rfl) (by kernel_rfl) (by kernel_rfl) (fun _ _ _ h => absurd h.1 (by simp)) (.inl ⟨by rfl, fun X' hS => by obtain ⟨b0, b1, b2, b3, b4, b5, b6, b7⟩ := cells8 (HB.out _ hS) x hx; go_simp⟩) hHeld ?_
                  try simp only [Act.put, List.getElem_toArray, List.getElem_cons_zero, List.getElem_cons_succ, List.setIfInBounds_toArray, List.set_cons_zero, List.set_cons_succ]
                  refine wpAnyH_take (i := 17) (v := .bool false) rfl (by kernel_rfl) (by kernel_rfl) (by kernel_rfl) (fun _ _ _ h => absurd h.1 (by simp)) (.inl ⟨by rfl, fun _ _ => by go_simp⟩) hHeld ?_
                  try simp only [Act.put, List.getElem_toArray, List.getElem_cons_zero, List.getElem_cons_succ, List.setIfInBounds_toArray, List.set_cons_zero, List.set_cons_succ]
                  refine wpAnyH_take (i := 18) (v := .bool false) rfl (by kernel_rfl) (by kernel_rfl) (by kernel_rfl) (fun _ _ _ h => absurd h.1 (by simp)) (.inl ⟨by rfl, fun _ _ => by go_simp⟩) hHeld ?_
                  try simp only [Act.put, List.getElem_toArray, List.getElem_cons_zero, List.getElem_cons_succ, List.setIfInBounds_toArray, List.set_cons_zero, List.set_cons_succ]
                  refine wpAnyH_done (by kernel_rfl) ?_ _
                  refine ⟨rfl, ?_, hHeld⟩
                  try rfl
                case hnext =>
                  rintro _ w8 ⟨rfl, hb8⟩
                  try simp only [Act.put, List.getElem_toArray, List.getElem_cons_zero, List.getElem_cons_succ, List.setIfInBounds_toArray, List.set_cons_zero, List.set_cons_succ]
                  have HW8 := Aside0.mk (below_step HWr.out hb8)
                  have HC9 := Aside0.mk (HB.out _ hb8)
                  have HU9 := Aside0.mk (HU.out _ hb8)
                  clear hb8
                  go_wp2_with fail
                  refine ⟨⟨x + 1, by omega, by go_num, HW8.out, HC9.out, HU9.out⟩, by simp [intOf]; omega⟩
              · obtain rfl : x = l.length := by omega
                have hx0 : decide ((l.length : Int) < (l.length : Int)) = false := decide_eq_false (by omega)
                go_wp2_with fail
                have HB := Aside0.mk (fun (X : World) (hX : Below wr.heap.size wr X) => Kd.C_below HC8.out hX)
                have HU := Aside0.mk (fun (X : World) (hX : Below wr.heap.size wr X) => Kd.C_below HU8.out hX)
                refine wp_put (fun a0 a' w' => a' = ((((((((((((((((((((((((((((a0.put (some 151) (.slice (some adu) U.length cu)).put (some 152) (.int .i64 (l.length : Nat))).put (some 153) (.pointer (some (adu.add (l.length * 8))))).put (some 154) (.pointer (some ⟨(adu.add (l.length * 8)).block, (adu.add (l.length * 8)).off + 6, none⟩))).put (some 155) (.string (at39 l p).f0)).put (some 156) (.slice (some ad) l.length c)).put (some 157) (.int .i64 (p : Nat))).put (some 158) (.pointer (some (ad.add (p * 8))))).put (some 159) (.pointer (some (ad.add (p * 8))))).put (some 160) (.string (at39 l p).f0)).put (some 161) (.bool true)).put (some 162) (.bool true)).put (some 163) (.slice (some adu) U.length cu)).put (some 164) (.int .i64 (l.length : Nat))).put (some 165) (.pointer (some (adu.add (l.length * 8))))).put (some 166) (.pointer (some ⟨(adu.add (l.length * 8)).block, (adu.add (l.length * 8)).off + 7, none⟩))).put (some 167) (.string (at39 l q).f0)).put (some 168) (.slice (some ad) l.length c)).put (some 169) (.int .i64 (q : Nat))).put (some 170) (.pointer (some (ad.add (q * 8))))).put (some 171) (.pointer (some (ad.add (q * 8))))).put (some 172) (.string (at39 l q).f0)).put (some 173) (.bool true)).put (some 174) (.bool true)).put (some 175) (.bool true)).put (some 176) (.bool true)).put (some 177) (.bool true)).put (some 12) (.bool true)) ∧ Below wr.heap.size wr w') ?hreg ?hnext
                case hreg =>
                  refine wp_region_held_drew (S := fun X => Below wr.heap.size wr X) (by kernel_rfl) (below_drew1 (Below.refl _ _)) (fun hHeld => ?_)
                  generalize wr.drew = W0 at *
                  try simp only [Act.put, List.getElem_toArray, List.getElem_cons_zero, List.getElem_cons_succ, List.setIfInBounds_toArray, List.set_cons_zero, List.set_cons_succ]
                  refine wpAnyH_take (i := 0) (v := .slice (some adu) U.length cu) rfl (by kernel_rfl) (by kernel_rfl) (by kernel_rfl) (fun _ _ _ h => absurd h.1 (by simp)) (.inl ⟨by rfl, fun _ _ => by go_simp⟩) hHeld ?_
                  try simp only [Act.put, List.getElem_toArray, List.getElem_cons_zero, List.getElem_cons_succ, List.setIfInBounds_toArray, List.set_cons_zero, List.set_cons_succ]
                  refine wpAnyH_take (i := 1) (v := .int .i64 (l.length : Nat)) rfl (by kernel_rfl) (by kernel_rfl) (by kernel_rfl) (fun _ _ _ h => absurd h.1 (by simp)) (.inl ⟨by rfl, fun _ _ => by go_simp⟩) hHeld ?_
                  try simp only [Act.put, List.getElem_toArray, List.getElem_cons_zero, List.getElem_cons_succ, List.setIfInBounds_toArray, List.set_cons_zero, List.set_cons_succ]
                  refine wpAnyH_take (i := 2) (v := .pointer (some (adu.add (l.length * 8)))) rfl (by kernel_rfl) (by kernel_rfl) (by kernel_rfl) (fun _ _ _ h => absurd h.1 (by simp)) (.inl ⟨by rfl, fun _ _ => by go_simp⟩) hHeld ?_
                  try simp only [Act.put, List.getElem_toArray, List.getElem_cons_zero, List.getElem_cons_succ, List.setIfInBounds_toArray, List.set_cons_zero, List.set_cons_succ]
                  refine wpAnyH_take (i := 3) (v := .pointer (some ⟨(adu.add (l.length * 8)).block, (adu.add (l.length * 8)).off + 6, none⟩)) rfl (by kernel_rfl) (by kernel_rfl) (by kernel_rfl) (fun _ _ _ h => absurd h.1 (by simp)) (.inl ⟨by rfl, fun _ _ => by go_simp⟩) hHeld ?_
                  try simp only [Act.put, List.getElem_toArray, List.getElem_cons_zero, List.getElem_cons_succ, List.setIfInBounds_toArray, List.set_cons_zero, List.set_cons_succ]
                  refine wpAnyH_take (i := 4) (v := .string (at39 l p).f0) rfl (by kernel_rfl) (by kernel_rfl) (by kernel_rfl) (fun _ _ _ h => absurd h.1 (by simp)) (.inl ⟨by rfl, fun X' hS => by have b := (cells8 (HU.out _ hS) l.length (by have := HSD.out.len; omega)).2.2.2.2.2.2.1; rw [HSD.out.left] at b; go_simp⟩) hHeld ?_
                  try simp only [Act.put, List.getElem_toArray, List.getElem_cons_zero, List.getElem_cons_succ, List.setIfInBounds_toArray, List.set_cons_zero, List.set_cons_succ]
                  refine wpAnyH_take (i := 5) (v := .slice (some ad) l.length c) rfl (by kernel_rfl) (by kernel_rfl) (by kernel_rfl) (fun _ _ _ h => absurd h.1 (by simp)) (.inl ⟨by rfl, fun _ _ => by go_simp⟩) hHeld ?_
                  try simp only [Act.put, List.getElem_toArray, List.getElem_cons_zero, List.getElem_cons_succ, List.setIfInBounds_toArray, List.set_cons_zero, List.set_cons_succ]
                  refine wpAnyH_take (i := 6) (v := .int .i64 (p : Nat)) rfl (by kernel_rfl) (by kernel_rfl) (by kernel_rfl) (fun _ _ _ h => absurd h.1 (by simp)) (.inl ⟨by rfl, fun _ _ => by go_simp⟩) hHeld ?_
                  try simp only [Act.put, List.getElem_toArray, List.getElem_cons_zero, List.getElem_cons_succ, List.setIfInBounds_toArray, List.set_cons_zero, List.set_cons_succ]
                  refine wpAnyH_take (i := 7) (v := .pointer (some (ad.add (p * 8)))) rfl (by kernel_rfl) (by kernel_rfl) (by kernel_rfl) (fun _ _ _ h => absurd h.1 (by simp)) (.inl ⟨by rfl, fun _ _ => by go_simp⟩) hHeld ?_
                  try simp only [Act.put, List.getElem_toArray, List.getElem_cons_zero, List.getElem_cons_succ, List.setIfInBounds_toArray, List.set_cons_zero, List.set_cons_succ]
                  refine wpAnyH_take (i := 8) (v := .pointer (some (ad.add (p * 8)))) rfl (by kernel_rfl) (by kernel_rfl) (by kernel_rfl) (fun _ _ _ h => absurd h.1 (by simp)) (.inl ⟨by rfl, fun _ _ => by go_simp⟩) hHeld ?_
                  try simp only [Act.put, List.getElem_toArray, List.getElem_cons_zero, List.getElem_cons_succ, List.setIfInBounds_toArray, List.set_cons_zero, List.set_cons_succ]
                  refine wpAnyH_take (i := 9) (v := .string (at39 l p).f0) rfl (by kernel_rfl) (by kernel_rfl) (by kernel_rfl) (fun _ _ _ h => absurd h.1 (by simp)) (.inl ⟨by rfl, fun X' hS => by have b := (cells8 (HB.out _ hS) p hp).1; go_simp⟩) hHeld ?_
                  try simp only [Act.put, List.getElem_toArray, List.getElem_cons_zero, List.getElem_cons_succ, List.setIfInBounds_toArray, List.set_cons_zero, List.set_cons_succ]
                  refine wpAnyH_take (i := 10) (v := .bool true) rfl (by kernel_rfl) (by kernel_rfl) (by kernel_rfl) (fun _ _ _ h => absurd h.1 (by simp)) (.inl ⟨by rfl, fun _ _ => by go_simp⟩) hHeld ?_
                  try simp only [Act.put, List.getElem_toArray, List.getElem_cons_zero, List.getElem_cons_succ, List.setIfInBounds_toArray, List.set_cons_zero, List.set_cons_succ]
                  refine wpAnyH_take (i := 11) (v := .bool true) rfl (by kernel_rfl) (by kernel_rfl) (by kernel_rfl) (fun _ _ _ h => absurd h.1 (by simp)) (.inl ⟨by rfl, fun _ _ => by go_simp⟩) hHeld ?_
                  try simp only [Act.put, List.getElem_toArray, List.getElem_cons_zero, List.getElem_cons_succ, List.setIfInBounds_toArray, List.set_cons_zero, List.set_cons_succ]
                  refine wpAnyH_take (i := 12) (v := .slice (some adu) U.length cu) rfl (by kernel_rfl) (by kernel_rfl) (by kernel_rfl) (fun _ _ _ h => absurd h.1 (by simp)) (.inl ⟨by rfl, fun _ _ => by go_simp⟩) hHeld ?_
                  try simp only [Act.put, List.getElem_toArray, List.getElem_cons_zero, List.getElem_cons_succ, List.setIfInBounds_toArray, List.set_cons_zero, List.set_cons_succ]
                  refine wpAnyH_take (i := 13) (v := .int .i64 (l.length : Nat)) rfl (by kernel_rfl) (by kernel_rfl) (by kernel_rfl) (fun _ _ _ h => absurd h.1 (by simp)) (.inl ⟨by rfl, fun _ _ => by go_simp⟩) hHeld ?_
                  try simp only [Act.put, List.getElem_toArray, List.getElem_cons_zero, List.getElem_cons_succ, List.setIfInBounds_toArray, List.set_cons_zero, List.set_cons_succ]
                  refine wpAnyH_take (i := 14) (v := .pointer (some (adu.add (l.length * 8)))) rfl (by kernel_rfl) (by kernel_rfl) (by kernel_rfl) (fun _ _ _ h => absurd h.1 (by simp)) (.inl ⟨by rfl, fun _ _ => by go_simp⟩) hHeld ?_
                  try simp only [Act.put, List.getElem_toArray, List.getElem_cons_zero, List.getElem_cons_succ, List.setIfInBounds_toArray, List.set_cons_zero, List.set_cons_succ]
                  refine wpAnyH_take (i := 15) (v := .pointer (some ⟨(adu.add (l.length * 8)).block, (adu.add (l.length * 8)).off + 7, none⟩)) rfl (by kernel_rfl) (by kernel_rfl) (by kernel_rfl) (fun _ _ _ h => absurd h.1 (by simp)) (.inl ⟨by rfl, fun _ _ => by go_simp⟩) hHeld ?_
                  try simp only [Act.put, List.getElem_toArray, List.getElem_cons_zero, List.getElem_cons_succ, List.setIfInBounds_toArray, List.set_cons_zero, List.set_cons_succ]
                  refine wpAnyH_take (i := 16) (v := .string (at39 l q).f0) rfl (by kernel_rfl) (by kernel_rfl) (by kernel_rfl) (fun _ _ _ h => absurd h.1 (by simp)) (.inl ⟨by rfl, fun X' hS => by have b := (cells8 (HU.out _ hS) l.length (by have := HSD.out.len; omega)).2.2.2.2.2.2.2; rw [HSD.out.right] at b; go_simp⟩) hHeld ?_
                  try simp only [Act.put, List.getElem_toArray, List.getElem_cons_zero, List.getElem_cons_succ, List.setIfInBounds_toArray, List.set_cons_zero, List.set_cons_succ]
                  refine wpAnyH_take (i := 17) (v := .slice (some ad) l.length c) rfl (by kernel_rfl) (by kernel_rfl) (by kernel_rfl) (fun _ _ _ h => absurd h.1 (by simp)) (.inl ⟨by rfl, fun _ _ => by go_simp⟩) hHeld ?_
                  try simp only [Act.put, List.getElem_toArray, List.getElem_cons_zero, List.getElem_cons_succ, List.setIfInBounds_toArray, List.set_cons_zero, List.set_cons_succ]
                  refine wpAnyH_take (i := 18) (v := .int .i64 (q : Nat)) rfl (by kernel_rfl) (by kernel_rfl) (by kernel_rfl) (fun _ _ _ h => absurd h.1 (by simp)) (.inl ⟨by rfl, fun _ _ => by go_simp⟩) hHeld ?_
                  try simp only [Act.put, List.getElem_toArray, List.getElem_cons_zero, List.getElem_cons_succ, List.setIfInBounds_toArray, List.set_cons_zero, List.set_cons_succ]
                  refine wpAnyH_take (i := 19) (v := .pointer (some (ad.add (q * 8)))) rfl (by kernel_rfl) (by kernel_rfl) (by kernel_rfl) (fun _ _ _ h => absurd h.1 (by simp)) (.inl ⟨by rfl, fun _ _ => by go_simp⟩) hHeld ?_
                  try simp only [Act.put, List.getElem_toArray, List.getElem_cons_zero, List.getElem_cons_succ, List.setIfInBounds_toArray, List.set_cons_zero, List.set_cons_succ]
                  refine wpAnyH_take (i := 20) (v := .pointer (some (ad.add (q * 8)))) rfl (by kernel_rfl) (by kernel_rfl) (by kernel_rfl) (fun _ _ _ h => absurd h.1 (by simp)) (.inl ⟨by rfl, fun _ _ => by go_simp⟩) hHeld ?_
                  try simp only [Act.put, List.getElem_toArray, List.getElem_cons_zero, List.getElem_cons_succ, List.setIfInBounds_toArray, List.set_cons_zero, List.set_cons_succ]
                  refine wpAnyH_take (i := 21) (v := .string (at39 l q).f0) rfl (by kernel_rfl) (by kernel_rfl) (by kernel_rfl) (fun _ _ _ h => absurd h.1 (by simp)) (.inl ⟨by rfl, fun X' hS => by have b := (cells8 (HB.out _ hS) q hq).1; go_simp⟩) hHeld ?_
                  try simp only [Act.put, List.getElem_toArray, List.getElem_cons_zero, List.getElem_cons_succ, List.setIfInBounds_toArray, List.set_cons_zero, List.set_cons_succ]
                  refine wpAnyH_take (i := 22) (v := .bool true) rfl (by kernel_rfl) (by kernel_rfl) (by kernel_rfl) (fun _ _ _ h => absurd h.1 (by simp)) (.inl ⟨by rfl, fun _ _ => by go_simp⟩) hHeld ?_
                  try simp only [Act.put, List.getElem_toArray, List.getElem_cons_zero, List.getElem_cons_succ, List.setIfInBounds_toArray, List.set_cons_zero, List.set_cons_succ]
                  refine wpAnyH_take (i := 23) (v := .bool true) rfl (by kernel_rfl) (by kernel_rfl) (by kernel_rfl) (fun _ _ _ h => absurd h.1 (by simp)) (.inl ⟨by rfl, fun _ _ => by go_simp⟩) hHeld ?_
                  try simp only [Act.put, List.getElem_toArray, List.getElem_cons_zero, List.getElem_cons_succ, List.setIfInBounds_toArray, List.set_cons_zero, List.set_cons_succ]
                  refine wpAnyH_take (i := 24) (v := .bool true) rfl (by kernel_rfl) (by kernel_rfl) (by kernel_rfl) (fun _ _ _ h => absurd h.1 (by simp)) (.inl ⟨by rfl, fun _ _ => by go_simp⟩) hHeld ?_
                  try simp only [Act.put, List.getElem_toArray, List.getElem_cons_zero, List.getElem_cons_succ, List.setIfInBounds_toArray, List.set_cons_zero, List.set_cons_succ]
                  refine wpAnyH_ready (rs := [25]) (by kernel_rfl) (by simp) ?_
                  refine AllReadyH.cons rfl (fun K hK => ?_) AllReadyH.nil
                  go_simp
                  refine (HAW.out _).mono ?_
                  rintro e X1 ⟨rfl, hb⟩
                  refine hK.out _ _ (below_step hHeld hb) (fun hHeld => ?_)
                  clear hb hK K
                  try simp only [Act.put, List.getElem_toArray, List.getElem_cons_zero, List.getElem_cons_succ, List.setIfInBounds_toArray, List.set_cons_zero, List.set_cons_succ]
                  refine wpAnyH_take (i := 26) (v := .bool true) rfl (by kernel_rfl) (by kernel_rfl) (by kernel_rfl) (fun _ _ _ h => absurd h.1 (by simp)) (.inl ⟨by rfl, fun _ _ => by go_simp⟩) hHeld ?_
                  try simp only [Act.put, List.getElem_toArray, List.getElem_cons_zero, List.getElem_cons_succ, List.setIfInBounds_toArray, List.set_cons_zero, List.set_cons_succ]
                  refine wpAnyH_take (i := 27) (v := .bool true) rfl (by kernel_rfl) (by kernel_rfl) (by kernel_rfl) (fun _ _ _ h => absurd h.1 (by simp)) (.inl ⟨by rfl, fun _ _ => by go_simp⟩) hHeld ?_
                  try simp only [Act.put, List.getElem_toArray, List.getElem_cons_zero, List.getElem_cons_succ, List.setIfInBounds_toArray, List.set_cons_zero, List.set_cons_succ]
                  refine wpAnyH_done (by kernel_rfl) ?_ _
                  refine ⟨rfl, ?_, hHeld⟩
                  try rfl
                case hnext =>
                  rintro _ w8 ⟨rfl, hb8⟩
                  try simp only [Act.put, List.getElem_toArray, List.getElem_cons_zero, List.getElem_cons_succ, List.setIfInBounds_toArray, List.set_cons_zero, List.set_cons_succ]
                  have HW9 := Aside0.mk (below_step HWr.out hb8)
                  clear hb8
                  go_wp2_with fail
                  exact bodyPost_ret (v := .bool true) (by simp [results, Try.results6, go_sem]) rfl ⟨rfl, HW9.out⟩
    · obtain ⟨rfl, hb2⟩ := h2.1 hE
      have HW2 := Aside0.mk (below_step HW1.out hb2)
      clear h2 hb2 HG1 HW1
      have b0 : (bindE l ch i j a b != 0) = true := bne_iff_ne.2 hE
      generalize bindE l ch i j a b = E at *
      go_wp2_with fail
      refine (HAW.out _).mono ?_
      rintro e w9 ⟨rfl, hb9⟩
      have HW9 := Aside0.mk (below_step HW2.out hb9)
      clear hb9
      go_wp2_with fail
      exact bodyPost_ret (v := .bool true) (by simp [results, Try.results6, go_sem]) rfl ⟨rfl, HW9.out⟩
  · have F1 := Aside0.mk (few_false l c1)
    have HLN := Aside0.mk hlen
    clear ha hb hl hlen
    go_enter Try.func6, Try.ntmps6
    go_wp2_with fail
    refine (trucelaw18_few.calls A c l false _ (Kd.C_below HC.out HT.out.2.2) HLN.out F1.out).mono ?_
    rintro e w1 ⟨rfl, ⟨nd, hw1⟩⟩
    have HW1 := Aside0.mk (show Below w.heap.size w w1 by rw [hw1]; exact pw_below_drewN HT.out.2.2 _)
    have HG1 := Aside0.mk (show Holds w1 w.heap.size 25 a ∧ Holds w1 (w.heap.size + 1) 25 b by rw [hw1]; exact ⟨HT.out.1, HT.out.2.1⟩)
    clear hw1
    go_wp2_with fail
    refine (HAW.out _).mono ?_
    rintro e w9 ⟨rfl, hb9⟩
    have HW9 := Aside0.mk (below_step HW1.out hb9)
    clear hb9
    go_wp2_with fail
    exact bodyPost_ret (v := .bool true) (by simp [results, Try.results6, go_sem]) rfl ⟨rfl, HW9.out⟩
theorem sides_law (l : List S39) (A : Option Addr) (c : Nat) (hl : l.length ≤ c) (w : World) (hC : k39.C w A l.length l) (hok : okL l)
    (ch : ByteArray) (i j : Int) (a : S25) (ha : ok4 a.f0 a.f1 a.f2 a.f3) (b : S25) (hb : ok4 b.f0 b.f1 b.f2 b.f3) :
    Calls Try.prog 6 #[.slice A l.length c, .string ch, .int .i64 i, .int .i64 j, .agg #[.int .u64 a.f0, .int .u64 a.f1, .int .u64 a.f2, .int .u64 a.f3], .agg #[.int .u64 b.f0, .int .u64 b.f1, .int .u64 b.f2, .int .u64 b.f3]] w fun e w' => e = .returned (.bool true) ∧ Below w.heap.size w w' := by
  have := sides_any l hok A c ch i j (wl4 a.f0 a.f1 a.f2 a.f3) (wl4 b.f0 b.f1 b.f2 b.f3) (wl4_len _ _ _ _) (wl4_len _ _ _ _) w hC hl
  rwa [ws_wl4 _ _ _ _ ha, ws_wl4 _ _ _ _ hb] at this
end Go.Proofs.Ytlkecihibmndbaa.P
