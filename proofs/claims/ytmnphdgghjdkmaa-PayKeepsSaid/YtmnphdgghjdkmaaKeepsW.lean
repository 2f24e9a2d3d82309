import Derived.Test.YtmnphdgghjdkmaaPureK
import Derived.Test.YtmnphdgghjdkmaaPeqA24
namespace Go.Proofs.Ytmnphdgghjdkmaa.P
set_option linter.unusedVariables false
set_option linter.unusedSimpArgs false
open Go.RowKit Go.Shelf Go.Proofs.YtmnphdgghjdkmaaW.PrintWords Go.Proofs.YtmnphdgghjdkmaaW.PrintLast
attribute [local go_sem] Oper.semAt_some
attribute [local go_sem high] eqA24
/-! PayKeeps, walked. -/
theorem wp_put {P : Program} {c : Code} {K : Exit → Act → World → Prop} {a : Act} {w : World} (Good : Act → Act → World → Prop) (h : c.wp P (fun e a' w' => e = .normal ∧ Good a a' w') a w) (hn : ∀ a' w', Good a a' w' → K .normal a' w') : c.wp P K a w :=
  Code.wp_mono (fun e a' w' hh => by obtain ⟨rfl, h2⟩ := hh; exact hn a' w' h2) h
theorem cellsZ {W : World} {ad : Addr} {n : Nat} {xs : List S24} (hC : Kd.C k24 W (some ad) n xs) (p : Nat) (hp : p < n) (hx : rd_T24 xs (p : Int) = sw zero4) :
    W.cell? (ad.add (p * 4)) = some (.int .u64 0) ∧ W.cell? ⟨(ad.add (p * 4)).block, (ad.add (p * 4)).off + 1, none⟩ = some (.int .u64 0) ∧
    W.cell? ⟨(ad.add (p * 4)).block, (ad.add (p * 4)).off + 2, none⟩ = some (.int .u64 0) ∧ W.cell? ⟨(ad.add (p * 4)).block, (ad.add (p * 4)).off + 3, none⟩ = some (.int .u64 0) := cellsP hC p hp hx
set_option maxRecDepth 100000 in
set_option maxHeartbeats 8000000 in
theorem keeps_any (H : List W64) (hH : H.length = 4) (l : List S40) (hl : okL l) (A : Option Addr) (c : Nat) (W : List Int) (A2 : Option Addr) (c2 : Nat) (w : World)
    (hC : Kd.C k40 w A l.length l) (hlen : l.length ≤ c) (hC2 : Kd.C (Kd.int .i64) w A2 W.length W) (hc2 : W.length ≤ c2) :
    Calls Try.prog 5 #[.agg (ws H), .slice A l.length c, .slice A2 W.length c2] w fun e w' => e = .returned (.bool true) ∧ Below w.heap.size w w' := by
  have hu24 := Try.underlying24
  have HT := Aside0.mk (And.intro (show Holds (w.alloc (.cells (ws H) 24)) w.heap.size 24 H from blk_new w _) (below_alloc (Below.refl w.heap.size w) (.cells (ws H) 24)))
  have Hi24 := Aside0.mk (show (Try.prog.info? 24).map (·.size) = some 4 by kernel_rfl)
  have HC := Aside0.mk hC
  have HC2 := Aside0.mk hC2
  have HAW := Aside0.mk (fun W => trucelaw17_awake.calls 6 true W (awake_true 6 (by omega)))
  have HLN := Aside0.mk (And.intro hH (And.intro hl (And.intro hlen hc2)))
  clear hC hC2 hH hl hlen hc2
  by_cases c1 : l.length ≤ 60 ∧ W.length ≤ 100
  · have F1 := Aside0.mk (few_true l W c1.1 c1.2)
    have HL := Aside0.mk (And.intro HLN.out.1 (And.intro HLN.out.2.1 (show l.length ≤ 1000 ∧ W.length ≤ 1000 by omega)))
    go_enter Try.func5, Try.ntmps5
    go_wp2_with fail
    refine (trucelaw17_few.calls A c l A2 c2 W true _ (Kd.C_below HC.out HT.out.2) HLN.out.2.2.1 (Kd.C_below HC2.out HT.out.2) HLN.out.2.2.2 F1.out).mono ?_
    rintro e w1 ⟨rfl, ⟨nd, hw1⟩⟩
    have HW1 := Aside0.mk (show Below w.heap.size w w1 by rw [hw1]; exact pw_below_drewN HT.out.2 _)
    have HG1 := Aside0.mk (show Holds w1 w.heap.size 24 H by rw [hw1]; exact HT.out.1)
    clear hw1
    go_wp2_with (refine load_ws rfl 24 _ rfl w.heap.size rfl 24 H 4 _ HG1.out HL.out.1 Try.underlying24 rfl Hi24.out ?_)
    refine (callsIn_wide.1 (transfer_in H HL.out.1 l HL.out.2.1 A c W A2 c2 w1 (rowL_of w1 A l (Kd.C_below HC.out HW1.out)) HLN.out.2.2.1 HL.out.2.2.1 (Kd.C_below HC2.out HW1.out) HLN.out.2.2.2 HL.out.2.2.2)).mono ?_
    intro e w2 h2
    by_cases hE : checkV l W = 0
    · obtain ⟨v0, v1, rfl, ho0, ho1, hne, hb2⟩ := h2.2 hE
      obtain ⟨Ao, co, rfl, hCo, hlo⟩ := C_of_out ho0 (by simp)
      obtain ⟨Ap, cp, rfl, hCp, hlp⟩ := C_of_pay (fun k => nAt_len H l W HL.out.1 k) ho1
      have HCO := Aside0.mk hCo
      have HCP := Aside0.mk hCp
      have HW2 := Aside0.mk (below_step HW1.out hb2)
      have HG2 := Aside0.mk (Holds.below HG1.out hb2)
      have HE := Aside0.mk hE
      have HLE := Aside0.mk (And.intro hlo hlp)
      have HLA := Aside0.mk (lAt_len H l W HL.out.1 l.length)
      clear h2 hb2 ho0 ho1 hne hCo hCp hE hlo hlp HW1 HG1
      change Aside0 (Kd.C k40 w2 Ao l.length (outA H l W)) at HCO
      change Aside0 (Kd.C k24 w2 Ap l.length (payA H l W)) at HCP
      obtain ⟨LN, hLN⟩ : ∃ x, x = lAt H l W l.length := ⟨_, rfl⟩
      have HLN2 := Aside0.mk hLN
      rw [← hLN] at HLA ⊢
      clear hLN
      have hn9 := blk_new w2 (.cells #[Value.int .u64 0, .int .u64 0, .int .u64 0, .int .u64 0] 24)
      go_wp2_with (refine store_ws rfl 24 _ _ rfl w2.heap.size rfl 24 (List.replicate 4 0) LN 4 rfl hn9 rfl HLA.out Hi24.out ?_)
      intro w3 h9 hbl hf3 hs3
      clear hf3 hs3
      have hb3 := (below_alloc (Below.refl w2.heap.size w2) (.cells #[Value.int .u64 0, .int .u64 0, .int .u64 0, .int .u64 0] 24)).trans (hbl _ (Nat.le_refl _))
      have HW3 := Aside0.mk (below_step HW2.out hb3)
      have H33 := Aside0.mk (Holds.below HG2.out hb3)
      have H93 := Aside0.mk h9
      have HO3 := Aside0.mk (Kd.C_below HCO.out hb3)
      have HP3 := Aside0.mk (Kd.C_below HCP.out hb3)
      clear h9 hbl hb3 hn9 HCO HCP HW2 HG2
      generalize w2.heap.size = g9 at *
      have T := two w3 (.cells #[Value.int .u64 0, .int .u64 0, .int .u64 0, .int .u64 0] 24) (.cells #[Value.int .u64 0, .int .u64 0, .int .u64 0, .int .u64 0] 24)
      have HT2 := Aside0.mk T
      clear T
      go_wp2_with (first | (refine load_ws rfl 24 _ rfl g9 rfl 24 LN 4 _ H93.out HLA.out Try.underlying24 rfl Hi24.out ?_) | (refine store_ws rfl 24 _ _ rfl w3.heap.size rfl 24 (List.replicate 4 0) LN 4 rfl HT2.out.1 rfl HLA.out Hi24.out ?_))
      intro w4 h11 hbl hoth hs4
      have H114 := Aside0.mk h11
      have H124 := Aside0.mk (hoth (w3.heap.size + 1) 24 (List.replicate 4 0) (by omega) HT2.out.2.1)
      have HW4 := Aside0.mk (HT2.out.2.2.trans (hbl _ (Nat.le_refl _)))
      clear h11 hbl hoth hs4 HT2
      go_wp2_with (refine store_ws rfl 24 _ _ rfl (w3.heap.size + 1) rfl 24 (List.replicate 4 0) (List.replicate 4 0) 4 rfl H124.out rfl rfl Hi24.out ?_)
      intro w5 h12 hbl hoth hs5
      have H125 := Aside0.mk h12
      have H115 := Aside0.mk (hoth w3.heap.size 24 LN (by omega) H114.out)
      have HW5 := Aside0.mk (HW4.out.trans (hbl _ (Nat.le_succ _)))
      clear h12 hbl hoth hs5 H124 H114 HW4
      have HG11 := Aside0.mk (Nat.le_refl w3.heap.size)
      have HG12 := Aside0.mk (Nat.le_succ w3.heap.size)
      have HNE := Aside0.mk (show w3.heap.size ≠ w3.heap.size + 1 by omega)
      change Aside0 (w3.heap.size ≤ w3.heap.size + 1) at HG12
      have HWW := Aside0.mk (fun (X : World) (hX : Below w3.heap.size w3 X) => below_step HW3.out hX)
      have HB := Aside0.mk (fun (X : World) (hX : Below w3.heap.size w3 X) => Kd.C_below HC.out (below_step HW3.out hX))
      have HO := Aside0.mk (fun (X : World) (hX : Below w3.heap.size w3 X) => Kd.C_below HO3.out hX)
      have HP := Aside0.mk (fun (X : World) (hX : Below w3.heap.size w3 X) => Kd.C_below HP3.out hX)
      have HOL := Aside0.mk (show (outA H l W).length = l.length by simp [outA])
      clear HO3 HP3
      obtain ⟨g11, hg11⟩ : ∃ g, g = w3.heap.size := ⟨_, rfl⟩
      obtain ⟨g12, hg12⟩ : ∃ g, g = w3.heap.size + 1 := ⟨_, rfl⟩
      rw [← hg12] at HG12 HNE H125 ⊢
      rw [← hg11] at HNE H115 ⊢
      have HG11 := Aside0.mk (show w3.heap.size ≤ g11 by omega)
      clear hg11 hg12
      go_wp2_with fail
      go_loopw [13, 68] (fun sv it wr => ∃ (i : Nat) (S Z : List W64), i ≤ l.length ∧ sv = .bool (decide (val H < sumA l i)) ∧ it = .int .i64 (i : Nat) ∧ S.length = 4 ∧ val S + val (lAt H l W i) = val (lAt H l W l.length) + val H ∧ Z.length = 4 ∧ (¬ val H < sumA l i → val Z = sumA l i) ∧ Below w3.heap.size w3 wr ∧ Holds wr g11 24 S ∧ Holds wr g12 24 Z) (fun _ it _ => l.length - (intOf it).toNat)
      case atStart => exact ⟨0, LN, List.replicate 4 0, by omega, by rw [decide_eq_false (show ¬ val H < sumA l 0 from Nat.not_lt_zero _)], rfl, HLA.out, by rw [HLN2.out]; rfl, rfl, fun _ => rfl, HW5.out, H115.out, H125.out⟩
      case round =>
        obtain ⟨i, S, Z, hil, rfl, rfl, hSS, hVS, hSZ, hVZ, hbw, h11, h12⟩ := hrel
        have HSS := Aside0.mk hSS
        have HVS := Aside0.mk hVS
        have HSZ := Aside0.mk hSZ
        have HVZ := Aside0.mk hVZ
        have HWr := Aside0.mk hbw
        have H11 := Aside0.mk h11
        have H12 := Aside0.mk h12
        clear hSS hVS hSZ hVZ hbw h11 h12 HW5 H115 H125
        by_cases hlt : i < l.length
        · obtain ⟨ad, hA, _⟩ := HC.out.2.2 (by omega)
          subst hA
          obtain ⟨ado, hAo, _⟩ := (HO.out _ HWr.out).2.2 (by omega)
          subst hAo
          obtain ⟨adp, hAp, _⟩ := (HP.out _ HWr.out).2.2 (by omega)
          subst hAp
          have hi : i < l.length := hlt
          have hx1 := decide_eq_true (show (i : Int) < (l.length : Int) by omega)
          have HPX := Aside0.mk (payA_at H l W hi)
          have HOE := Aside0.mk (outA_at H l W hi)
          have HSN := Aside0.mk (nAt_len H l W HL.out.1 i)
          have HK1 := Aside0.mk (keep1 H l W HL.out.1 HSS.out hi HVS.out)
          have HK2 := Aside0.mk (keep2 H l W HL.out.1 i)
          have HK3 := Aside0.mk (fun h => keep3 H l W HL.out.1 (i := i) h)
          rw [← HOE.out] at HK2
          have HSB1 := Aside0.mk (fun X => add_lit S (nAt H l W i) HSS.out HSN.out X)
          have HSB2 := Aside0.mk (fun X => add_lit (am (at40 (outA H l W) i)) (nAt H l W i) rfl HSN.out X)
          have HSLLa := Aside0.mk (show (addk S (nAt H l W i) 4).1.length = 4 by rw [addk_len]; exact HSS.out)
          rw [HK1.out.1, decide_eq_false (by decide : ¬ (0 > 0))] at HSB1
          rw [HK2.out.1, HK2.out.2, decide_eq_false (by decide : ¬ (0 > 0))] at HSB2
          have HV1 := Aside0.mk HK1.out.2
          clear HK1 HK2 HVS
          generalize nAt H l W i = N at *
          generalize (addk S N 4).1 = La at *
          have HSLM := Aside0.mk (show (am (at40 l i)).length = 4 from rfl)
          obtain ⟨M, hM⟩ : ∃ M, M = am (at40 l i) := ⟨_, rfl⟩
          have HME := Aside0.mk hM.symm
          rw [← hM] at HSB2 HSLM
          clear hM
          have HQ := Aside0.mk (fun X (hX : Below wr.heap.size wr X) => below_step HWr.out hX)
          by_cases hs : val H < sumA l i
          · rw [decide_eq_true hs]
            go_wp2_with fail
            refine wp_put (fun a0 a' w' => ∃ gn, a' = (((((((((((a0.put (some 72) (.agg #[.int .u64 (vw (gw S 0)), .int .u64 (vw (gw S 1)), .int .u64 (vw (gw S 2)), .int .u64 (vw (gw S 3))])).put (some 73) (.slice (some adp) l.length cp)).put (some 74) (.int .i64 (i : Nat))).put (some 75) (.pointer (some (adp.add (i * 4))))).put (some 76) (.agg #[.int .u64 (vw (gw N 0)), .int .u64 (vw (gw N 1)), .int .u64 (vw (gw N 2)), .int .u64 (vw (gw N 3))])).put (some 77) (.tuple #[.agg (ws La), .bool false])).put (some 71) (.tuple #[.agg (ws La), .bool false])).put (some 78) (.agg (ws La))).put (some 79) (.bool false)).put (some 15) (.pointer (some ⟨gn, 0, none⟩))).put (some 16) (.bool false)) ∧ Below wr.heap.size wr w' ∧ wr.heap.size ≤ gn ∧ Holds w' gn 24 La) ?hreg ?hnext
            case hreg =>
              refine wp_region_held_drew (S := fun X => Below wr.heap.size wr X) (by kernel_rfl) (below_drew1 (Below.refl _ _)) (fun hHeld => ?_)
              generalize wr.drew = W0 at *
              try simp only [Act.put, List.getElem_toArray, List.getElem_cons_zero, List.getElem_cons_succ, List.setIfInBounds_toArray, List.set_cons_zero, List.set_cons_succ]
              refine wpAnyH_take (i := 0) (v := .agg #[.int .u64 (vw (gw S 0)), .int .u64 (vw (gw S 1)), .int .u64 (vw (gw S 2)), .int .u64 (vw (gw S 3))]) rfl (by kernel_rfl) (by kernel_rfl) (by kernel_rfl) (fun _ _ _ h => absurd h.1 (by simp)) (yieldsIf_load_mid rfl 24 _ rfl g11 0 rfl [.int .u64 (vw (gw S 0)), .int .u64 (vw (gw S 1)), .int .u64 (vw (gw S 2)), .int .u64 (vw (gw S 3))] _ (fun X' hS => by rw [← wl_four S HSS.out]; exact range_of (Holds.below H11.out hS)) Try.underlying24 rfl (by rw [Hi24.out]; rfl)) hHeld ?_
              try simp only [Act.put, List.getElem_toArray, List.getElem_cons_zero, List.getElem_cons_succ, List.setIfInBounds_toArray, List.set_cons_zero, List.set_cons_succ]
              refine wpAnyH_take (i := 1) (v := .slice (some adp) l.length cp) rfl (by kernel_rfl) (by kernel_rfl) (by kernel_rfl) (fun _ _ _ h => absurd h.1 (by simp)) (.inl ⟨by rfl, fun _ _ => by go_simp⟩) hHeld ?_
              try simp only [Act.put, List.getElem_toArray, List.getElem_cons_zero, List.getElem_cons_succ, List.setIfInBounds_toArray, List.set_cons_zero, List.set_cons_succ]
              refine wpAnyH_take (i := 2) (v := .int .i64 (i : Nat)) rfl (by kernel_rfl) (by kernel_rfl) (by kernel_rfl) (fun _ _ _ h => absurd h.1 (by simp)) (.inl ⟨by rfl, fun _ _ => by go_simp⟩) hHeld ?_
              try simp only [Act.put, List.getElem_toArray, List.getElem_cons_zero, List.getElem_cons_succ, List.setIfInBounds_toArray, List.set_cons_zero, List.set_cons_succ]
              refine wpAnyH_take (i := 3) (v := .pointer (some (adp.add (i * 4)))) rfl (by kernel_rfl) (by kernel_rfl) (by kernel_rfl) (fun _ _ _ h => absurd h.1 (by simp)) (.inl ⟨by rfl, fun _ _ => by go_simp⟩) hHeld ?_
              try simp only [Act.put, List.getElem_toArray, List.getElem_cons_zero, List.getElem_cons_succ, List.setIfInBounds_toArray, List.set_cons_zero, List.set_cons_succ]
              refine wpAnyH_take (i := 4) (v := .agg #[.int .u64 (vw (gw N 0)), .int .u64 (vw (gw N 1)), .int .u64 (vw (gw N 2)), .int .u64 (vw (gw N 3))]) rfl (by kernel_rfl) (by kernel_rfl) (by kernel_rfl) (fun _ _ _ h => absurd h.1 (by simp)) (.inl ⟨by rfl, fun X' hS => by obtain ⟨b0, b1, b2, b3⟩ := cellsP (HP.out _ (HQ.out _ hS)) i hi HPX.out; go_simp⟩) hHeld ?_
              try simp only [Act.put, List.getElem_toArray, List.getElem_cons_zero, List.getElem_cons_succ, List.setIfInBounds_toArray, List.set_cons_zero, List.set_cons_succ]
              refine wpAnyH_ready (rs := [5, 9]) (by kernel_rfl) (by simp) ?_
              refine AllReadyH.cons rfl (fun K hK => ?_) ?_
              · go_simp
                refine (HSB1.out _).mono ?_
                rintro e X1 ⟨rfl, hb⟩
                refine hK.out _ _ (below_step hHeld hb) (fun hHeld => ?_)
                clear hb hK K
                try simp only [Act.put, List.getElem_toArray, List.getElem_cons_zero, List.getElem_cons_succ, List.setIfInBounds_toArray, List.set_cons_zero, List.set_cons_succ]
                refine wpAnyH_take (i := 6) (v := .tuple #[.agg (ws La), .bool false]) rfl (by kernel_rfl) (by kernel_rfl) (by kernel_rfl) (fun _ _ _ h => absurd h.1 (by simp)) (.inl ⟨by rfl, fun _ _ => by go_simp⟩) hHeld ?_
                try simp only [Act.put, List.getElem_toArray, List.getElem_cons_zero, List.getElem_cons_succ, List.setIfInBounds_toArray, List.set_cons_zero, List.set_cons_succ]
                refine wpAnyH_take (i := 7) (v := .agg (ws La)) rfl (by kernel_rfl) (by kernel_rfl) (by kernel_rfl) (fun _ _ _ h => absurd h.1 (by simp)) (.inl ⟨by rfl, fun _ _ => by go_simp⟩) hHeld ?_
                try simp only [Act.put, List.getElem_toArray, List.getElem_cons_zero, List.getElem_cons_succ, List.setIfInBounds_toArray, List.set_cons_zero, List.set_cons_succ]
                refine wpAnyH_take (i := 8) (v := .bool false) rfl (by kernel_rfl) (by kernel_rfl) (by kernel_rfl) (fun _ _ _ h => absurd h.1 (by simp)) (.inl ⟨by rfl, fun _ _ => by go_simp⟩) hHeld ?_
                try simp only [Act.put, List.getElem_toArray, List.getElem_cons_zero, List.getElem_cons_succ, List.setIfInBounds_toArray, List.set_cons_zero, List.set_cons_succ]
                refine wpAnyH_ready (rs := [9]) (by kernel_rfl) (by simp) ?_
                refine AllReadyH.cons rfl (fun K hK => ?_) AllReadyH.nil
                go_simp
                have hb := below_alloc (Below.refl X1.heap.size X1) (.cells #[Value.int .u64 0, .int .u64 0, .int .u64 0, .int .u64 0] 24)
                have H14 := Aside0.mk (And.intro (show Holds (X1.alloc (.cells #[Value.int .u64 0, .int .u64 0, .int .u64 0, .int .u64 0] 24)) X1.heap.size 24 (List.replicate 4 0) from blk_new X1 _) hHeld.size)
                refine hK.out _ _ (below_step hHeld hb) (fun hHeld => ?_)
                clear hb hK K
                generalize X1.alloc _ = X2 at *
                generalize X1.heap.size = g14 at *
                try simp only [Act.put, List.getElem_toArray, List.getElem_cons_zero, List.getElem_cons_succ, List.setIfInBounds_toArray, List.set_cons_zero, List.set_cons_succ]
                have hx := H14.out.1
                have z0 := hx.cell 0 (by simp)
                have y0 := hx.free 0
                have z1 := hx.cell 1 (by simp)
                have y1 := hx.free 1
                have z2 := hx.cell 2 (by simp)
                have y2 := hx.free 2
                have z3 := hx.cell 3 (by simp)
                have y3 := hx.free 3
                clear hx
                have hwf := ws_four La HSLLa.out
                refine wpAnyH_ready (rs := [10]) (by kernel_rfl) (by simp) ?_
                refine AllReadyH.cons rfl (fun K hK => ?_) AllReadyH.nil
                go_simp
                have n14 := H14.out.2
                refine hK.out _ _ (below_set (below_set (below_set (below_set hHeld n14) n14) n14) n14) (fun hHeld => ?_)
                clear hK K z0 z1 z2 z3 y0 y1 y2 y3 hwf
                have H14' := Aside0.mk (set_four (L := List.replicate 4 0) (H := La) rfl HSLLa.out H14.out.1)
                try simp only [Act.put, List.getElem_toArray, List.getElem_cons_zero, List.getElem_cons_succ, List.setIfInBounds_toArray, List.set_cons_zero, List.set_cons_succ]
                refine wpAnyH_take (i := 11) (v := .bool false) rfl (by kernel_rfl) (by kernel_rfl) (by kernel_rfl) (fun _ _ _ h => absurd h.1 (by simp)) (.inl ⟨by rfl, fun _ _ => by go_simp⟩) hHeld ?_
                try simp only [Act.put, List.getElem_toArray, List.getElem_cons_zero, List.getElem_cons_succ, List.setIfInBounds_toArray, List.set_cons_zero, List.set_cons_succ]
                refine wpAnyH_done (by kernel_rfl) ?_ _
                refine ⟨rfl, g14, ?_, hHeld, n14, H14'.out⟩
                rw [ws_four La HSLLa.out]
                try rfl
              refine AllReadyH.cons rfl (fun K hK => ?_) AllReadyH.nil
              go_simp
              have hb := below_alloc (Below.refl W0.heap.size W0) (.cells #[Value.int .u64 0, .int .u64 0, .int .u64 0, .int .u64 0] 24)
              have H14 := Aside0.mk (And.intro (show Holds (W0.alloc (.cells #[Value.int .u64 0, .int .u64 0, .int .u64 0, .int .u64 0] 24)) W0.heap.size 24 (List.replicate 4 0) from blk_new W0 _) hHeld.size)
              refine hK.out _ _ (below_step hHeld hb) (fun hHeld => ?_)
              clear hb hK K
              generalize W0.alloc _ = X3 at *
              generalize W0.heap.size = g14 at *
              try simp only [Act.put, List.getElem_toArray, List.getElem_cons_zero, List.getElem_cons_succ, List.setIfInBounds_toArray, List.set_cons_zero, List.set_cons_succ]
              refine wpAnyH_ready (rs := [5]) (by kernel_rfl) (by simp) ?_
              refine AllReadyH.cons rfl (fun K hK => ?_) AllReadyH.nil
              go_simp
              refine (HSB1.out _).mono ?_
              rintro e X4 ⟨rfl, hb⟩
              replace H14 := Aside0.mk (And.intro (Holds.below H14.out.1 hb) H14.out.2)
              refine hK.out _ _ (below_step hHeld hb) (fun hHeld => ?_)
              clear hb hK K
              try simp only [Act.put, List.getElem_toArray, List.getElem_cons_zero, List.getElem_cons_succ, List.setIfInBounds_toArray, List.set_cons_zero, List.set_cons_succ]
              refine wpAnyH_take (i := 6) (v := .tuple #[.agg (ws La), .bool false]) rfl (by kernel_rfl) (by kernel_rfl) (by kernel_rfl) (fun _ _ _ h => absurd h.1 (by simp)) (.inl ⟨by rfl, fun _ _ => by go_simp⟩) hHeld ?_
              try simp only [Act.put, List.getElem_toArray, List.getElem_cons_zero, List.getElem_cons_succ, List.setIfInBounds_toArray, List.set_cons_zero, List.set_cons_succ]
              refine wpAnyH_take (i := 7) (v := .agg (ws La)) rfl (by kernel_rfl) (by kernel_rfl) (by kernel_rfl) (fun _ _ _ h => absurd h.1 (by simp)) (.inl ⟨by rfl, fun _ _ => by go_simp⟩) hHeld ?_
              try simp only [Act.put, List.getElem_toArray, List.getElem_cons_zero, List.getElem_cons_succ, List.setIfInBounds_toArray, List.set_cons_zero, List.set_cons_succ]
              refine wpAnyH_take (i := 8) (v := .bool false) rfl (by kernel_rfl) (by kernel_rfl) (by kernel_rfl) (fun _ _ _ h => absurd h.1 (by simp)) (.inl ⟨by rfl, fun _ _ => by go_simp⟩) hHeld ?_
              try simp only [Act.put, List.getElem_toArray, List.getElem_cons_zero, List.getElem_cons_succ, List.setIfInBounds_toArray, List.set_cons_zero, List.set_cons_succ]
              have hx := H14.out.1
              have z0 := hx.cell 0 (by simp)
              have y0 := hx.free 0
              have z1 := hx.cell 1 (by simp)
              have y1 := hx.free 1
              have z2 := hx.cell 2 (by simp)
              have y2 := hx.free 2
              have z3 := hx.cell 3 (by simp)
              have y3 := hx.free 3
              clear hx
              have hwf := ws_four La HSLLa.out
              refine wpAnyH_ready (rs := [10]) (by kernel_rfl) (by simp) ?_
              refine AllReadyH.cons rfl (fun K hK => ?_) AllReadyH.nil
              go_simp
              have n14 := H14.out.2
              refine hK.out _ _ (below_set (below_set (below_set (below_set hHeld n14) n14) n14) n14) (fun hHeld => ?_)
              clear hK K z0 z1 z2 z3 y0 y1 y2 y3 hwf
              have H14' := Aside0.mk (set_four (L := List.replicate 4 0) (H := La) rfl HSLLa.out H14.out.1)
              try simp only [Act.put, List.getElem_toArray, List.getElem_cons_zero, List.getElem_cons_succ, List.setIfInBounds_toArray, List.set_cons_zero, List.set_cons_succ]
              refine wpAnyH_take (i := 11) (v := .bool false) rfl (by kernel_rfl) (by kernel_rfl) (by kernel_rfl) (fun _ _ _ h => absurd h.1 (by simp)) (.inl ⟨by rfl, fun _ _ => by go_simp⟩) hHeld ?_
              try simp only [Act.put, List.getElem_toArray, List.getElem_cons_zero, List.getElem_cons_succ, List.setIfInBounds_toArray, List.set_cons_zero, List.set_cons_succ]
              refine wpAnyH_done (by kernel_rfl) ?_ _
              refine ⟨rfl, g14, ?_, hHeld, n14, H14'.out⟩
              rw [ws_four La HSLLa.out]
              try rfl
            case hnext =>
              rintro _ w4 ⟨g15, rfl, hb4, n15, h15⟩
              try simp only [Act.put, List.getElem_toArray, List.getElem_cons_zero, List.getElem_cons_succ, List.setIfInBounds_toArray, List.set_cons_zero, List.set_cons_succ]
              have HW4 := Aside0.mk (below_step HWr.out hb4)
              have H114 := Aside0.mk (Holds.below H11.out hb4)
              have H124 := Aside0.mk (Holds.below H12.out hb4)
              have H154 := Aside0.mk h15
              have HG15 := Aside0.mk (show g15 ≠ g11 from fun e => by have := H11.out.lt; omega)
              clear HQ HWr H11 H12 hb4 n15 h15
              have HQ := Aside0.mk (fun X (hX : Below w4.heap.size w4 X) => below_step HW4.out hX)
              go_wp2_with fail
              refine wp_put (fun a0 a' w' => ∃ gn, a' = (((((((((((((((a0.put (some 81) (.slice (some ado) l.length co)).put (some 82) (.int .i64 (i : Nat))).put (some 83) (.pointer (some (ado.add (i * 8))))).put (some 84) (.pointer (some ⟨(ado.add (i * 8)).block, (ado.add (i * 8)).off + 1, none⟩))).put (some 85) (.agg #[.int .u64 (vw (gw (am (at40 (outA H l W) i)) 0)), .int .u64 (vw (gw (am (at40 (outA H l W) i)) 1)), .int .u64 (vw (gw (am (at40 (outA H l W) i)) 2)), .int .u64 (vw (gw (am (at40 (outA H l W) i)) 3))])).put (some 86) (.slice (some adp) l.length cp)).put (some 87) (.int .i64 (i : Nat))).put (some 88) (.pointer (some (adp.add (i * 4))))).put (some 89) (.agg #[.int .u64 (vw (gw N 0)), .int .u64 (vw (gw N 1)), .int .u64 (vw (gw N 2)), .int .u64 (vw (gw N 3))])).put (some 90) (.tuple #[.agg (ws M), .bool false])).put (some 80) (.tuple #[.agg (ws M), .bool false])).put (some 91) (.agg (ws M))).put (some 92) (.bool false)).put (some 17) (.pointer (some ⟨gn, 0, none⟩))).put (some 18) (.bool false)) ∧ Below w4.heap.size w4 w' ∧ w4.heap.size ≤ gn ∧ Holds w' gn 24 M) ?hreg ?hnext
              case hreg =>
                refine wp_region_held_drew (S := fun X => Below w4.heap.size w4 X) (by kernel_rfl) (below_drew1 (Below.refl _ _)) (fun hHeld => ?_)
                generalize w4.drew = W0 at *
                try simp only [Act.put, List.getElem_toArray, List.getElem_cons_zero, List.getElem_cons_succ, List.setIfInBounds_toArray, List.set_cons_zero, List.set_cons_succ]
                refine wpAnyH_take (i := 0) (v := .slice (some ado) l.length co) rfl (by kernel_rfl) (by kernel_rfl) (by kernel_rfl) (fun _ _ _ h => absurd h.1 (by simp)) (.inl ⟨by rfl, fun _ _ => by go_simp⟩) hHeld ?_
                try simp only [Act.put, List.getElem_toArray, List.getElem_cons_zero, List.getElem_cons_succ, List.setIfInBounds_toArray, List.set_cons_zero, List.set_cons_succ]
                refine wpAnyH_take (i := 1) (v := .int .i64 (i : Nat)) rfl (by kernel_rfl) (by kernel_rfl) (by kernel_rfl) (fun _ _ _ h => absurd h.1 (by simp)) (.inl ⟨by rfl, fun _ _ => by go_simp⟩) hHeld ?_
                try simp only [Act.put, List.getElem_toArray, List.getElem_cons_zero, List.getElem_cons_succ, List.setIfInBounds_toArray, List.set_cons_zero, List.set_cons_succ]
                refine wpAnyH_take (i := 2) (v := .pointer (some (ado.add (i * 8)))) rfl (by kernel_rfl) (by kernel_rfl) (by kernel_rfl) (fun _ _ _ h => absurd h.1 (by simp)) (.inl ⟨by rfl, fun _ _ => by go_simp⟩) hHeld ?_
                try simp only [Act.put, List.getElem_toArray, List.getElem_cons_zero, List.getElem_cons_succ, List.setIfInBounds_toArray, List.set_cons_zero, List.set_cons_succ]
                refine wpAnyH_take (i := 3) (v := .pointer (some ⟨(ado.add (i * 8)).block, (ado.add (i * 8)).off + 1, none⟩)) rfl (by kernel_rfl) (by kernel_rfl) (by kernel_rfl) (fun _ _ _ h => absurd h.1 (by simp)) (.inl ⟨by rfl, fun _ _ => by go_simp⟩) hHeld ?_
                try simp only [Act.put, List.getElem_toArray, List.getElem_cons_zero, List.getElem_cons_succ, List.setIfInBounds_toArray, List.set_cons_zero, List.set_cons_succ]
                refine wpAnyH_take (i := 4) (v := .agg #[.int .u64 (vw (gw (am (at40 (outA H l W) i)) 0)), .int .u64 (vw (gw (am (at40 (outA H l W) i)) 1)), .int .u64 (vw (gw (am (at40 (outA H l W) i)) 2)), .int .u64 (vw (gw (am (at40 (outA H l W) i)) 3))]) rfl (by kernel_rfl) (by kernel_rfl) (by kernel_rfl) (fun _ _ _ h => absurd h.1 (by simp)) (.inl ⟨by rfl, fun X' hS => by obtain ⟨b0, b1, b2, b3⟩ := cellsAm (outA_ok H l W) HOL.out (HO.out _ (HQ.out _ hS)) i hi; go_simp⟩) hHeld ?_
                try simp only [Act.put, List.getElem_toArray, List.getElem_cons_zero, List.getElem_cons_succ, List.setIfInBounds_toArray, List.set_cons_zero, List.set_cons_succ]
                refine wpAnyH_take (i := 5) (v := .slice (some adp) l.length cp) rfl (by kernel_rfl) (by kernel_rfl) (by kernel_rfl) (fun _ _ _ h => absurd h.1 (by simp)) (.inl ⟨by rfl, fun _ _ => by go_simp⟩) hHeld ?_
                try simp only [Act.put, List.getElem_toArray, List.getElem_cons_zero, List.getElem_cons_succ, List.setIfInBounds_toArray, List.set_cons_zero, List.set_cons_succ]
                refine wpAnyH_take (i := 6) (v := .int .i64 (i : Nat)) rfl (by kernel_rfl) (by kernel_rfl) (by kernel_rfl) (fun _ _ _ h => absurd h.1 (by simp)) (.inl ⟨by rfl, fun _ _ => by go_simp⟩) hHeld ?_
                try simp only [Act.put, List.getElem_toArray, List.getElem_cons_zero, List.getElem_cons_succ, List.setIfInBounds_toArray, List.set_cons_zero, List.set_cons_succ]
                refine wpAnyH_take (i := 7) (v := .pointer (some (adp.add (i * 4)))) rfl (by kernel_rfl) (by kernel_rfl) (by kernel_rfl) (fun _ _ _ h => absurd h.1 (by simp)) (.inl ⟨by rfl, fun _ _ => by go_simp⟩) hHeld ?_
                try simp only [Act.put, List.getElem_toArray, List.getElem_cons_zero, List.getElem_cons_succ, List.setIfInBounds_toArray, List.set_cons_zero, List.set_cons_succ]
                refine wpAnyH_take (i := 8) (v := .agg #[.int .u64 (vw (gw N 0)), .int .u64 (vw (gw N 1)), .int .u64 (vw (gw N 2)), .int .u64 (vw (gw N 3))]) rfl (by kernel_rfl) (by kernel_rfl) (by kernel_rfl) (fun _ _ _ h => absurd h.1 (by simp)) (.inl ⟨by rfl, fun X' hS => by obtain ⟨b0, b1, b2, b3⟩ := cellsP (HP.out _ (HQ.out _ hS)) i hi HPX.out; go_simp⟩) hHeld ?_
                try simp only [Act.put, List.getElem_toArray, List.getElem_cons_zero, List.getElem_cons_succ, List.setIfInBounds_toArray, List.set_cons_zero, List.set_cons_succ]
                refine wpAnyH_ready (rs := [9, 13]) (by kernel_rfl) (by simp) ?_
                refine AllReadyH.cons rfl (fun K hK => ?_) ?_
                · go_simp
                  refine (HSB2.out _).mono ?_
                  rintro e X5 ⟨rfl, hb⟩
                  refine hK.out _ _ (below_step hHeld hb) (fun hHeld => ?_)
                  clear hb hK K
                  try simp only [Act.put, List.getElem_toArray, List.getElem_cons_zero, List.getElem_cons_succ, List.setIfInBounds_toArray, List.set_cons_zero, List.set_cons_succ]
                  refine wpAnyH_take (i := 10) (v := .tuple #[.agg (ws M), .bool false]) rfl (by kernel_rfl) (by kernel_rfl) (by kernel_rfl) (fun _ _ _ h => absurd h.1 (by simp)) (.inl ⟨by rfl, fun _ _ => by go_simp⟩) hHeld ?_
                  try simp only [Act.put, List.getElem_toArray, List.getElem_cons_zero, List.getElem_cons_succ, List.setIfInBounds_toArray, List.set_cons_zero, List.set_cons_succ]
                  refine wpAnyH_take (i := 11) (v := .agg (ws M)) rfl (by kernel_rfl) (by kernel_rfl) (by kernel_rfl) (fun _ _ _ h => absurd h.1 (by simp)) (.inl ⟨by rfl, fun _ _ => by go_simp⟩) hHeld ?_
                  try simp only [Act.put, List.getElem_toArray, List.getElem_cons_zero, List.getElem_cons_succ, List.setIfInBounds_toArray, List.set_cons_zero, List.set_cons_succ]
                  refine wpAnyH_take (i := 12) (v := .bool false) rfl (by kernel_rfl) (by kernel_rfl) (by kernel_rfl) (fun _ _ _ h => absurd h.1 (by simp)) (.inl ⟨by rfl, fun _ _ => by go_simp⟩) hHeld ?_
                  try simp only [Act.put, List.getElem_toArray, List.getElem_cons_zero, List.getElem_cons_succ, List.setIfInBounds_toArray, List.set_cons_zero, List.set_cons_succ]
                  refine wpAnyH_ready (rs := [13]) (by kernel_rfl) (by simp) ?_
                  refine AllReadyH.cons rfl (fun K hK => ?_) AllReadyH.nil
                  go_simp
                  have hb := below_alloc (Below.refl X5.heap.size X5) (.cells #[Value.int .u64 0, .int .u64 0, .int .u64 0, .int .u64 0] 24)
                  have H14 := Aside0.mk (And.intro (show Holds (X5.alloc (.cells #[Value.int .u64 0, .int .u64 0, .int .u64 0, .int .u64 0] 24)) X5.heap.size 24 (List.replicate 4 0) from blk_new X5 _) hHeld.size)
                  refine hK.out _ _ (below_step hHeld hb) (fun hHeld => ?_)
                  clear hb hK K
                  generalize X5.alloc _ = X6 at *
                  generalize X5.heap.size = g14 at *
                  try simp only [Act.put, List.getElem_toArray, List.getElem_cons_zero, List.getElem_cons_succ, List.setIfInBounds_toArray, List.set_cons_zero, List.set_cons_succ]
                  have hx := H14.out.1
                  have z0 := hx.cell 0 (by simp)
                  have y0 := hx.free 0
                  have z1 := hx.cell 1 (by simp)
                  have y1 := hx.free 1
                  have z2 := hx.cell 2 (by simp)
                  have y2 := hx.free 2
                  have z3 := hx.cell 3 (by simp)
                  have y3 := hx.free 3
                  clear hx
                  have hwf := ws_four M HSLM.out
                  refine wpAnyH_ready (rs := [14]) (by kernel_rfl) (by simp) ?_
                  refine AllReadyH.cons rfl (fun K hK => ?_) AllReadyH.nil
                  go_simp
                  have n14 := H14.out.2
                  refine hK.out _ _ (below_set (below_set (below_set (below_set hHeld n14) n14) n14) n14) (fun hHeld => ?_)
                  clear hK K z0 z1 z2 z3 y0 y1 y2 y3 hwf
                  have H14' := Aside0.mk (set_four (L := List.replicate 4 0) (H := M) rfl HSLM.out H14.out.1)
                  try simp only [Act.put, List.getElem_toArray, List.getElem_cons_zero, List.getElem_cons_succ, List.setIfInBounds_toArray, List.set_cons_zero, List.set_cons_succ]
                  refine wpAnyH_take (i := 15) (v := .bool false) rfl (by kernel_rfl) (by kernel_rfl) (by kernel_rfl) (fun _ _ _ h => absurd h.1 (by simp)) (.inl ⟨by rfl, fun _ _ => by go_simp⟩) hHeld ?_
                  try simp only [Act.put, List.getElem_toArray, List.getElem_cons_zero, List.getElem_cons_succ, List.setIfInBounds_toArray, List.set_cons_zero, List.set_cons_succ]
                  refine wpAnyH_done (by kernel_rfl) ?_ _
                  refine ⟨rfl, g14, ?_, hHeld, n14, H14'.out⟩
                  rw [ws_four M HSLM.out]
                  try rfl
                refine AllReadyH.cons rfl (fun K hK => ?_) AllReadyH.nil
                go_simp
                have hb := below_alloc (Below.refl W0.heap.size W0) (.cells #[Value.int .u64 0, .int .u64 0, .int .u64 0, .int .u64 0] 24)
                have H14 := Aside0.mk (And.intro (show Holds (W0.alloc (.cells #[Value.int .u64 0, .int .u64 0, .int .u64 0, .int .u64 0] 24)) W0.heap.size 24 (List.replicate 4 0) from blk_new W0 _) hHeld.size)
                refine hK.out _ _ (below_step hHeld hb) (fun hHeld => ?_)
                clear hb hK K
                generalize W0.alloc _ = X7 at *
                generalize W0.heap.size = g14 at *
                try simp only [Act.put, List.getElem_toArray, List.getElem_cons_zero, List.getElem_cons_succ, List.setIfInBounds_toArray, List.set_cons_zero, List.set_cons_succ]
                refine wpAnyH_ready (rs := [9]) (by kernel_rfl) (by simp) ?_
                refine AllReadyH.cons rfl (fun K hK => ?_) AllReadyH.nil
                go_simp
                refine (HSB2.out _).mono ?_
                rintro e X8 ⟨rfl, hb⟩
                replace H14 := Aside0.mk (And.intro (Holds.below H14.out.1 hb) H14.out.2)
                refine hK.out _ _ (below_step hHeld hb) (fun hHeld => ?_)
                clear hb hK K
                try simp only [Act.put, List.getElem_toArray, List.getElem_cons_zero, List.getElem_cons_succ, List.setIfInBounds_toArray, List.set_cons_zero, List.set_cons_succ]
                refine wpAnyH_take (i := 10) (v := .tuple #[.agg (ws M), .bool false]) rfl (by kernel_rfl) (by kernel_rfl) (by kernel_rfl) (fun _ _ _ h => absurd h.1 (by simp)) (.inl ⟨by rfl, fun _ _ => by go_simp⟩) hHeld ?_
                try simp only [Act.put, List.getElem_toArray, List.getElem_cons_zero, List.getElem_cons_succ, List.setIfInBounds_toArray, List.set_cons_zero, List.set_cons_succ]
                refine wpAnyH_take (i := 11) (v := .agg (ws M)) rfl (by kernel_rfl) (by kernel_rfl) (by kernel_rfl) (fun _ _ _ h => absurd h.1 (by simp)) (.inl ⟨by rfl, fun _ _ => by go_simp⟩) hHeld ?_
                try simp only [Act.put, List.getElem_toArray, List.getElem_cons_zero, List.getElem_cons_succ, List.setIfInBounds_toArray, List.set_cons_zero, List.set_cons_succ]
                refine wpAnyH_take (i := 12) (v := .bool false) rfl (by kernel_rfl) (by kernel_rfl) (by kernel_rfl) (fun _ _ _ h => absurd h.1 (by simp)) (.inl ⟨by rfl, fun _ _ => by go_simp⟩) hHeld ?_
                try simp only [Act.put, List.getElem_toArray, List.getElem_cons_zero, List.getElem_cons_succ, List.setIfInBounds_toArray, List.set_cons_zero, List.set_cons_succ]
                have hx := H14.out.1
                have z0 := hx.cell 0 (by simp)
                have y0 := hx.free 0
                have z1 := hx.cell 1 (by simp)
                have y1 := hx.free 1
                have z2 := hx.cell 2 (by simp)
                have y2 := hx.free 2
                have z3 := hx.cell 3 (by simp)
                have y3 := hx.free 3
                clear hx
                have hwf := ws_four M HSLM.out
                refine wpAnyH_ready (rs := [14]) (by kernel_rfl) (by simp) ?_
                refine AllReadyH.cons rfl (fun K hK => ?_) AllReadyH.nil
                go_simp
                have n14 := H14.out.2
                refine hK.out _ _ (below_set (below_set (below_set (below_set hHeld n14) n14) n14) n14) (fun hHeld => ?_)
                clear hK K z0 z1 z2 z3 y0 y1 y2 y3 hwf
                have H14' := Aside0.mk (set_four (L := List.replicate 4 0) (H := M) rfl HSLM.out H14.out.1)
                try simp only [Act.put, List.getElem_toArray, List.getElem_cons_zero, List.getElem_cons_succ, List.setIfInBounds_toArray, List.set_cons_zero, List.set_cons_succ]
                refine wpAnyH_take (i := 15) (v := .bool false) rfl (by kernel_rfl) (by kernel_rfl) (by kernel_rfl) (fun _ _ _ h => absurd h.1 (by simp)) (.inl ⟨by rfl, fun _ _ => by go_simp⟩) hHeld ?_
                try simp only [Act.put, List.getElem_toArray, List.getElem_cons_zero, List.getElem_cons_succ, List.setIfInBounds_toArray, List.set_cons_zero, List.set_cons_succ]
                refine wpAnyH_done (by kernel_rfl) ?_ _
                refine ⟨rfl, g14, ?_, hHeld, n14, H14'.out⟩
                rw [ws_four M HSLM.out]
                try rfl
              case hnext =>
                rintro _ w5 ⟨g17, rfl, hb5, n17, h17⟩
                try simp only [Act.put, List.getElem_toArray, List.getElem_cons_zero, List.getElem_cons_succ, List.setIfInBounds_toArray, List.set_cons_zero, List.set_cons_succ]
                have HW5 := Aside0.mk (below_step HW4.out hb5)
                have H115 := Aside0.mk (Holds.below H114.out hb5)
                have H125 := Aside0.mk (Holds.below H124.out hb5)
                have H155 := Aside0.mk (Holds.below H154.out hb5)
                have H17 := Aside0.mk h17
                clear HQ HW4 H114 H124 H154 hb5 n17 h17
                have HQ := Aside0.mk (fun X (hX : Below w5.heap.size w5 X) => below_step HW5.out hX)
                go_wp2_with fail
                have HPZ := Aside0.mk (HPX.out.trans (by rw [HK3.out hs]))
                refine wp_put (fun a0 a' w' => a' = ((((((((((((((((((((((((a0.put (some 93) (.bool false)).put (some 94) (.bool false)).put (some 95) (.bool false)).put (some 96) (.bool false)).put (some 97) (.bool false)).put (some 98) (.agg #[.int .u64 (vw (gw M 0)), .int .u64 (vw (gw M 1)), .int .u64 (vw (gw M 2)), .int .u64 (vw (gw M 3))])).put (some 99) (.slice (some ad) l.length c)).put (some 100) (.int .i64 (i : Nat))).put (some 101) (.pointer (some (ad.add (i * 8))))).put (some 102) (.pointer (some ⟨(ad.add (i * 8)).block, (ad.add (i * 8)).off + 1, none⟩))).put (some 103) (.agg #[.int .u64 (vw (gw M 0)), .int .u64 (vw (gw M 1)), .int .u64 (vw (gw M 2)), .int .u64 (vw (gw M 3))])).put (some 104) (.bool false)).put (some 105) (.bool false)).put (some 106) (.bool false)).put (some 107) (.bool true)).put (some 108) (.bool true)).put (some 109) (.slice (some adp) l.length cp)).put (some 110) (.int .i64 (i : Nat))).put (some 111) (.pointer (some (adp.add (i * 4))))).put (some 112) (.agg #[.int .u64 0, .int .u64 0, .int .u64 0, .int .u64 0])).put (some 113) (.agg #[.int .u64 0, .int .u64 0, .int .u64 0, .int .u64 0])).put (some 114) (.bool false)).put (some 115) (.bool false)).put (some 116) (.bool false)) ∧ Below w5.heap.size w5 w') ?hreg ?hnext
                case hreg =>
                  refine wp_region_held_drew (S := fun X => Below w5.heap.size w5 X) (by kernel_rfl) (below_drew1 (Below.refl _ _)) (fun hHeld => ?_)
                  generalize w5.drew = W0 at *
                  try simp only [Act.put, List.getElem_toArray, List.getElem_cons_zero, List.getElem_cons_succ, List.setIfInBounds_toArray, List.set_cons_zero, List.set_cons_succ]
                  refine wpAnyH_take (i := 0) (v := .bool false) rfl (by kernel_rfl) (by kernel_rfl) (by kernel_rfl) (fun _ _ _ h => absurd h.1 (by simp)) (.inl ⟨by rfl, fun _ _ => by go_simp⟩) hHeld ?_
                  try simp only [Act.put, List.getElem_toArray, List.getElem_cons_zero, List.getElem_cons_succ, List.setIfInBounds_toArray, List.set_cons_zero, List.set_cons_succ]
                  refine wpAnyH_take (i := 1) (v := .bool false) rfl (by kernel_rfl) (by kernel_rfl) (by kernel_rfl) (fun _ _ _ h => absurd h.1 (by simp)) (.inl ⟨by rfl, fun _ _ => by go_simp⟩) hHeld ?_
                  try simp only [Act.put, List.getElem_toArray, List.getElem_cons_zero, List.getElem_cons_succ, List.setIfInBounds_toArray, List.set_cons_zero, List.set_cons_succ]
                  refine wpAnyH_take (i := 2) (v := .bool false) rfl (by kernel_rfl) (by kernel_rfl) (by kernel_rfl) (fun _ _ _ h => absurd h.1 (by simp)) (.inl ⟨by rfl, fun _ _ => by go_simp⟩) hHeld ?_
                  try simp only [Act.put, List.getElem_toArray, List.getElem_cons_zero, List.getElem_cons_succ, List.setIfInBounds_toArray, List.set_cons_zero, List.set_cons_succ]
                  refine wpAnyH_take (i := 3) (v := .bool false) rfl (by kernel_rfl) (by kernel_rfl) (by kernel_rfl) (fun _ _ _ h => absurd h.1 (by simp)) (.inl ⟨by rfl, fun _ _ => by go_simp⟩) hHeld ?_
                  try simp only [Act.put, List.getElem_toArray, List.getElem_cons_zero, List.getElem_cons_succ, List.setIfInBounds_toArray, List.set_cons_zero, List.set_cons_succ]
                  refine wpAnyH_take (i := 4) (v := .bool false) rfl (by kernel_rfl) (by kernel_rfl) (by kernel_rfl) (fun _ _ _ h => absurd h.1 (by simp)) (.inl ⟨by rfl, fun _ _ => by go_simp⟩) hHeld ?_
                  try simp only [Act.put, List.getElem_toArray, List.getElem_cons_zero, List.getElem_cons_succ, List.setIfInBounds_toArray, List.set_cons_zero, List.set_cons_succ]
                  refine wpAnyH_take (i := 5) (v := .agg #[.int .u64 (vw (gw M 0)), .int .u64 (vw (gw M 1)), .int .u64 (vw (gw M 2)), .int .u64 (vw (gw M 3))]) rfl (by kernel_rfl) (by kernel_rfl) (by kernel_rfl) (fun _ _ _ h => absurd h.1 (by simp)) (yieldsIf_load_mid rfl 24 _ rfl g17 0 rfl [.int .u64 (vw (gw M 0)), .int .u64 (vw (gw M 1)), .int .u64 (vw (gw M 2)), .int .u64 (vw (gw M 3))] _ (fun X' hS => by rw [← wl_four M HSLM.out]; exact range_of (Holds.below H17.out hS)) Try.underlying24 rfl (by rw [Hi24.out]; rfl)) hHeld ?_
                  try simp only [Act.put, List.getElem_toArray, List.getElem_cons_zero, List.getElem_cons_succ, List.setIfInBounds_toArray, List.set_cons_zero, List.set_cons_succ]
                  refine wpAnyH_take (i := 6) (v := .slice (some ad) l.length c) rfl (by kernel_rfl) (by kernel_rfl) (by kernel_rfl) (fun _ _ _ h => absurd h.1 (by simp)) (.inl ⟨by rfl, fun _ _ => by go_simp⟩) hHeld ?_
                  try simp only [Act.put, List.getElem_toArray, List.getElem_cons_zero, List.getElem_cons_succ, List.setIfInBounds_toArray, List.set_cons_zero, List.set_cons_succ]
                  refine wpAnyH_take (i := 7) (v := .int .i64 (i : Nat)) rfl (by kernel_rfl) (by kernel_rfl) (by kernel_rfl) (fun _ _ _ h => absurd h.1 (by simp)) (.inl ⟨by rfl, fun _ _ => by go_simp⟩) hHeld ?_
                  try simp only [Act.put, List.getElem_toArray, List.getElem_cons_zero, List.getElem_cons_succ, List.setIfInBounds_toArray, List.set_cons_zero, List.set_cons_succ]
                  refine wpAnyH_take (i := 8) (v := .pointer (some (ad.add (i * 8)))) rfl (by kernel_rfl) (by kernel_rfl) (by kernel_rfl) (fun _ _ _ h => absurd h.1 (by simp)) (.inl ⟨by rfl, fun _ _ => by go_simp⟩) hHeld ?_
                  try simp only [Act.put, List.getElem_toArray, List.getElem_cons_zero, List.getElem_cons_succ, List.setIfInBounds_toArray, List.set_cons_zero, List.set_cons_succ]
                  refine wpAnyH_take (i := 9) (v := .pointer (some ⟨(ad.add (i * 8)).block, (ad.add (i * 8)).off + 1, none⟩)) rfl (by kernel_rfl) (by kernel_rfl) (by kernel_rfl) (fun _ _ _ h => absurd h.1 (by simp)) (.inl ⟨by rfl, fun _ _ => by go_simp⟩) hHeld ?_
                  try simp only [Act.put, List.getElem_toArray, List.getElem_cons_zero, List.getElem_cons_succ, List.setIfInBounds_toArray, List.set_cons_zero, List.set_cons_succ]
                  refine wpAnyH_take (i := 10) (v := .agg #[.int .u64 (vw (gw M 0)), .int .u64 (vw (gw M 1)), .int .u64 (vw (gw M 2)), .int .u64 (vw (gw M 3))]) rfl (by kernel_rfl) (by kernel_rfl) (by kernel_rfl) (fun _ _ _ h => absurd h.1 (by simp)) (.inl ⟨by rfl, fun X' hS => by have hh := cellsAm HL.out.2.1 rfl (HB.out _ (HQ.out _ hS)) i hi; rw [HME.out] at hh; obtain ⟨b0, b1, b2, b3⟩ := hh; go_simp⟩) hHeld ?_
                  try simp only [Act.put, List.getElem_toArray, List.getElem_cons_zero, List.getElem_cons_succ, List.setIfInBounds_toArray, List.set_cons_zero, List.set_cons_succ]
                  refine wpAnyH_take (i := 11) (v := .bool false) rfl (by kernel_rfl) (by kernel_rfl) (by kernel_rfl) (fun _ _ _ h => absurd h.1 (by simp)) (.inl ⟨by rfl, fun _ _ => by go_simp⟩) hHeld ?_
                  try simp only [Act.put, List.getElem_toArray, List.getElem_cons_zero, List.getElem_cons_succ, List.setIfInBounds_toArray, List.set_cons_zero, List.set_cons_succ]
                  refine wpAnyH_take (i := 12) (v := .bool false) rfl (by kernel_rfl) (by kernel_rfl) (by kernel_rfl) (fun _ _ _ h => absurd h.1 (by simp)) (.inl ⟨by rfl, fun _ _ => by go_simp⟩) hHeld ?_
                  try simp only [Act.put, List.getElem_toArray, List.getElem_cons_zero, List.getElem_cons_succ, List.setIfInBounds_toArray, List.set_cons_zero, List.set_cons_succ]
                  refine wpAnyH_take (i := 13) (v := .bool false) rfl (by kernel_rfl) (by kernel_rfl) (by kernel_rfl) (fun _ _ _ h => absurd h.1 (by simp)) (.inl ⟨by rfl, fun _ _ => by go_simp⟩) hHeld ?_
                  try simp only [Act.put, List.getElem_toArray, List.getElem_cons_zero, List.getElem_cons_succ, List.setIfInBounds_toArray, List.set_cons_zero, List.set_cons_succ]
                  refine wpAnyH_take (i := 14) (v := .bool true) rfl (by kernel_rfl) (by kernel_rfl) (by kernel_rfl) (fun _ _ _ h => absurd h.1 (by simp)) (.inl ⟨by rfl, fun _ _ => by go_simp⟩) hHeld ?_
                  try simp only [Act.put, List.getElem_toArray, List.getElem_cons_zero, List.getElem_cons_succ, List.setIfInBounds_toArray, List.set_cons_zero, List.set_cons_succ]
                  refine wpAnyH_take (i := 15) (v := .bool true) rfl (by kernel_rfl) (by kernel_rfl) (by kernel_rfl) (fun _ _ _ h => absurd h.1 (by simp)) (.inl ⟨by rfl, fun _ _ => by go_simp⟩) hHeld ?_
                  try simp only [Act.put, List.getElem_toArray, List.getElem_cons_zero, List.getElem_cons_succ, List.setIfInBounds_toArray, List.set_cons_zero, List.set_cons_succ]
                  refine wpAnyH_take (i := 16) (v := .slice (some adp) l.length cp) rfl (by kernel_rfl) (by kernel_rfl) (by kernel_rfl) (fun _ _ _ h => absurd h.1 (by simp)) (.inl ⟨by rfl, fun _ _ => by go_simp⟩) hHeld ?_
                  try simp only [Act.put, List.getElem_toArray, List.getElem_cons_zero, List.getElem_cons_succ, List.setIfInBounds_toArray, List.set_cons_zero, List.set_cons_succ]
                  refine wpAnyH_take (i := 17) (v := .int .i64 (i : Nat)) rfl (by kernel_rfl) (by kernel_rfl) (by kernel_rfl) (fun _ _ _ h => absurd h.1 (by simp)) (.inl ⟨by rfl, fun _ _ => by go_simp⟩) hHeld ?_
                  try simp only [Act.put, List.getElem_toArray, List.getElem_cons_zero, List.getElem_cons_succ, List.setIfInBounds_toArray, List.set_cons_zero, List.set_cons_succ]
                  refine wpAnyH_take (i := 18) (v := .pointer (some (adp.add (i * 4)))) rfl (by kernel_rfl) (by kernel_rfl) (by kernel_rfl) (fun _ _ _ h => absurd h.1 (by simp)) (.inl ⟨by rfl, fun _ _ => by go_simp⟩) hHeld ?_
                  try simp only [Act.put, List.getElem_toArray, List.getElem_cons_zero, List.getElem_cons_succ, List.setIfInBounds_toArray, List.set_cons_zero, List.set_cons_succ]
                  refine wpAnyH_take (i := 19) (v := .agg #[.int .u64 0, .int .u64 0, .int .u64 0, .int .u64 0]) rfl (by kernel_rfl) (by kernel_rfl) (by kernel_rfl) (fun _ _ _ h => absurd h.1 (by simp)) (.inl ⟨by rfl, fun X' hS => by obtain ⟨b0, b1, b2, b3⟩ := cellsZ (HP.out _ (HQ.out _ hS)) i hi HPZ.out; go_simp⟩) hHeld ?_
                  try simp only [Act.put, List.getElem_toArray, List.getElem_cons_zero, List.getElem_cons_succ, List.setIfInBounds_toArray, List.set_cons_zero, List.set_cons_succ]
                  refine wpAnyH_take (i := 20) (v := .agg #[.int .u64 0, .int .u64 0, .int .u64 0, .int .u64 0]) rfl (by kernel_rfl) (by kernel_rfl) (by kernel_rfl) (fun _ _ _ h => absurd h.1 (by simp)) (.inl ⟨by rfl, fun _ _ => by go_simp⟩) hHeld ?_
                  try simp only [Act.put, List.getElem_toArray, List.getElem_cons_zero, List.getElem_cons_succ, List.setIfInBounds_toArray, List.set_cons_zero, List.set_cons_succ]
                  refine wpAnyH_take (i := 21) (v := .bool false) rfl (by kernel_rfl) (by kernel_rfl) (by kernel_rfl) (fun _ _ _ h => absurd h.1 (by simp)) (.inl ⟨by rfl, fun _ _ => by go_simp⟩) hHeld ?_
                  try simp only [Act.put, List.getElem_toArray, List.getElem_cons_zero, List.getElem_cons_succ, List.setIfInBounds_toArray, List.set_cons_zero, List.set_cons_succ]
                  refine wpAnyH_take (i := 22) (v := .bool false) rfl (by kernel_rfl) (by kernel_rfl) (by kernel_rfl) (fun _ _ _ h => absurd h.1 (by simp)) (.inl ⟨by rfl, fun _ _ => by go_simp⟩) hHeld ?_
                  try simp only [Act.put, List.getElem_toArray, List.getElem_cons_zero, List.getElem_cons_succ, List.setIfInBounds_toArray, List.set_cons_zero, List.set_cons_succ]
                  refine wpAnyH_take (i := 23) (v := .bool false) rfl (by kernel_rfl) (by kernel_rfl) (by kernel_rfl) (fun _ _ _ h => absurd h.1 (by simp)) (.inl ⟨by rfl, fun _ _ => by go_simp⟩) hHeld ?_
                  try simp only [Act.put, List.getElem_toArray, List.getElem_cons_zero, List.getElem_cons_succ, List.setIfInBounds_toArray, List.set_cons_zero, List.set_cons_succ]
                  refine wpAnyH_done (by kernel_rfl) ?_ _
                  refine ⟨rfl, ?_, hHeld⟩
                  try rfl
                case hnext =>
                  rintro _ w6 ⟨rfl, hb6⟩
                  try simp only [Act.put, List.getElem_toArray, List.getElem_cons_zero, List.getElem_cons_succ, List.setIfInBounds_toArray, List.set_cons_zero, List.set_cons_succ]
                  have HW6 := Aside0.mk (below_step HW5.out hb6)
                  have H116 := Aside0.mk (Holds.below H115.out hb6)
                  have H126 := Aside0.mk (Holds.below H125.out hb6)
                  have H156 := Aside0.mk (Holds.below H155.out hb6)
                  clear HQ HW5 H115 H125 H155 hb6 H17
                  go_wp2_with (first | (refine load_ws rfl 24 _ rfl g15 rfl 24 La 4 _ H156.out HSLLa.out Try.underlying24 rfl Hi24.out ?_) | (refine store_ws rfl 24 _ _ rfl g11 rfl 24 S La 4 rfl H116.out HSS.out HSLLa.out Hi24.out ?_))
                  intro w7 h11 hbl hoth hsz
                  clear hsz
                  have HW7 := Aside0.mk (HW6.out.trans (hbl _ HG11.out))
                  have H117 := Aside0.mk h11
                  have H127 := Aside0.mk (hoth g12 24 Z HNE.out.symm H126.out)
                  clear h11 hbl hoth HW6 H116 H126 H156
                  have HSB3 := Aside0.mk (fun X => add_lit Z (am (at40 l i)) HSZ.out rfl X)
                  have HSLc := Aside0.mk (show (addk Z (am (at40 l i)) 4).1.length = 4 by rw [addk_len]; exact HSZ.out)
                  go_wp2_with fail
                  have HSH := Aside0.mk (keep4 H l hs)
                  have HV3 := Aside0.mk (fun h => absurd HSH.out h : ¬ val H < sumA l (i + 1) → val (addk Z (am (at40 l i)) 4).1 = sumA l (i + 1))
                  generalize addk Z (am (at40 l i)) 4 = Sc at *
                  obtain ⟨Lc, uc⟩ := Sc
                  simp only at HSB3 HSLc HV3
                  refine wp_put (fun a0 a' w' => a' = (((((((((((a0.put (some 119) (.agg #[.int .u64 (vw (gw Z 0)), .int .u64 (vw (gw Z 1)), .int .u64 (vw (gw Z 2)), .int .u64 (vw (gw Z 3))])).put (some 120) (.slice (some ad) l.length c)).put (some 121) (.int .i64 (i : Nat))).put (some 122) (.pointer (some (ad.add (i * 8))))).put (some 123) (.pointer (some ⟨(ad.add (i * 8)).block, (ad.add (i * 8)).off + 1, none⟩))).put (some 124) (.agg #[.int .u64 (vw (gw (am (at40 l i)) 0)), .int .u64 (vw (gw (am (at40 l i)) 1)), .int .u64 (vw (gw (am (at40 l i)) 2)), .int .u64 (vw (gw (am (at40 l i)) 3))])).put (some 125) (.tuple #[.agg (ws Lc), .bool (decide (uc > 0))])).put (some 118) (.tuple #[.agg (ws Lc), .bool (decide (uc > 0))])).put (some 126) (.agg (ws Lc))).put (some 127) (.bool (decide (uc > 0)))).put (some 19) (.bool (decide (uc > 0)))) ∧ Below w3.heap.size w3 w' ∧ Holds w' g11 24 La ∧ Holds w' g12 24 Lc) ?hreg ?hnext
                  case hreg =>
                    refine wp_region_held_drew (S := fun _ => True) (by kernel_rfl) trivial (fun _ => ?_)
                    have HWd := Aside0.mk (show Below w3.heap.size w3 w7.drew from below_drew1 HW7.out)
                    have H11d := Aside0.mk (show Holds w7.drew g11 24 La from H117.out)
                    have H12d := Aside0.mk (show Holds w7.drew g12 24 Z from H127.out)
                    generalize w7.drew = W0 at *
                    try simp only [Act.put, List.getElem_toArray, List.getElem_cons_zero, List.getElem_cons_succ, List.setIfInBounds_toArray, List.set_cons_zero, List.set_cons_succ]
                    refine wpAnyH_take (i := 1) (v := .slice (some ad) l.length c) rfl (by kernel_rfl) (by kernel_rfl) (by kernel_rfl) (fun _ _ _ h => absurd h.1 (by simp)) (.inl ⟨by rfl, fun _ _ => by go_simp⟩) trivial ?_
                    try simp only [Act.put, List.getElem_toArray, List.getElem_cons_zero, List.getElem_cons_succ, List.setIfInBounds_toArray, List.set_cons_zero, List.set_cons_succ]
                    refine wpAnyH_take (i := 2) (v := .int .i64 (i : Nat)) rfl (by kernel_rfl) (by kernel_rfl) (by kernel_rfl) (fun _ _ _ h => absurd h.1 (by simp)) (.inl ⟨by rfl, fun _ _ => by go_simp⟩) trivial ?_
                    try simp only [Act.put, List.getElem_toArray, List.getElem_cons_zero, List.getElem_cons_succ, List.setIfInBounds_toArray, List.set_cons_zero, List.set_cons_succ]
                    refine wpAnyH_take (i := 3) (v := .pointer (some (ad.add (i * 8)))) rfl (by kernel_rfl) (by kernel_rfl) (by kernel_rfl) (fun _ _ _ h => absurd h.1 (by simp)) (.inl ⟨by rfl, fun _ _ => by go_simp⟩) trivial ?_
                    try simp only [Act.put, List.getElem_toArray, List.getElem_cons_zero, List.getElem_cons_succ, List.setIfInBounds_toArray, List.set_cons_zero, List.set_cons_succ]
                    refine wpAnyH_take (i := 4) (v := .pointer (some ⟨(ad.add (i * 8)).block, (ad.add (i * 8)).off + 1, none⟩)) rfl (by kernel_rfl) (by kernel_rfl) (by kernel_rfl) (fun _ _ _ h => absurd h.1 (by simp)) (.inl ⟨by rfl, fun _ _ => by go_simp⟩) trivial ?_
                    try simp only [Act.put, List.getElem_toArray, List.getElem_cons_zero, List.getElem_cons_succ, List.setIfInBounds_toArray, List.set_cons_zero, List.set_cons_succ]
                    refine wpAnyH_ready (rs := [0, 5]) (by kernel_rfl) (by simp) ?_
                    refine AllReadyH.cons rfl (fun K hK => ?_) ?_
                    · obtain ⟨b0, b1, b2, b3⟩ : W0.cell? ⟨g12, 0, none⟩ = some (.int .u64 (vw (gw Z 0))) ∧ W0.cell? ⟨g12, 1, none⟩ = some (.int .u64 (vw (gw Z 1))) ∧ W0.cell? ⟨g12, 2, none⟩ = some (.int .u64 (vw (gw Z 2))) ∧ W0.cell? ⟨g12, 3, none⟩ = some (.int .u64 (vw (gw Z 3))) := ⟨H12d.out.cell 0 (by rw [HSZ.out]; omega), H12d.out.cell 1 (by rw [HSZ.out]; omega), H12d.out.cell 2 (by rw [HSZ.out]; omega), H12d.out.cell 3 (by rw [HSZ.out]; omega)⟩
                      go_simp
                      clear b0 b1 b2 b3
                      refine hK.out _ _ trivial (fun _ => ?_)
                      clear hK K
                      try simp only [Act.put, List.getElem_toArray, List.getElem_cons_zero, List.getElem_cons_succ, List.setIfInBounds_toArray, List.set_cons_zero, List.set_cons_succ]
                      refine wpAnyH_ready (rs := [5]) (by kernel_rfl) (by simp) ?_
                      refine AllReadyH.cons rfl (fun K hK => ?_) AllReadyH.nil
                      obtain ⟨b0, b1, b2, b3⟩ := cellsAm HL.out.2.1 rfl (HB.out _ HWd.out) i hi
                      go_simp
                      clear b0 b1 b2 b3
                      refine hK.out _ _ trivial (fun _ => ?_)
                      clear hK K
                      try simp only [Act.put, List.getElem_toArray, List.getElem_cons_zero, List.getElem_cons_succ, List.setIfInBounds_toArray, List.set_cons_zero, List.set_cons_succ]
                      refine wpAnyH_ready (rs := [6]) (by kernel_rfl) (by simp) ?_
                      refine AllReadyH.cons rfl (fun K hK => ?_) AllReadyH.nil
                      go_simp
                      refine (HSB3.out _).mono ?_
                      rintro e X1 ⟨rfl, hb⟩
                      have HWe := Aside0.mk (below_step HWd.out hb)
                      have H11e := Aside0.mk (Holds.below H11d.out hb)
                      have H12e := Aside0.mk (Holds.below H12d.out hb)
                      clear hb
                      refine hK.out _ _ trivial (fun _ => ?_)
                      clear hK K
                      try simp only [Act.put, List.getElem_toArray, List.getElem_cons_zero, List.getElem_cons_succ, List.setIfInBounds_toArray, List.set_cons_zero, List.set_cons_succ]
                      refine wpAnyH_take (i := 7) (v := .tuple #[.agg (ws Lc), .bool (decide (uc > 0))]) rfl (by kernel_rfl) (by kernel_rfl) (by kernel_rfl) (fun _ _ _ h => absurd h.1 (by simp)) (.inl ⟨by rfl, fun _ _ => by go_simp⟩) trivial ?_
                      try simp only [Act.put, List.getElem_toArray, List.getElem_cons_zero, List.getElem_cons_succ, List.setIfInBounds_toArray, List.set_cons_zero, List.set_cons_succ]
                      refine wpAnyH_take (i := 8) (v := .agg (ws Lc)) rfl (by kernel_rfl) (by kernel_rfl) (by kernel_rfl) (fun _ _ _ h => absurd h.1 (by simp)) (.inl ⟨by rfl, fun _ _ => by go_simp⟩) trivial ?_
                      try simp only [Act.put, List.getElem_toArray, List.getElem_cons_zero, List.getElem_cons_succ, List.setIfInBounds_toArray, List.set_cons_zero, List.set_cons_succ]
                      refine wpAnyH_take (i := 9) (v := .bool (decide (uc > 0))) rfl (by kernel_rfl) (by kernel_rfl) (by kernel_rfl) (fun _ _ _ h => absurd h.1 (by simp)) (.inl ⟨by rfl, fun _ _ => by go_simp⟩) trivial ?_
                      try simp only [Act.put, List.getElem_toArray, List.getElem_cons_zero, List.getElem_cons_succ, List.setIfInBounds_toArray, List.set_cons_zero, List.set_cons_succ]
                      have z0 := H12e.out.cell 0 (by rw [HSZ.out]; omega)
                      have y0 := H12e.out.free 0
                      have z1 := H12e.out.cell 1 (by rw [HSZ.out]; omega)
                      have y1 := H12e.out.free 1
                      have z2 := H12e.out.cell 2 (by rw [HSZ.out]; omega)
                      have y2 := H12e.out.free 2
                      have z3 := H12e.out.cell 3 (by rw [HSZ.out]; omega)
                      have y3 := H12e.out.free 3
                      have hwf := ws_four Lc HSLc.out
                      refine wpAnyH_ready (rs := [10]) (by kernel_rfl) (by simp) ?_
                      refine AllReadyH.cons rfl (fun K hK => ?_) AllReadyH.nil
                      go_simp
                      refine hK.out _ _ trivial (fun _ => ?_)
                      clear hK K z0 z1 z2 z3 y0 y1 y2 y3 hwf
                      try simp only [Act.put, List.getElem_toArray, List.getElem_cons_zero, List.getElem_cons_succ, List.setIfInBounds_toArray, List.set_cons_zero, List.set_cons_succ]
                      refine wpAnyH_take (i := 11) (v := .bool (decide (uc > 0))) rfl (by kernel_rfl) (by kernel_rfl) (by kernel_rfl) (fun _ _ _ h => absurd h.1 (by simp)) (.inl ⟨by rfl, fun _ _ => by go_simp⟩) trivial ?_
                      try simp only [Act.put, List.getElem_toArray, List.getElem_cons_zero, List.getElem_cons_succ, List.setIfInBounds_toArray, List.set_cons_zero, List.set_cons_succ]
                      refine wpAnyH_done (by kernel_rfl) ?_ _
                      refine ⟨rfl, ?_, below_set (below_set (below_set (below_set HWe.out HG12.out) HG12.out) HG12.out) HG12.out, (((H11e.out.far HNE.out _).far HNE.out _).far HNE.out _).far HNE.out _, set_four HSZ.out HSLc.out H12e.out⟩
                      rw [ws_four Lc HSLc.out]
                      try rfl
                    refine AllReadyH.cons rfl (fun K hK => ?_) AllReadyH.nil
                    obtain ⟨b0, b1, b2, b3⟩ := cellsAm HL.out.2.1 rfl (HB.out _ HWd.out) i hi
                    go_simp
                    clear b0 b1 b2 b3
                    refine hK.out _ _ trivial (fun _ => ?_)
                    clear hK K
                    try simp only [Act.put, List.getElem_toArray, List.getElem_cons_zero, List.getElem_cons_succ, List.setIfInBounds_toArray, List.set_cons_zero, List.set_cons_succ]
                    refine wpAnyH_ready (rs := [0]) (by kernel_rfl) (by simp) ?_
                    refine AllReadyH.cons rfl (fun K hK => ?_) AllReadyH.nil
                    obtain ⟨b0, b1, b2, b3⟩ : W0.cell? ⟨g12, 0, none⟩ = some (.int .u64 (vw (gw Z 0))) ∧ W0.cell? ⟨g12, 1, none⟩ = some (.int .u64 (vw (gw Z 1))) ∧ W0.cell? ⟨g12, 2, none⟩ = some (.int .u64 (vw (gw Z 2))) ∧ W0.cell? ⟨g12, 3, none⟩ = some (.int .u64 (vw (gw Z 3))) := ⟨H12d.out.cell 0 (by rw [HSZ.out]; omega), H12d.out.cell 1 (by rw [HSZ.out]; omega), H12d.out.cell 2 (by rw [HSZ.out]; omega), H12d.out.cell 3 (by rw [HSZ.out]; omega)⟩
                    go_simp
                    clear b0 b1 b2 b3
                    refine hK.out _ _ trivial (fun _ => ?_)
                    clear hK K
                    try simp only [Act.put, List.getElem_toArray, List.getElem_cons_zero, List.getElem_cons_succ, List.setIfInBounds_toArray, List.set_cons_zero, List.set_cons_succ]
                    refine wpAnyH_ready (rs := [6]) (by kernel_rfl) (by simp) ?_
                    refine AllReadyH.cons rfl (fun K hK => ?_) AllReadyH.nil
                    go_simp
                    refine (HSB3.out _).mono ?_
                    rintro e X1 ⟨rfl, hb⟩
                    have HWe := Aside0.mk (below_step HWd.out hb)
                    have H11e := Aside0.mk (Holds.below H11d.out hb)
                    have H12e := Aside0.mk (Holds.below H12d.out hb)
                    clear hb
                    refine hK.out _ _ trivial (fun _ => ?_)
                    clear hK K
                    try simp only [Act.put, List.getElem_toArray, List.getElem_cons_zero, List.getElem_cons_succ, List.setIfInBounds_toArray, List.set_cons_zero, List.set_cons_succ]
                    refine wpAnyH_take (i := 7) (v := .tuple #[.agg (ws Lc), .bool (decide (uc > 0))]) rfl (by kernel_rfl) (by kernel_rfl) (by kernel_rfl) (fun _ _ _ h => absurd h.1 (by simp)) (.inl ⟨by rfl, fun _ _ => by go_simp⟩) trivial ?_
                    try simp only [Act.put, List.getElem_toArray, List.getElem_cons_zero, List.getElem_cons_succ, List.setIfInBounds_toArray, List.set_cons_zero, List.set_cons_succ]
                    refine wpAnyH_take (i := 8) (v := .agg (ws Lc)) rfl (by kernel_rfl) (by kernel_rfl) (by kernel_rfl) (fun _ _ _ h => absurd h.1 (by simp)) (.inl ⟨by rfl, fun _ _ => by go_simp⟩) trivial ?_
                    try simp only [Act.put, List.getElem_toArray, List.getElem_cons_zero, List.getElem_cons_succ, List.setIfInBounds_toArray, List.set_cons_zero, List.set_cons_succ]
                    refine wpAnyH_take (i := 9) (v := .bool (decide (uc > 0))) rfl (by kernel_rfl) (by kernel_rfl) (by kernel_rfl) (fun _ _ _ h => absurd h.1 (by simp)) (.inl ⟨by rfl, fun _ _ => by go_simp⟩) trivial ?_
                    try simp only [Act.put, List.getElem_toArray, List.getElem_cons_zero, List.getElem_cons_succ, List.setIfInBounds_toArray, List.set_cons_zero, List.set_cons_succ]
                    have z0 := H12e.out.cell 0 (by rw [HSZ.out]; omega)
                    have y0 := H12e.out.free 0
                    have z1 := H12e.out.cell 1 (by rw [HSZ.out]; omega)
                    have y1 := H12e.out.free 1
                    have z2 := H12e.out.cell 2 (by rw [HSZ.out]; omega)
                    have y2 := H12e.out.free 2
                    have z3 := H12e.out.cell 3 (by rw [HSZ.out]; omega)
                    have y3 := H12e.out.free 3
                    have hwf := ws_four Lc HSLc.out
                    refine wpAnyH_ready (rs := [10]) (by kernel_rfl) (by simp) ?_
                    refine AllReadyH.cons rfl (fun K hK => ?_) AllReadyH.nil
                    go_simp
                    refine hK.out _ _ trivial (fun _ => ?_)
                    clear hK K z0 z1 z2 z3 y0 y1 y2 y3 hwf
                    try simp only [Act.put, List.getElem_toArray, List.getElem_cons_zero, List.getElem_cons_succ, List.setIfInBounds_toArray, List.set_cons_zero, List.set_cons_succ]
                    refine wpAnyH_take (i := 11) (v := .bool (decide (uc > 0))) rfl (by kernel_rfl) (by kernel_rfl) (by kernel_rfl) (fun _ _ _ h => absurd h.1 (by simp)) (.inl ⟨by rfl, fun _ _ => by go_simp⟩) trivial ?_
                    try simp only [Act.put, List.getElem_toArray, List.getElem_cons_zero, List.getElem_cons_succ, List.setIfInBounds_toArray, List.set_cons_zero, List.set_cons_succ]
                    refine wpAnyH_done (by kernel_rfl) ?_ _
                    refine ⟨rfl, ?_, below_set (below_set (below_set (below_set HWe.out HG12.out) HG12.out) HG12.out) HG12.out, (((H11e.out.far HNE.out _).far HNE.out _).far HNE.out _).far HNE.out _, set_four HSZ.out HSLc.out H12e.out⟩
                    rw [ws_four Lc HSLc.out]
                    try rfl
                  case hnext =>
                    rintro _ w8 ⟨rfl, hw8, h118, h128⟩
                    try simp only [Act.put, List.getElem_toArray, List.getElem_cons_zero, List.getElem_cons_succ, List.setIfInBounds_toArray, List.set_cons_zero, List.set_cons_succ]
                    have HW8 := Aside0.mk hw8
                    have H118 := Aside0.mk h118
                    have H128 := Aside0.mk h128
                    clear hw8 h118 h128 HW7 H117 H127
                    go_wp2_with fail
                    have HW9 := HW8
                    have H119 := H118
                    have H129 := H128
                    refine ⟨⟨i + 1, La, Lc, by omega, by rw [decide_eq_true HSH.out], by go_num, HSLLa.out, HV1.out, HSLc.out, HV3.out, HW9.out, H119.out, H129.out⟩, by simp [intOf]; omega⟩
          · rw [decide_eq_false hs]
            go_wp2_with fail
            refine wp_put (fun a0 a' w' => ∃ gn, a' = (((((((((((a0.put (some 72) (.agg #[.int .u64 (vw (gw S 0)), .int .u64 (vw (gw S 1)), .int .u64 (vw (gw S 2)), .int .u64 (vw (gw S 3))])).put (some 73) (.slice (some adp) l.length cp)).put (some 74) (.int .i64 (i : Nat))).put (some 75) (.pointer (some (adp.add (i * 4))))).put (some 76) (.agg #[.int .u64 (vw (gw N 0)), .int .u64 (vw (gw N 1)), .int .u64 (vw (gw N 2)), .int .u64 (vw (gw N 3))])).put (some 77) (.tuple #[.agg (ws La), .bool false])).put (some 71) (.tuple #[.agg (ws La), .bool false])).put (some 78) (.agg (ws La))).put (some 79) (.bool false)).put (some 15) (.pointer (some ⟨gn, 0, none⟩))).put (some 16) (.bool false)) ∧ Below wr.heap.size wr w' ∧ wr.heap.size ≤ gn ∧ Holds w' gn 24 La) ?hreg ?hnext
            case hreg =>
              refine wp_region_held_drew (S := fun X => Below wr.heap.size wr X) (by kernel_rfl) (below_drew1 (Below.refl _ _)) (fun hHeld => ?_)
              generalize wr.drew = W0 at *
              try simp only [Act.put, List.getElem_toArray, List.getElem_cons_zero, List.getElem_cons_succ, List.setIfInBounds_toArray, List.set_cons_zero, List.set_cons_succ]
              refine wpAnyH_take (i := 0) (v := .agg #[.int .u64 (vw (gw S 0)), .int .u64 (vw (gw S 1)), .int .u64 (vw (gw S 2)), .int .u64 (vw (gw S 3))]) rfl (by kernel_rfl) (by kernel_rfl) (by kernel_rfl) (fun _ _ _ h => absurd h.1 (by simp)) (yieldsIf_load_mid rfl 24 _ rfl g11 0 rfl [.int .u64 (vw (gw S 0)), .int .u64 (vw (gw S 1)), .int .u64 (vw (gw S 2)), .int .u64 (vw (gw S 3))] _ (fun X' hS => by rw [← wl_four S HSS.out]; exact range_of (Holds.below H11.out hS)) Try.underlying24 rfl (by rw [Hi24.out]; rfl)) hHeld ?_
              try simp only [Act.put, List.getElem_toArray, List.getElem_cons_zero, List.getElem_cons_succ, List.setIfInBounds_toArray, List.set_cons_zero, List.set_cons_succ]
              refine wpAnyH_take (i := 1) (v := .slice (some adp) l.length cp) rfl (by kernel_rfl) (by kernel_rfl) (by kernel_rfl) (fun _ _ _ h => absurd h.1 (by simp)) (.inl ⟨by rfl, fun _ _ => by go_simp⟩) hHeld ?_
              try simp only [Act.put, List.getElem_toArray, List.getElem_cons_zero, List.getElem_cons_succ, List.setIfInBounds_toArray, List.set_cons_zero, List.set_cons_succ]
              refine wpAnyH_take (i := 2) (v := .int .i64 (i : Nat)) rfl (by kernel_rfl) (by kernel_rfl) (by kernel_rfl) (fun _ _ _ h => absurd h.1 (by simp)) (.inl ⟨by rfl, fun _ _ => by go_simp⟩) hHeld ?_
              try simp only [Act.put, List.getElem_toArray, List.getElem_cons_zero, List.getElem_cons_succ, List.setIfInBounds_toArray, List.set_cons_zero, List.set_cons_succ]
              refine wpAnyH_take (i := 3) (v := .pointer (some (adp.add (i * 4)))) rfl (by kernel_rfl) (by kernel_rfl) (by kernel_rfl) (fun _ _ _ h => absurd h.1 (by simp)) (.inl ⟨by rfl, fun _ _ => by go_simp⟩) hHeld ?_
              try simp only [Act.put, List.getElem_toArray, List.getElem_cons_zero, List.getElem_cons_succ, List.setIfInBounds_toArray, List.set_cons_zero, List.set_cons_succ]
              refine wpAnyH_take (i := 4) (v := .agg #[.int .u64 (vw (gw N 0)), .int .u64 (vw (gw N 1)), .int .u64 (vw (gw N 2)), .int .u64 (vw (gw N 3))]) rfl (by kernel_rfl) (by kernel_rfl) (by kernel_rfl) (fun _ _ _ h => absurd h.1 (by simp)) (.inl ⟨by rfl, fun X' hS => by obtain ⟨b0, b1, b2, b3⟩ := cellsP (HP.out _ (HQ.out _ hS)) i hi HPX.out; go_simp⟩) hHeld ?_
              try simp only [Act.put, List.getElem_toArray, List.getElem_cons_zero, List.getElem_cons_succ, List.setIfInBounds_toArray, List.set_cons_zero, List.set_cons_succ]
              refine wpAnyH_ready (rs := [5, 9]) (by kernel_rfl) (by simp) ?_
              refine AllReadyH.cons rfl (fun K hK => ?_) ?_
              · go_simp
                refine (HSB1.out _).mono ?_
                rintro e X9 ⟨rfl, hb⟩
                refine hK.out _ _ (below_step hHeld hb) (fun hHeld => ?_)
                clear hb hK K
                try simp only [Act.put, List.getElem_toArray, List.getElem_cons_zero, List.getElem_cons_succ, List.setIfInBounds_toArray, List.set_cons_zero, List.set_cons_succ]
                refine wpAnyH_take (i := 6) (v := .tuple #[.agg (ws La), .bool false]) rfl (by kernel_rfl) (by kernel_rfl) (by kernel_rfl) (fun _ _ _ h => absurd h.1 (by simp)) (.inl ⟨by rfl, fun _ _ => by go_simp⟩) hHeld ?_
                try simp only [Act.put, List.getElem_toArray, List.getElem_cons_zero, List.getElem_cons_succ, List.setIfInBounds_toArray, List.set_cons_zero, List.set_cons_succ]
                refine wpAnyH_take (i := 7) (v := .agg (ws La)) rfl (by kernel_rfl) (by kernel_rfl) (by kernel_rfl) (fun _ _ _ h => absurd h.1 (by simp)) (.inl ⟨by rfl, fun _ _ => by go_simp⟩) hHeld ?_
                try simp only [Act.put, List.getElem_toArray, List.getElem_cons_zero, List.getElem_cons_succ, List.setIfInBounds_toArray, List.set_cons_zero, List.set_cons_succ]
                refine wpAnyH_take (i := 8) (v := .bool false) rfl (by kernel_rfl) (by kernel_rfl) (by kernel_rfl) (fun _ _ _ h => absurd h.1 (by simp)) (.inl ⟨by rfl, fun _ _ => by go_simp⟩) hHeld ?_
                try simp only [Act.put, List.getElem_toArray, List.getElem_cons_zero, List.getElem_cons_succ, List.setIfInBounds_toArray, List.set_cons_zero, List.set_cons_succ]
                refine wpAnyH_ready (rs := [9]) (by kernel_rfl) (by simp) ?_
                refine AllReadyH.cons rfl (fun K hK => ?_) AllReadyH.nil
                go_simp
                have hb := below_alloc (Below.refl X9.heap.size X9) (.cells #[Value.int .u64 0, .int .u64 0, .int .u64 0, .int .u64 0] 24)
                have H14 := Aside0.mk (And.intro (show Holds (X9.alloc (.cells #[Value.int .u64 0, .int .u64 0, .int .u64 0, .int .u64 0] 24)) X9.heap.size 24 (List.replicate 4 0) from blk_new X9 _) hHeld.size)
                refine hK.out _ _ (below_step hHeld hb) (fun hHeld => ?_)
                clear hb hK K
                generalize X9.alloc _ = X10 at *
                generalize X9.heap.size = g14 at *
                try simp only [Act.put, List.getElem_toArray, List.getElem_cons_zero, List.getElem_cons_succ, List.setIfInBounds_toArray, List.set_cons_zero, List.set_cons_succ]
                have hx := H14.out.1
                have z0 := hx.cell 0 (by simp)
                have y0 := hx.free 0
                have z1 := hx.cell 1 (by simp)
                have y1 := hx.free 1
                have z2 := hx.cell 2 (by simp)
                have y2 := hx.free 2
                have z3 := hx.cell 3 (by simp)
                have y3 := hx.free 3
                clear hx
                have hwf := ws_four La HSLLa.out
                refine wpAnyH_ready (rs := [10]) (by kernel_rfl) (by simp) ?_
                refine AllReadyH.cons rfl (fun K hK => ?_) AllReadyH.nil
                go_simp
                have n14 := H14.out.2
                refine hK.out _ _ (below_set (below_set (below_set (below_set hHeld n14) n14) n14) n14) (fun hHeld => ?_)
                clear hK K z0 z1 z2 z3 y0 y1 y2 y3 hwf
                have H14' := Aside0.mk (set_four (L := List.replicate 4 0) (H := La) rfl HSLLa.out H14.out.1)
                try simp only [Act.put, List.getElem_toArray, List.getElem_cons_zero, List.getElem_cons_succ, List.setIfInBounds_toArray, List.set_cons_zero, List.set_cons_succ]
                refine wpAnyH_take (i := 11) (v := .bool false) rfl (by kernel_rfl) (by kernel_rfl) (by kernel_rfl) (fun _ _ _ h => absurd h.1 (by simp)) (.inl ⟨by rfl, fun _ _ => by go_simp⟩) hHeld ?_
                try simp only [Act.put, List.getElem_toArray, List.getElem_cons_zero, List.getElem_cons_succ, List.setIfInBounds_toArray, List.set_cons_zero, List.set_cons_succ]
                refine wpAnyH_done (by kernel_rfl) ?_ _
                refine ⟨rfl, g14, ?_, hHeld, n14, H14'.out⟩
                rw [ws_four La HSLLa.out]
                try rfl
              refine AllReadyH.cons rfl (fun K hK => ?_) AllReadyH.nil
              go_simp
              have hb := below_alloc (Below.refl W0.heap.size W0) (.cells #[Value.int .u64 0, .int .u64 0, .int .u64 0, .int .u64 0] 24)
              have H14 := Aside0.mk (And.intro (show Holds (W0.alloc (.cells #[Value.int .u64 0, .int .u64 0, .int .u64 0, .int .u64 0] 24)) W0.heap.size 24 (List.replicate 4 0) from blk_new W0 _) hHeld.size)
              refine hK.out _ _ (below_step hHeld hb) (fun hHeld => ?_)
              clear hb hK K
              generalize W0.alloc _ = X11 at *
              generalize W0.heap.size = g14 at *
              try simp only [Act.put, List.getElem_toArray, List.getElem_cons_zero, List.getElem_cons_succ, List.setIfInBounds_toArray, List.set_cons_zero, List.set_cons_succ]
              refine wpAnyH_ready (rs := [5]) (by kernel_rfl) (by simp) ?_
              refine AllReadyH.cons rfl (fun K hK => ?_) AllReadyH.nil
              go_simp
              refine (HSB1.out _).mono ?_
              rintro e X12 ⟨rfl, hb⟩
              replace H14 := Aside0.mk (And.intro (Holds.below H14.out.1 hb) H14.out.2)
              refine hK.out _ _ (below_step hHeld hb) (fun hHeld => ?_)
              clear hb hK K
              try simp only [Act.put, List.getElem_toArray, List.getElem_cons_zero, List.getElem_cons_succ, List.setIfInBounds_toArray, List.set_cons_zero, List.set_cons_succ]
              refine wpAnyH_take (i := 6) (v := .tuple #[.agg (ws La), .bool false]) rfl (by kernel_rfl) (by kernel_rfl) (by kernel_rfl) (fun _ _ _ h => absurd h.1 (by simp)) (.inl ⟨by rfl, fun _ _ => by go_simp⟩) hHeld ?_
              try simp only [Act.put, List.getElem_toArray, List.getElem_cons_zero, List.getElem_cons_succ, List.setIfInBounds_toArray, List.set_cons_zero, List.set_cons_succ]
              refine wpAnyH_take (i := 7) (v := .agg (ws La)) rfl (by kernel_rfl) (by kernel_rfl) (by kernel_rfl) (fun _ _ _ h => absurd h.1 (by simp)) (.inl ⟨by rfl, fun _ _ => by go_simp⟩) hHeld ?_
              try simp only [Act.put, List.getElem_toArray, List.getElem_cons_zero, List.getElem_cons_succ, List.setIfInBounds_toArray, List.set_cons_zero, List.set_cons_succ]
              refine wpAnyH_take (i := 8) (v := .bool false) rfl (by kernel_rfl) (by kernel_rfl) (by kernel_rfl) (fun _ _ _ h => absurd h.1 (by simp)) (.inl ⟨by rfl, fun _ _ => by go_simp⟩) hHeld ?_
              try simp only [Act.put, List.getElem_toArray, List.getElem_cons_zero, List.getElem_cons_succ, List.setIfInBounds_toArray, List.set_cons_zero, List.set_cons_succ]
              have hx := H14.out.1
              have z0 := hx.cell 0 (by simp)
              have y0 := hx.free 0
              have z1 := hx.cell 1 (by simp)
              have y1 := hx.free 1
              have z2 := hx.cell 2 (by simp)
              have y2 := hx.free 2
              have z3 := hx.cell 3 (by simp)
              have y3 := hx.free 3
              clear hx
              have hwf := ws_four La HSLLa.out
              refine wpAnyH_ready (rs := [10]) (by kernel_rfl) (by simp) ?_
              refine AllReadyH.cons rfl (fun K hK => ?_) AllReadyH.nil
              go_simp
              have n14 := H14.out.2
              refine hK.out _ _ (below_set (below_set (below_set (below_set hHeld n14) n14) n14) n14) (fun hHeld => ?_)
              clear hK K z0 z1 z2 z3 y0 y1 y2 y3 hwf
              have H14' := Aside0.mk (set_four (L := List.replicate 4 0) (H := La) rfl HSLLa.out H14.out.1)
              try simp only [Act.put, List.getElem_toArray, List.getElem_cons_zero, List.getElem_cons_succ, List.setIfInBounds_toArray, List.set_cons_zero, List.set_cons_succ]
              refine wpAnyH_take (i := 11) (v := .bool false) rfl (by kernel_rfl) (by kernel_rfl) (by kernel_rfl) (fun _ _ _ h => absurd h.1 (by simp)) (.inl ⟨by rfl, fun _ _ => by go_simp⟩) hHeld ?_
              try simp only [Act.put, List.getElem_toArray, List.getElem_cons_zero, List.getElem_cons_succ, List.setIfInBounds_toArray, List.set_cons_zero, List.set_cons_succ]
              refine wpAnyH_done (by kernel_rfl) ?_ _
              refine ⟨rfl, g14, ?_, hHeld, n14, H14'.out⟩
              rw [ws_four La HSLLa.out]
              try rfl
            case hnext =>
              rintro _ w4 ⟨g15, rfl, hb4, n15, h15⟩
              try simp only [Act.put, List.getElem_toArray, List.getElem_cons_zero, List.getElem_cons_succ, List.setIfInBounds_toArray, List.set_cons_zero, List.set_cons_succ]
              have HW4 := Aside0.mk (below_step HWr.out hb4)
              have H114 := Aside0.mk (Holds.below H11.out hb4)
              have H124 := Aside0.mk (Holds.below H12.out hb4)
              have H154 := Aside0.mk h15
              have HG15 := Aside0.mk (show g15 ≠ g11 from fun e => by have := H11.out.lt; omega)
              clear HQ HWr H11 H12 hb4 n15 h15
              have HQ := Aside0.mk (fun X (hX : Below w4.heap.size w4 X) => below_step HW4.out hX)
              go_wp2_with fail
              refine wp_put (fun a0 a' w' => ∃ gn, a' = (((((((((((((((a0.put (some 81) (.slice (some ado) l.length co)).put (some 82) (.int .i64 (i : Nat))).put (some 83) (.pointer (some (ado.add (i * 8))))).put (some 84) (.pointer (some ⟨(ado.add (i * 8)).block, (ado.add (i * 8)).off + 1, none⟩))).put (some 85) (.agg #[.int .u64 (vw (gw (am (at40 (outA H l W) i)) 0)), .int .u64 (vw (gw (am (at40 (outA H l W) i)) 1)), .int .u64 (vw (gw (am (at40 (outA H l W) i)) 2)), .int .u64 (vw (gw (am (at40 (outA H l W) i)) 3))])).put (some 86) (.slice (some adp) l.length cp)).put (some 87) (.int .i64 (i : Nat))).put (some 88) (.pointer (some (adp.add (i * 4))))).put (some 89) (.agg #[.int .u64 (vw (gw N 0)), .int .u64 (vw (gw N 1)), .int .u64 (vw (gw N 2)), .int .u64 (vw (gw N 3))])).put (some 90) (.tuple #[.agg (ws M), .bool false])).put (some 80) (.tuple #[.agg (ws M), .bool false])).put (some 91) (.agg (ws M))).put (some 92) (.bool false)).put (some 17) (.pointer (some ⟨gn, 0, none⟩))).put (some 18) (.bool false)) ∧ Below w4.heap.size w4 w' ∧ w4.heap.size ≤ gn ∧ Holds w' gn 24 M) ?hreg ?hnext
              case hreg =>
                refine wp_region_held_drew (S := fun X => Below w4.heap.size w4 X) (by kernel_rfl) (below_drew1 (Below.refl _ _)) (fun hHeld => ?_)
                generalize w4.drew = W0 at *
                try simp only [Act.put, List.getElem_toArray, List.getElem_cons_zero, List.getElem_cons_succ, List.setIfInBounds_toArray, List.set_cons_zero, List.set_cons_succ]
                refine wpAnyH_take (i := 0) (v := .slice (some ado) l.length co) rfl (by kernel_rfl) (by kernel_rfl) (by kernel_rfl) (fun _ _ _ h => absurd h.1 (by simp)) (.inl ⟨by rfl, fun _ _ => by go_simp⟩) hHeld ?_
                try simp only [Act.put, List.getElem_toArray, List.getElem_cons_zero, List.getElem_cons_succ, List.setIfInBounds_toArray, List.set_cons_zero, List.set_cons_succ]
                refine wpAnyH_take (i := 1) (v := .int .i64 (i : Nat)) rfl (by kernel_rfl) (by kernel_rfl) (by kernel_rfl) (fun _ _ _ h => absurd h.1 (by simp)) (.inl ⟨by rfl, fun _ _ => by go_simp⟩) hHeld ?_
                try simp only [Act.put, List.getElem_toArray, List.getElem_cons_zero, List.getElem_cons_succ, List.setIfInBounds_toArray, List.set_cons_zero, List.set_cons_succ]
                refine wpAnyH_take (i := 2) (v := .pointer (some (ado.add (i * 8)))) rfl (by kernel_rfl) (by kernel_rfl) (by kernel_rfl) (fun _ _ _ h => absurd h.1 (by simp)) (.inl ⟨by rfl, fun _ _ => by go_simp⟩) hHeld ?_
                try simp only [Act.put, List.getElem_toArray, List.getElem_cons_zero, List.getElem_cons_succ, List.setIfInBounds_toArray, List.set_cons_zero, List.set_cons_succ]
                refine wpAnyH_take (i := 3) (v := .pointer (some ⟨(ado.add (i * 8)).block, (ado.add (i * 8)).off + 1, none⟩)) rfl (by kernel_rfl) (by kernel_rfl) (by kernel_rfl) (fun _ _ _ h => absurd h.1 (by simp)) (.inl ⟨by rfl, fun _ _ => by go_simp⟩) hHeld ?_
                try simp only [Act.put, List.getElem_toArray, List.getElem_cons_zero, List.getElem_cons_succ, List.setIfInBounds_toArray, List.set_cons_zero, List.set_cons_succ]
                refine wpAnyH_take (i := 4) (v := .agg #[.int .u64 (vw (gw (am (at40 (outA H l W) i)) 0)), .int .u64 (vw (gw (am (at40 (outA H l W) i)) 1)), .int .u64 (vw (gw (am (at40 (outA H l W) i)) 2)), .int .u64 (vw (gw (am (at40 (outA H l W) i)) 3))]) rfl (by kernel_rfl) (by kernel_rfl) (by kernel_rfl) (fun _ _ _ h => absurd h.1 (by simp)) (.inl ⟨by rfl, fun X' hS => by obtain ⟨b0, b1, b2, b3⟩ := cellsAm (outA_ok H l W) HOL.out (HO.out _ (HQ.out _ hS)) i hi; go_simp⟩) hHeld ?_
                try simp only [Act.put, List.getElem_toArray, List.getElem_cons_zero, List.getElem_cons_succ, List.setIfInBounds_toArray, List.set_cons_zero, List.set_cons_succ]
                refine wpAnyH_take (i := 5) (v := .slice (some adp) l.length cp) rfl (by kernel_rfl) (by kernel_rfl) (by kernel_rfl) (fun _ _ _ h => absurd h.1 (by simp)) (.inl ⟨by rfl, fun _ _ => by go_simp⟩) hHeld ?_
                try simp only [Act.put, List.getElem_toArray, List.getElem_cons_zero, List.getElem_cons_succ, List.setIfInBounds_toArray, List.set_cons_zero, List.set_cons_succ]
                refine wpAnyH_take (i := 6) (v := .int .i64 (i : Nat)) rfl (by kernel_rfl) (by kernel_rfl) (by kernel_rfl) (fun _ _ _ h => absurd h.1 (by simp)) (.inl ⟨by rfl, fun _ _ => by go_simp⟩) hHeld ?_
                try simp only [Act.put, List.getElem_toArray, List.getElem_cons_zero, List.getElem_cons_succ, List.setIfInBounds_toArray, List.set_cons_zero, List.set_cons_succ]
                refine wpAnyH_take (i := 7) (v := .pointer (some (adp.add (i * 4)))) rfl (by kernel_rfl) (by kernel_rfl) (by kernel_rfl) (fun _ _ _ h => absurd h.1 (by simp)) (.inl ⟨by rfl, fun _ _ => by go_simp⟩) hHeld ?_
                try simp only [Act.put, List.getElem_toArray, List.getElem_cons_zero, List.getElem_cons_succ, List.setIfInBounds_toArray, List.set_cons_zero, List.set_cons_succ]
                refine wpAnyH_take (i := 8) (v := .agg #[.int .u64 (vw (gw N 0)), .int .u64 (vw (gw N 1)), .int .u64 (vw (gw N 2)), .int .u64 (vw (gw N 3))]) rfl (by kernel_rfl) (by kernel_rfl) (by kernel_rfl) (fun _ _ _ h => absurd h.1 (by simp)) (.inl ⟨by rfl, fun X' hS => by obtain ⟨b0, b1, b2, b3⟩ := cellsP (HP.out _ (HQ.out _ hS)) i hi HPX.out; go_simp⟩) hHeld ?_
                try simp only [Act.put, List.getElem_toArray, List.getElem_cons_zero, List.getElem_cons_succ, List.setIfInBounds_toArray, List.set_cons_zero, List.set_cons_succ]
                refine wpAnyH_ready (rs := [9, 13]) (by kernel_rfl) (by simp) ?_
                refine AllReadyH.cons rfl (fun K hK => ?_) ?_
                · go_simp
                  refine (HSB2.out _).mono ?_
                  rintro e X13 ⟨rfl, hb⟩
                  refine hK.out _ _ (below_step hHeld hb) (fun hHeld => ?_)
                  clear hb hK K
                  try simp only [Act.put, List.getElem_toArray, List.getElem_cons_zero, List.getElem_cons_succ, List.setIfInBounds_toArray, List.set_cons_zero, List.set_cons_succ]
                  refine wpAnyH_take (i := 10) (v := .tuple #[.agg (ws M), .bool false]) rfl (by kernel_rfl) (by kernel_rfl) (by kernel_rfl) (fun _ _ _ h => absurd h.1 (by simp)) (.inl ⟨by rfl, fun _ _ => by go_simp⟩) hHeld ?_
                  try simp only [Act.put, List.getElem_toArray, List.getElem_cons_zero, List.getElem_cons_succ, List.setIfInBounds_toArray, List.set_cons_zero, List.set_cons_succ]
                  refine wpAnyH_take (i := 11) (v := .agg (ws M)) rfl (by kernel_rfl) (by kernel_rfl) (by kernel_rfl) (fun _ _ _ h => absurd h.1 (by simp)) (.inl ⟨by rfl, fun _ _ => by go_simp⟩) hHeld ?_
                  try simp only [Act.put, List.getElem_toArray, List.getElem_cons_zero, List.getElem_cons_succ, List.setIfInBounds_toArray, List.set_cons_zero, List.set_cons_succ]
                  refine wpAnyH_take (i := 12) (v := .bool false) rfl (by kernel_rfl) (by kernel_rfl) (by kernel_rfl) (fun _ _ _ h => absurd h.1 (by simp)) (.inl ⟨by rfl, fun _ _ => by go_simp⟩) hHeld ?_
                  try simp only [Act.put, List.getElem_toArray, List.getElem_cons_zero, List.getElem_cons_succ, List.setIfInBounds_toArray, List.set_cons_zero, List.set_cons_succ]
                  refine wpAnyH_ready (rs := [13]) (by kernel_rfl) (by simp) ?_
                  refine AllReadyH.cons rfl (fun K hK => ?_) AllReadyH.nil
                  go_simp
                  have hb := below_alloc (Below.refl X13.heap.size X13) (.cells #[Value.int .u64 0, .int .u64 0, .int .u64 0, .int .u64 0] 24)
                  have H14 := Aside0.mk (And.intro (show Holds (X13.alloc (.cells #[Value.int .u64 0, .int .u64 0, .int .u64 0, .int .u64 0] 24)) X13.heap.size 24 (List.replicate 4 0) from blk_new X13 _) hHeld.size)
                  refine hK.out _ _ (below_step hHeld hb) (fun hHeld => ?_)
                  clear hb hK K
                  generalize X13.alloc _ = X14 at *
                  generalize X13.heap.size = g14 at *
                  try simp only [Act.put, List.getElem_toArray, List.getElem_cons_zero, List.getElem_cons_succ, List.setIfInBounds_toArray, List.set_cons_zero, List.set_cons_succ]
                  have hx := H14.out.1
                  have z0 := hx.cell 0 (by simp)
                  have y0 := hx.free 0
                  have z1 := hx.cell 1 (by simp)
                  have y1 := hx.free 1
                  have z2 := hx.cell 2 (by simp)
                  have y2 := hx.free 2
                  have z3 := hx.cell 3 (by simp)
                  have y3 := hx.free 3
                  clear hx
                  have hwf := ws_four M HSLM.out
                  refine wpAnyH_ready (rs := [14]) (by kernel_rfl) (by simp) ?_
                  refine AllReadyH.cons rfl (fun K hK => ?_) AllReadyH.nil
                  go_simp
                  have n14 := H14.out.2
                  refine hK.out _ _ (below_set (below_set (below_set (below_set hHeld n14) n14) n14) n14) (fun hHeld => ?_)
                  clear hK K z0 z1 z2 z3 y0 y1 y2 y3 hwf
                  have H14' := Aside0.mk (set_four (L := List.replicate 4 0) (H := M) rfl HSLM.out H14.out.1)
                  try simp only [Act.put, List.getElem_toArray, List.getElem_cons_zero, List.getElem_cons_succ, List.setIfInBounds_toArray, List.set_cons_zero, List.set_cons_succ]
                  refine wpAnyH_take (i := 15) (v := .bool false) rfl (by kernel_rfl) (by kernel_rfl) (by kernel_rfl) (fun _ _ _ h => absurd h.1 (by simp)) (.inl ⟨by rfl, fun _ _ => by go_simp⟩) hHeld ?_
                  try simp only [Act.put, List.getElem_toArray, List.getElem_cons_zero, List.getElem_cons_succ, List.setIfInBounds_toArray, List.set_cons_zero, List.set_cons_succ]
                  refine wpAnyH_done (by kernel_rfl) ?_ _
                  refine ⟨rfl, g14, ?_, hHeld, n14, H14'.out⟩
                  rw [ws_four M HSLM.out]
                  try rfl
                refine AllReadyH.cons rfl (fun K hK => ?_) AllReadyH.nil
                go_simp
                have hb := below_alloc (Below.refl W0.heap.size W0) (.cells #[Value.int .u64 0, .int .u64 0, .int .u64 0, .int .u64 0] 24)
                have H14 := Aside0.mk (And.intro (show Holds (W0.alloc (.cells #[Value.int .u64 0, .int .u64 0, .int .u64 0, .int .u64 0] 24)) W0.heap.size 24 (List.replicate 4 0) from blk_new W0 _) hHeld.size)
                refine hK.out _ _ (below_step hHeld hb) (fun hHeld => ?_)
                clear hb hK K
                generalize W0.alloc _ = X15 at *
                generalize W0.heap.size = g14 at *
                try simp only [Act.put, List.getElem_toArray, List.getElem_cons_zero, List.getElem_cons_succ, List.setIfInBounds_toArray, List.set_cons_zero, List.set_cons_succ]
                refine wpAnyH_ready (rs := [9]) (by kernel_rfl) (by simp) ?_
                refine AllReadyH.cons rfl (fun K hK => ?_) AllReadyH.nil
                go_simp
                refine (HSB2.out _).mono ?_
                rintro e X16 ⟨rfl, hb⟩
                replace H14 := Aside0.mk (And.intro (Holds.below H14.out.1 hb) H14.out.2)
                refine hK.out _ _ (below_step hHeld hb) (fun hHeld => ?_)
                clear hb hK K
                try simp only [Act.put, List.getElem_toArray, List.getElem_cons_zero, List.getElem_cons_succ, List.setIfInBounds_toArray, List.set_cons_zero, List.set_cons_succ]
                refine wpAnyH_take (i := 10) (v := .tuple #[.agg (ws M), .bool false]) rfl (by kernel_rfl) (by kernel_rfl) (by kernel_rfl) (fun _ _ _ h => absurd h.1 (by simp)) (.inl ⟨by rfl, fun _ _ => by go_simp⟩) hHeld ?_
                try simp only [Act.put, List.getElem_toArray, List.getElem_cons_zero, List.getElem_cons_succ, List.setIfInBounds_toArray, List.set_cons_zero, List.set_cons_succ]
                refine wpAnyH_take (i := 11) (v := .agg (ws M)) rfl (by kernel_rfl) (by kernel_rfl) (by kernel_rfl) (fun _ _ _ h => absurd h.1 (by simp)) (.inl ⟨by rfl, fun _ _ => by go_simp⟩) hHeld ?_
                try simp only [Act.put, List.getElem_toArray, List.getElem_cons_zero, List.getElem_cons_succ, List.setIfInBounds_toArray, List.set_cons_zero, List.set_cons_succ]
                refine wpAnyH_take (i := 12) (v := .bool false) rfl (by kernel_rfl) (by kernel_rfl) (by kernel_rfl) (fun _ _ _ h => absurd h.1 (by simp)) (.inl ⟨by rfl, fun _ _ => by go_simp⟩) hHeld ?_
                try simp only [Act.put, List.getElem_toArray, List.getElem_cons_zero, List.getElem_cons_succ, List.setIfInBounds_toArray, List.set_cons_zero, List.set_cons_succ]
                have hx := H14.out.1
                have z0 := hx.cell 0 (by simp)
                have y0 := hx.free 0
                have z1 := hx.cell 1 (by simp)
                have y1 := hx.free 1
                have z2 := hx.cell 2 (by simp)
                have y2 := hx.free 2
                have z3 := hx.cell 3 (by simp)
                have y3 := hx.free 3
                clear hx
                have hwf := ws_four M HSLM.out
                refine wpAnyH_ready (rs := [14]) (by kernel_rfl) (by simp) ?_
                refine AllReadyH.cons rfl (fun K hK => ?_) AllReadyH.nil
                go_simp
                have n14 := H14.out.2
                refine hK.out _ _ (below_set (below_set (below_set (below_set hHeld n14) n14) n14) n14) (fun hHeld => ?_)
                clear hK K z0 z1 z2 z3 y0 y1 y2 y3 hwf
                have H14' := Aside0.mk (set_four (L := List.replicate 4 0) (H := M) rfl HSLM.out H14.out.1)
                try simp only [Act.put, List.getElem_toArray, List.getElem_cons_zero, List.getElem_cons_succ, List.setIfInBounds_toArray, List.set_cons_zero, List.set_cons_succ]
                refine wpAnyH_take (i := 15) (v := .bool false) rfl (by kernel_rfl) (by kernel_rfl) (by kernel_rfl) (fun _ _ _ h => absurd h.1 (by simp)) (.inl ⟨by rfl, fun _ _ => by go_simp⟩) hHeld ?_
                try simp only [Act.put, List.getElem_toArray, List.getElem_cons_zero, List.getElem_cons_succ, List.setIfInBounds_toArray, List.set_cons_zero, List.set_cons_succ]
                refine wpAnyH_done (by kernel_rfl) ?_ _
                refine ⟨rfl, g14, ?_, hHeld, n14, H14'.out⟩
                rw [ws_four M HSLM.out]
                try rfl
              case hnext =>
                rintro _ w5 ⟨g17, rfl, hb5, n17, h17⟩
                try simp only [Act.put, List.getElem_toArray, List.getElem_cons_zero, List.getElem_cons_succ, List.setIfInBounds_toArray, List.set_cons_zero, List.set_cons_succ]
                have HW5 := Aside0.mk (below_step HW4.out hb5)
                have H115 := Aside0.mk (Holds.below H114.out hb5)
                have H125 := Aside0.mk (Holds.below H124.out hb5)
                have H155 := Aside0.mk (Holds.below H154.out hb5)
                have H17 := Aside0.mk h17
                clear HQ HW4 H114 H124 H154 hb5 n17 h17
                have HQ := Aside0.mk (fun X (hX : Below w5.heap.size w5 X) => below_step HW5.out hX)
                go_wp2_with fail
                refine wp_put (fun a0 a' w' => a' = ((((((((((((((((((((((((a0.put (some 93) (.bool false)).put (some 94) (.bool false)).put (some 95) (.bool false)).put (some 96) (.bool false)).put (some 97) (.bool false)).put (some 98) (.agg #[.int .u64 (vw (gw M 0)), .int .u64 (vw (gw M 1)), .int .u64 (vw (gw M 2)), .int .u64 (vw (gw M 3))])).put (some 99) (.slice (some ad) l.length c)).put (some 100) (.int .i64 (i : Nat))).put (some 101) (.pointer (some (ad.add (i * 8))))).put (some 102) (.pointer (some ⟨(ad.add (i * 8)).block, (ad.add (i * 8)).off + 1, none⟩))).put (some 103) (.agg #[.int .u64 (vw (gw M 0)), .int .u64 (vw (gw M 1)), .int .u64 (vw (gw M 2)), .int .u64 (vw (gw M 3))])).put (some 104) (.bool false)).put (some 105) (.bool false)).put (some 106) (.bool false)).put (some 107) (.bool false)).put (some 108) (.bool false)).put (some 109) (undef)).put (some 110) (undef)).put (some 111) (undef)).put (some 112) (undef)).put (some 113) (undef)).put (some 114) (undef)).put (some 115) (.bool false)).put (some 116) (.bool false)) ∧ Below w5.heap.size w5 w') ?hreg ?hnext
                case hreg =>
                  refine wp_region_held_drew (S := fun X => Below w5.heap.size w5 X) (by kernel_rfl) (below_drew1 (Below.refl _ _)) (fun hHeld => ?_)
                  generalize w5.drew = W0 at *
                  try simp only [Act.put, List.getElem_toArray, List.getElem_cons_zero, List.getElem_cons_succ, List.setIfInBounds_toArray, List.set_cons_zero, List.set_cons_succ]
                  refine wpAnyH_take (i := 0) (v := .bool false) rfl (by kernel_rfl) (by kernel_rfl) (by kernel_rfl) (fun _ _ _ h => absurd h.1 (by simp)) (.inl ⟨by rfl, fun _ _ => by go_simp⟩) hHeld ?_
                  try simp only [Act.put, List.getElem_toArray, List.getElem_cons_zero, List.getElem_cons_succ, List.setIfInBounds_toArray, List.set_cons_zero, List.set_cons_succ]
                  refine wpAnyH_take (i := 1) (v := .bool false) rfl (by kernel_rfl) (by kernel_rfl) (by kernel_rfl) (fun _ _ _ h => absurd h.1 (by simp)) (.inl ⟨by rfl, fun _ _ => by go_simp⟩) hHeld ?_
                  try simp only [Act.put, List.getElem_toArray, List.getElem_cons_zero, List.getElem_cons_succ, List.setIfInBounds_toArray, List.set_cons_zero, List.set_cons_succ]
                  refine wpAnyH_take (i := 2) (v := .bool false) rfl (by kernel_rfl) (by kernel_rfl) (by kernel_rfl) (fun _ _ _ h => absurd h.1 (by simp)) (.inl ⟨by rfl, fun _ _ => by go_simp⟩) hHeld ?_
                  try simp only [Act.put, List.getElem_toArray, List.getElem_cons_zero, List.getElem_cons_succ, List.setIfInBounds_toArray, List.set_cons_zero, List.set_cons_succ]
                  refine wpAnyH_take (i := 3) (v := .bool false) rfl (by kernel_rfl) (by kernel_rfl) (by kernel_rfl) (fun _ _ _ h => absurd h.1 (by simp)) (.inl ⟨by rfl, fun _ _ => by go_simp⟩) hHeld ?_
                  try simp only [Act.put, List.getElem_toArray, List.getElem_cons_zero, List.getElem_cons_succ, List.setIfInBounds_toArray, List.set_cons_zero, List.set_cons_succ]
                  refine wpAnyH_take (i := 4) (v := .bool false) rfl (by kernel_rfl) (by kernel_rfl) (by kernel_rfl) (fun _ _ _ h => absurd h.1 (by simp)) (.inl ⟨by rfl, fun _ _ => by go_simp⟩) hHeld ?_
                  try simp only [Act.put, List.getElem_toArray, List.getElem_cons_zero, List.getElem_cons_succ, List.setIfInBounds_toArray, List.set_cons_zero, List.set_cons_succ]
                  refine wpAnyH_take (i := 5) (v := .agg #[.int .u64 (vw (gw M 0)), .int .u64 (vw (gw M 1)), .int .u64 (vw (gw M 2)), .int .u64 (vw (gw M 3))]) rfl (by kernel_rfl) (by kernel_rfl) (by kernel_rfl) (fun _ _ _ h => absurd h.1 (by simp)) (yieldsIf_load_mid rfl 24 _ rfl g17 0 rfl [.int .u64 (vw (gw M 0)), .int .u64 (vw (gw M 1)), .int .u64 (vw (gw M 2)), .int .u64 (vw (gw M 3))] _ (fun X' hS => by rw [← wl_four M HSLM.out]; exact range_of (Holds.below H17.out hS)) Try.underlying24 rfl (by rw [Hi24.out]; rfl)) hHeld ?_
                  try simp only [Act.put, List.getElem_toArray, List.getElem_cons_zero, List.getElem_cons_succ, List.setIfInBounds_toArray, List.set_cons_zero, List.set_cons_succ]
                  refine wpAnyH_take (i := 6) (v := .slice (some ad) l.length c) rfl (by kernel_rfl) (by kernel_rfl) (by kernel_rfl) (fun _ _ _ h => absurd h.1 (by simp)) (.inl ⟨by rfl, fun _ _ => by go_simp⟩) hHeld ?_
                  try simp only [Act.put, List.getElem_toArray, List.getElem_cons_zero, List.getElem_cons_succ, List.setIfInBounds_toArray, List.set_cons_zero, List.set_cons_succ]
                  refine wpAnyH_take (i := 7) (v := .int .i64 (i : Nat)) rfl (by kernel_rfl) (by kernel_rfl) (by kernel_rfl) (fun _ _ _ h => absurd h.1 (by simp)) (.inl ⟨by rfl, fun _ _ => by go_simp⟩) hHeld ?_
                  try simp only [Act.put, List.getElem_toArray, List.getElem_cons_zero, List.getElem_cons_succ, List.setIfInBounds_toArray, List.set_cons_zero, List.set_cons_succ]
                  refine wpAnyH_take (i := 8) (v := .pointer (some (ad.add (i * 8)))) rfl (by kernel_rfl) (by kernel_rfl) (by kernel_rfl) (fun _ _ _ h => absurd h.1 (by simp)) (.inl ⟨by rfl, fun _ _ => by go_simp⟩) hHeld ?_
                  try simp only [Act.put, List.getElem_toArray, List.getElem_cons_zero, List.getElem_cons_succ, List.setIfInBounds_toArray, List.set_cons_zero, List.set_cons_succ]
                  refine wpAnyH_take (i := 9) (v := .pointer (some ⟨(ad.add (i * 8)).block, (ad.add (i * 8)).off + 1, none⟩)) rfl (by kernel_rfl) (by kernel_rfl) (by kernel_rfl) (fun _ _ _ h => absurd h.1 (by simp)) (.inl ⟨by rfl, fun _ _ => by go_simp⟩) hHeld ?_
                  try simp only [Act.put, List.getElem_toArray, List.getElem_cons_zero, List.getElem_cons_succ, List.setIfInBounds_toArray, List.set_cons_zero, List.set_cons_succ]
                  refine wpAnyH_take (i := 10) (v := .agg #[.int .u64 (vw (gw M 0)), .int .u64 (vw (gw M 1)), .int .u64 (vw (gw M 2)), .int .u64 (vw (gw M 3))]) rfl (by kernel_rfl) (by kernel_rfl) (by kernel_rfl) (fun _ _ _ h => absurd h.1 (by simp)) (.inl ⟨by rfl, fun X' hS => by have hh := cellsAm HL.out.2.1 rfl (HB.out _ (HQ.out _ hS)) i hi; rw [HME.out] at hh; obtain ⟨b0, b1, b2, b3⟩ := hh; go_simp⟩) hHeld ?_
                  try simp only [Act.put, List.getElem_toArray, List.getElem_cons_zero, List.getElem_cons_succ, List.setIfInBounds_toArray, List.set_cons_zero, List.set_cons_succ]
                  refine wpAnyH_take (i := 11) (v := .bool false) rfl (by kernel_rfl) (by kernel_rfl) (by kernel_rfl) (fun _ _ _ h => absurd h.1 (by simp)) (.inl ⟨by rfl, fun _ _ => by go_simp⟩) hHeld ?_
                  try simp only [Act.put, List.getElem_toArray, List.getElem_cons_zero, List.getElem_cons_succ, List.setIfInBounds_toArray, List.set_cons_zero, List.set_cons_succ]
                  refine wpAnyH_take (i := 12) (v := .bool false) rfl (by kernel_rfl) (by kernel_rfl) (by kernel_rfl) (fun _ _ _ h => absurd h.1 (by simp)) (.inl ⟨by rfl, fun _ _ => by go_simp⟩) hHeld ?_
                  try simp only [Act.put, List.getElem_toArray, List.getElem_cons_zero, List.getElem_cons_succ, List.setIfInBounds_toArray, List.set_cons_zero, List.set_cons_succ]
                  refine wpAnyH_take (i := 13) (v := .bool false) rfl (by kernel_rfl) (by kernel_rfl) (by kernel_rfl) (fun _ _ _ h => absurd h.1 (by simp)) (.inl ⟨by rfl, fun _ _ => by go_simp⟩) hHeld ?_
                  try simp only [Act.put, List.getElem_toArray, List.getElem_cons_zero, List.getElem_cons_succ, List.setIfInBounds_toArray, List.set_cons_zero, List.set_cons_succ]
                  refine wpAnyH_take (i := 14) (v := .bool false) rfl (by kernel_rfl) (by kernel_rfl) (by kernel_rfl) (fun _ _ _ h => absurd h.1 (by simp)) (.inl ⟨by rfl, fun _ _ => by go_simp⟩) hHeld ?_
                  try simp only [Act.put, List.getElem_toArray, List.getElem_cons_zero, List.getElem_cons_succ, List.setIfInBounds_toArray, List.set_cons_zero, List.set_cons_succ]
                  refine wpAnyH_take (i := 15) (v := .bool false) rfl (by kernel_rfl) (by kernel_rfl) (by kernel_rfl) (fun _ _ _ h => absurd h.1 (by simp)) (.inl ⟨by rfl, fun _ _ => by go_simp⟩) hHeld ?_
                  try simp only [Act.put, List.getElem_toArray, List.getElem_cons_zero, List.getElem_cons_succ, List.setIfInBounds_toArray, List.set_cons_zero, List.set_cons_succ]
                  refine wpAnyH_take (i := 16) (v := undef) rfl (by kernel_rfl) (by kernel_rfl) (by kernel_rfl) (fun _ _ _ h => absurd h.1 (by simp)) (.inr ⟨by rfl, rfl⟩) hHeld ?_
                  try simp only [Act.put, List.getElem_toArray, List.getElem_cons_zero, List.getElem_cons_succ, List.setIfInBounds_toArray, List.set_cons_zero, List.set_cons_succ]
                  refine wpAnyH_take (i := 17) (v := undef) rfl (by kernel_rfl) (by kernel_rfl) (by kernel_rfl) (fun _ _ _ h => absurd h.1 (by simp)) (.inr ⟨by rfl, rfl⟩) hHeld ?_
                  try simp only [Act.put, List.getElem_toArray, List.getElem_cons_zero, List.getElem_cons_succ, List.setIfInBounds_toArray, List.set_cons_zero, List.set_cons_succ]
                  refine wpAnyH_take (i := 18) (v := undef) rfl (by kernel_rfl) (by kernel_rfl) (by kernel_rfl) (fun _ _ _ h => absurd h.1 (by simp)) (.inr ⟨by rfl, rfl⟩) hHeld ?_
                  try simp only [Act.put, List.getElem_toArray, List.getElem_cons_zero, List.getElem_cons_succ, List.setIfInBounds_toArray, List.set_cons_zero, List.set_cons_succ]
                  refine wpAnyH_take (i := 19) (v := undef) rfl (by kernel_rfl) (by kernel_rfl) (by kernel_rfl) (fun _ _ _ h => absurd h.1 (by simp)) (.inr ⟨by rfl, rfl⟩) hHeld ?_
                  try simp only [Act.put, List.getElem_toArray, List.getElem_cons_zero, List.getElem_cons_succ, List.setIfInBounds_toArray, List.set_cons_zero, List.set_cons_succ]
                  refine wpAnyH_take (i := 20) (v := undef) rfl (by kernel_rfl) (by kernel_rfl) (by kernel_rfl) (fun _ _ _ h => absurd h.1 (by simp)) (.inr ⟨by rfl, rfl⟩) hHeld ?_
                  try simp only [Act.put, List.getElem_toArray, List.getElem_cons_zero, List.getElem_cons_succ, List.setIfInBounds_toArray, List.set_cons_zero, List.set_cons_succ]
                  refine wpAnyH_take (i := 21) (v := undef) rfl (by kernel_rfl) (by kernel_rfl) (by kernel_rfl) (fun _ _ _ h => absurd h.1 (by simp)) (.inr ⟨by rfl, rfl⟩) hHeld ?_
                  try simp only [Act.put, List.getElem_toArray, List.getElem_cons_zero, List.getElem_cons_succ, List.setIfInBounds_toArray, List.set_cons_zero, List.set_cons_succ]
                  refine wpAnyH_take (i := 22) (v := .bool false) rfl (by kernel_rfl) (by kernel_rfl) (by kernel_rfl) (fun _ _ _ h => absurd h.1 (by simp)) (.inl ⟨by rfl, fun _ _ => by go_simp⟩) hHeld ?_
                  try simp only [Act.put, List.getElem_toArray, List.getElem_cons_zero, List.getElem_cons_succ, List.setIfInBounds_toArray, List.set_cons_zero, List.set_cons_succ]
                  refine wpAnyH_take (i := 23) (v := .bool false) rfl (by kernel_rfl) (by kernel_rfl) (by kernel_rfl) (fun _ _ _ h => absurd h.1 (by simp)) (.inl ⟨by rfl, fun _ _ => by go_simp⟩) hHeld ?_
                  try simp only [Act.put, List.getElem_toArray, List.getElem_cons_zero, List.getElem_cons_succ, List.setIfInBounds_toArray, List.set_cons_zero, List.set_cons_succ]
                  refine wpAnyH_done (by kernel_rfl) ?_ _
                  refine ⟨rfl, ?_, hHeld⟩
                  try rfl
                case hnext =>
                  rintro _ w6 ⟨rfl, hb6⟩
                  try simp only [Act.put, List.getElem_toArray, List.getElem_cons_zero, List.getElem_cons_succ, List.setIfInBounds_toArray, List.set_cons_zero, List.set_cons_succ]
                  have HW6 := Aside0.mk (below_step HW5.out hb6)
                  have H116 := Aside0.mk (Holds.below H115.out hb6)
                  have H126 := Aside0.mk (Holds.below H125.out hb6)
                  have H156 := Aside0.mk (Holds.below H155.out hb6)
                  clear HQ HW5 H115 H125 H155 hb6 H17
                  go_wp2_with (first | (refine load_ws rfl 24 _ rfl g15 rfl 24 La 4 _ H156.out HSLLa.out Try.underlying24 rfl Hi24.out ?_) | (refine store_ws rfl 24 _ _ rfl g11 rfl 24 S La 4 rfl H116.out HSS.out HSLLa.out Hi24.out ?_))
                  intro w7 h11 hbl hoth hsz
                  clear hsz
                  have HW7 := Aside0.mk (HW6.out.trans (hbl _ HG11.out))
                  have H117 := Aside0.mk h11
                  have H127 := Aside0.mk (hoth g12 24 Z HNE.out.symm H126.out)
                  clear h11 hbl hoth HW6 H116 H126 H156
                  have HSB3 := Aside0.mk (fun X => add_lit Z (am (at40 l i)) HSZ.out rfl X)
                  have HSLc := Aside0.mk (show (addk Z (am (at40 l i)) 4).1.length = 4 by rw [addk_len]; exact HSZ.out)
                  go_wp2_with fail
                  have HK5 := Aside0.mk (fun h => keep5 H l HSZ.out (HVZ.out hs) h)
                  have HK6 := Aside0.mk (fun h => keep6 l HSZ.out (HVZ.out hs) h)
                  have HK7 := Aside0.mk (keep7 H HL.out.1 HSLc.out)
                  have HCM := Aside0.mk (fun X => cmp_lit (addk Z (am (at40 l i)) 4).1 H HSLc.out HL.out.1 X)
                  generalize addk Z (am (at40 l i)) 4 = Sc at *
                  obtain ⟨Lc, uc⟩ := Sc
                  simp only at HSB3 HSLc HK5 HK6 HK7 HCM
                  refine wp_put (fun a0 a' w' => a' = (((((((((((a0.put (some 119) (.agg #[.int .u64 (vw (gw Z 0)), .int .u64 (vw (gw Z 1)), .int .u64 (vw (gw Z 2)), .int .u64 (vw (gw Z 3))])).put (some 120) (.slice (some ad) l.length c)).put (some 121) (.int .i64 (i : Nat))).put (some 122) (.pointer (some (ad.add (i * 8))))).put (some 123) (.pointer (some ⟨(ad.add (i * 8)).block, (ad.add (i * 8)).off + 1, none⟩))).put (some 124) (.agg #[.int .u64 (vw (gw (am (at40 l i)) 0)), .int .u64 (vw (gw (am (at40 l i)) 1)), .int .u64 (vw (gw (am (at40 l i)) 2)), .int .u64 (vw (gw (am (at40 l i)) 3))])).put (some 125) (.tuple #[.agg (ws Lc), .bool (decide (uc > 0))])).put (some 118) (.tuple #[.agg (ws Lc), .bool (decide (uc > 0))])).put (some 126) (.agg (ws Lc))).put (some 127) (.bool (decide (uc > 0)))).put (some 19) (.bool (decide (uc > 0)))) ∧ Below w3.heap.size w3 w' ∧ Holds w' g11 24 La ∧ Holds w' g12 24 Lc) ?hreg ?hnext
                  case hreg =>
                    refine wp_region_held_drew (S := fun _ => True) (by kernel_rfl) trivial (fun _ => ?_)
                    have HWd := Aside0.mk (show Below w3.heap.size w3 w7.drew from below_drew1 HW7.out)
                    have H11d := Aside0.mk (show Holds w7.drew g11 24 La from H117.out)
                    have H12d := Aside0.mk (show Holds w7.drew g12 24 Z from H127.out)
                    generalize w7.drew = W0 at *
                    try simp only [Act.put, List.getElem_toArray, List.getElem_cons_zero, List.getElem_cons_succ, List.setIfInBounds_toArray, List.set_cons_zero, List.set_cons_succ]
                    refine wpAnyH_take (i := 1) (v := .slice (some ad) l.length c) rfl (by kernel_rfl) (by kernel_rfl) (by kernel_rfl) (fun _ _ _ h => absurd h.1 (by simp)) (.inl ⟨by rfl, fun _ _ => by go_simp⟩) trivial ?_
                    try simp only [Act.put, List.getElem_toArray, List.getElem_cons_zero, List.getElem_cons_succ, List.setIfInBounds_toArray, List.set_cons_zero, List.set_cons_succ]
                    refine wpAnyH_take (i := 2) (v := .int .i64 (i : Nat)) rfl (by kernel_rfl) (by kernel_rfl) (by kernel_rfl) (fun _ _ _ h => absurd h.1 (by simp)) (.inl ⟨by rfl, fun _ _ => by go_simp⟩) trivial ?_
                    try simp only [Act.put, List.getElem_toArray, List.getElem_cons_zero, List.getElem_cons_succ, List.setIfInBounds_toArray, List.set_cons_zero, List.set_cons_succ]
                    refine wpAnyH_take (i := 3) (v := .pointer (some (ad.add (i * 8)))) rfl (by kernel_rfl) (by kernel_rfl) (by kernel_rfl) (fun _ _ _ h => absurd h.1 (by simp)) (.inl ⟨by rfl, fun _ _ => by go_simp⟩) trivial ?_
                    try simp only [Act.put, List.getElem_toArray, List.getElem_cons_zero, List.getElem_cons_succ, List.setIfInBounds_toArray, List.set_cons_zero, List.set_cons_succ]
                    refine wpAnyH_take (i := 4) (v := .pointer (some ⟨(ad.add (i * 8)).block, (ad.add (i * 8)).off + 1, none⟩)) rfl (by kernel_rfl) (by kernel_rfl) (by kernel_rfl) (fun _ _ _ h => absurd h.1 (by simp)) (.inl ⟨by rfl, fun _ _ => by go_simp⟩) trivial ?_
                    try simp only [Act.put, List.getElem_toArray, List.getElem_cons_zero, List.getElem_cons_succ, List.setIfInBounds_toArray, List.set_cons_zero, List.set_cons_succ]
                    refine wpAnyH_ready (rs := [0, 5]) (by kernel_rfl) (by simp) ?_
                    refine AllReadyH.cons rfl (fun K hK => ?_) ?_
                    · obtain ⟨b0, b1, b2, b3⟩ : W0.cell? ⟨g12, 0, none⟩ = some (.int .u64 (vw (gw Z 0))) ∧ W0.cell? ⟨g12, 1, none⟩ = some (.int .u64 (vw (gw Z 1))) ∧ W0.cell? ⟨g12, 2, none⟩ = some (.int .u64 (vw (gw Z 2))) ∧ W0.cell? ⟨g12, 3, none⟩ = some (.int .u64 (vw (gw Z 3))) := ⟨H12d.out.cell 0 (by rw [HSZ.out]; omega), H12d.out.cell 1 (by rw [HSZ.out]; omega), H12d.out.cell 2 (by rw [HSZ.out]; omega), H12d.out.cell 3 (by rw [HSZ.out]; omega)⟩
                      go_simp
                      clear b0 b1 b2 b3
                      refine hK.out _ _ trivial (fun _ => ?_)
                      clear hK K
                      try simp only [Act.put, List.getElem_toArray, List.getElem_cons_zero, List.getElem_cons_succ, List.setIfInBounds_toArray, List.set_cons_zero, List.set_cons_succ]
                      refine wpAnyH_ready (rs := [5]) (by kernel_rfl) (by simp) ?_
                      refine AllReadyH.cons rfl (fun K hK => ?_) AllReadyH.nil
                      obtain ⟨b0, b1, b2, b3⟩ := cellsAm HL.out.2.1 rfl (HB.out _ HWd.out) i hi
                      go_simp
                      clear b0 b1 b2 b3
                      refine hK.out _ _ trivial (fun _ => ?_)
                      clear hK K
                      try simp only [Act.put, List.getElem_toArray, List.getElem_cons_zero, List.getElem_cons_succ, List.setIfInBounds_toArray, List.set_cons_zero, List.set_cons_succ]
                      refine wpAnyH_ready (rs := [6]) (by kernel_rfl) (by simp) ?_
                      refine AllReadyH.cons rfl (fun K hK => ?_) AllReadyH.nil
                      go_simp
                      refine (HSB3.out _).mono ?_
                      rintro e X1 ⟨rfl, hb⟩
                      have HWe := Aside0.mk (below_step HWd.out hb)
                      have H11e := Aside0.mk (Holds.below H11d.out hb)
                      have H12e := Aside0.mk (Holds.below H12d.out hb)
                      clear hb
                      refine hK.out _ _ trivial (fun _ => ?_)
                      clear hK K
                      try simp only [Act.put, List.getElem_toArray, List.getElem_cons_zero, List.getElem_cons_succ, List.setIfInBounds_toArray, List.set_cons_zero, List.set_cons_succ]
                      refine wpAnyH_take (i := 7) (v := .tuple #[.agg (ws Lc), .bool (decide (uc > 0))]) rfl (by kernel_rfl) (by kernel_rfl) (by kernel_rfl) (fun _ _ _ h => absurd h.1 (by simp)) (.inl ⟨by rfl, fun _ _ => by go_simp⟩) trivial ?_
                      try simp only [Act.put, List.getElem_toArray, List.getElem_cons_zero, List.getElem_cons_succ, List.setIfInBounds_toArray, List.set_cons_zero, List.set_cons_succ]
                      refine wpAnyH_take (i := 8) (v := .agg (ws Lc)) rfl (by kernel_rfl) (by kernel_rfl) (by kernel_rfl) (fun _ _ _ h => absurd h.1 (by simp)) (.inl ⟨by rfl, fun _ _ => by go_simp⟩) trivial ?_
                      try simp only [Act.put, List.getElem_toArray, List.getElem_cons_zero, List.getElem_cons_succ, List.setIfInBounds_toArray, List.set_cons_zero, List.set_cons_succ]
                      refine wpAnyH_take (i := 9) (v := .bool (decide (uc > 0))) rfl (by kernel_rfl) (by kernel_rfl) (by kernel_rfl) (fun _ _ _ h => absurd h.1 (by simp)) (.inl ⟨by rfl, fun _ _ => by go_simp⟩) trivial ?_
                      try simp only [Act.put, List.getElem_toArray, List.getElem_cons_zero, List.getElem_cons_succ, List.setIfInBounds_toArray, List.set_cons_zero, List.set_cons_succ]
                      have z0 := H12e.out.cell 0 (by rw [HSZ.out]; omega)
                      have y0 := H12e.out.free 0
                      have z1 := H12e.out.cell 1 (by rw [HSZ.out]; omega)
                      have y1 := H12e.out.free 1
                      have z2 := H12e.out.cell 2 (by rw [HSZ.out]; omega)
                      have y2 := H12e.out.free 2
                      have z3 := H12e.out.cell 3 (by rw [HSZ.out]; omega)
                      have y3 := H12e.out.free 3
                      have hwf := ws_four Lc HSLc.out
                      refine wpAnyH_ready (rs := [10]) (by kernel_rfl) (by simp) ?_
                      refine AllReadyH.cons rfl (fun K hK => ?_) AllReadyH.nil
                      go_simp
                      refine hK.out _ _ trivial (fun _ => ?_)
                      clear hK K z0 z1 z2 z3 y0 y1 y2 y3 hwf
                      try simp only [Act.put, List.getElem_toArray, List.getElem_cons_zero, List.getElem_cons_succ, List.setIfInBounds_toArray, List.set_cons_zero, List.set_cons_succ]
                      refine wpAnyH_take (i := 11) (v := .bool (decide (uc > 0))) rfl (by kernel_rfl) (by kernel_rfl) (by kernel_rfl) (fun _ _ _ h => absurd h.1 (by simp)) (.inl ⟨by rfl, fun _ _ => by go_simp⟩) trivial ?_
                      try simp only [Act.put, List.getElem_toArray, List.getElem_cons_zero, List.getElem_cons_succ, List.setIfInBounds_toArray, List.set_cons_zero, List.set_cons_succ]
                      refine wpAnyH_done (by kernel_rfl) ?_ _
                      refine ⟨rfl, ?_, below_set (below_set (below_set (below_set HWe.out HG12.out) HG12.out) HG12.out) HG12.out, (((H11e.out.far HNE.out _).far HNE.out _).far HNE.out _).far HNE.out _, set_four HSZ.out HSLc.out H12e.out⟩
                      rw [ws_four Lc HSLc.out]
                      try rfl
                    refine AllReadyH.cons rfl (fun K hK => ?_) AllReadyH.nil
                    obtain ⟨b0, b1, b2, b3⟩ := cellsAm HL.out.2.1 rfl (HB.out _ HWd.out) i hi
                    go_simp
                    clear b0 b1 b2 b3
                    refine hK.out _ _ trivial (fun _ => ?_)
                    clear hK K
                    try simp only [Act.put, List.getElem_toArray, List.getElem_cons_zero, List.getElem_cons_succ, List.setIfInBounds_toArray, List.set_cons_zero, List.set_cons_succ]
                    refine wpAnyH_ready (rs := [0]) (by kernel_rfl) (by simp) ?_
                    refine AllReadyH.cons rfl (fun K hK => ?_) AllReadyH.nil
                    obtain ⟨b0, b1, b2, b3⟩ : W0.cell? ⟨g12, 0, none⟩ = some (.int .u64 (vw (gw Z 0))) ∧ W0.cell? ⟨g12, 1, none⟩ = some (.int .u64 (vw (gw Z 1))) ∧ W0.cell? ⟨g12, 2, none⟩ = some (.int .u64 (vw (gw Z 2))) ∧ W0.cell? ⟨g12, 3, none⟩ = some (.int .u64 (vw (gw Z 3))) := ⟨H12d.out.cell 0 (by rw [HSZ.out]; omega), H12d.out.cell 1 (by rw [HSZ.out]; omega), H12d.out.cell 2 (by rw [HSZ.out]; omega), H12d.out.cell 3 (by rw [HSZ.out]; omega)⟩
                    go_simp
                    clear b0 b1 b2 b3
                    refine hK.out _ _ trivial (fun _ => ?_)
                    clear hK K
                    try simp only [Act.put, List.getElem_toArray, List.getElem_cons_zero, List.getElem_cons_succ, List.setIfInBounds_toArray, List.set_cons_zero, List.set_cons_succ]
                    refine wpAnyH_ready (rs := [6]) (by kernel_rfl) (by simp) ?_
                    refine AllReadyH.cons rfl (fun K hK => ?_) AllReadyH.nil
                    go_simp
                    refine (HSB3.out _).mono ?_
                    rintro e X1 ⟨rfl, hb⟩
                    have HWe := Aside0.mk (below_step HWd.out hb)
                    have H11e := Aside0.mk (Holds.below H11d.out hb)
                    have H12e := Aside0.mk (Holds.below H12d.out hb)
                    clear hb
                    refine hK.out _ _ trivial (fun _ => ?_)
                    clear hK K
                    try simp only [Act.put, List.getElem_toArray, List.getElem_cons_zero, List.getElem_cons_succ, List.setIfInBounds_toArray, List.set_cons_zero, List.set_cons_succ]
                    refine wpAnyH_take (i := 7) (v := .tuple #[.agg (ws Lc), .bool (decide (uc > 0))]) rfl (by kernel_rfl) (by kernel_rfl) (by kernel_rfl) (fun _ _ _ h => absurd h.1 (by simp)) (.inl ⟨by rfl, fun _ _ => by go_simp⟩) trivial ?_
                    try simp only [Act.put, List.getElem_toArray, List.getElem_cons_zero, List.getElem_cons_succ, List.setIfInBounds_toArray, List.set_cons_zero, List.set_cons_succ]
                    refine wpAnyH_take (i := 8) (v := .agg (ws Lc)) rfl (by kernel_rfl) (by kernel_rfl) (by kernel_rfl) (fun _ _ _ h => absurd h.1 (by simp)) (.inl ⟨by rfl, fun _ _ => by go_simp⟩) trivial ?_
                    try simp only [Act.put, List.getElem_toArray, List.getElem_cons_zero, List.getElem_cons_succ, List.setIfInBounds_toArray, List.set_cons_zero, List.set_cons_succ]
                    refine wpAnyH_take (i := 9) (v := .bool (decide (uc > 0))) rfl (by kernel_rfl) (by kernel_rfl) (by kernel_rfl) (fun _ _ _ h => absurd h.1 (by simp)) (.inl ⟨by rfl, fun _ _ => by go_simp⟩) trivial ?_
                    try simp only [Act.put, List.getElem_toArray, List.getElem_cons_zero, List.getElem_cons_succ, List.setIfInBounds_toArray, List.set_cons_zero, List.set_cons_succ]
                    have z0 := H12e.out.cell 0 (by rw [HSZ.out]; omega)
                    have y0 := H12e.out.free 0
                    have z1 := H12e.out.cell 1 (by rw [HSZ.out]; omega)
                    have y1 := H12e.out.free 1
                    have z2 := H12e.out.cell 2 (by rw [HSZ.out]; omega)
                    have y2 := H12e.out.free 2
                    have z3 := H12e.out.cell 3 (by rw [HSZ.out]; omega)
                    have y3 := H12e.out.free 3
                    have hwf := ws_four Lc HSLc.out
                    refine wpAnyH_ready (rs := [10]) (by kernel_rfl) (by simp) ?_
                    refine AllReadyH.cons rfl (fun K hK => ?_) AllReadyH.nil
                    go_simp
                    refine hK.out _ _ trivial (fun _ => ?_)
                    clear hK K z0 z1 z2 z3 y0 y1 y2 y3 hwf
                    try simp only [Act.put, List.getElem_toArray, List.getElem_cons_zero, List.getElem_cons_succ, List.setIfInBounds_toArray, List.set_cons_zero, List.set_cons_succ]
                    refine wpAnyH_take (i := 11) (v := .bool (decide (uc > 0))) rfl (by kernel_rfl) (by kernel_rfl) (by kernel_rfl) (fun _ _ _ h => absurd h.1 (by simp)) (.inl ⟨by rfl, fun _ _ => by go_simp⟩) trivial ?_
                    try simp only [Act.put, List.getElem_toArray, List.getElem_cons_zero, List.getElem_cons_succ, List.setIfInBounds_toArray, List.set_cons_zero, List.set_cons_succ]
                    refine wpAnyH_done (by kernel_rfl) ?_ _
                    refine ⟨rfl, ?_, below_set (below_set (below_set (below_set HWe.out HG12.out) HG12.out) HG12.out) HG12.out, (((H11e.out.far HNE.out _).far HNE.out _).far HNE.out _).far HNE.out _, set_four HSZ.out HSLc.out H12e.out⟩
                    rw [ws_four Lc HSLc.out]
                    try rfl
                  case hnext =>
                    rintro _ w8 ⟨rfl, hw8, h118, h128⟩
                    try simp only [Act.put, List.getElem_toArray, List.getElem_cons_zero, List.getElem_cons_succ, List.setIfInBounds_toArray, List.set_cons_zero, List.set_cons_succ]
                    have HW8 := Aside0.mk hw8
                    have H118 := Aside0.mk h118
                    have H128 := Aside0.mk h128
                    clear hw8 h118 h128 HW7 H117 H127
                    by_cases ho : uc > 0
                    · have ko := decide_eq_true ho
                      have HSH := Aside0.mk (HK5.out ho)
                      have HV3 := Aside0.mk (fun h => absurd HSH.out h : ¬ val H < sumA l (i + 1) → val Lc = sumA l (i + 1))
                      go_wp2_with fail
                      have HW9 := HW8
                      have H119 := H118
                      have H129 := H128
                      refine ⟨⟨i + 1, La, Lc, by omega, by rw [decide_eq_true HSH.out], by go_num, HSLLa.out, HV1.out, HSLc.out, HV3.out, HW9.out, H119.out, H129.out⟩, by simp [intOf]; omega⟩
                    · have ko := decide_eq_false ho
                      have HV6 := Aside0.mk (HK6.out ho)
                      have z0 := H128.out.cell 0 (by rw [HSLc.out]; omega)
                      have z1 := H128.out.cell 1 (by rw [HSLc.out]; omega)
                      have z2 := H128.out.cell 2 (by rw [HSLc.out]; omega)
                      have z3 := H128.out.cell 3 (by rw [HSLc.out]; omega)
                      have H38 := Aside0.mk (Holds.below H33.out HW8.out)
                      have y0 := H38.out.cell 0 (by rw [HL.out.1]; omega)
                      have y1 := H38.out.cell 1 (by rw [HL.out.1]; omega)
                      have y2 := H38.out.cell 2 (by rw [HL.out.1]; omega)
                      have y3 := H38.out.cell 3 (by rw [HL.out.1]; omega)
                      go_wp2_with fail
                      refine (HCM.out _).mono ?_
                      rintro e w9 ⟨rfl, hb9⟩
                      have HW9 := Aside0.mk (below_step HW8.out hb9)
                      have H119 := Aside0.mk (Holds.below H118.out hb9)
                      have H129 := Aside0.mk (Holds.below H128.out hb9)
                      clear hb9 z0 z1 z2 z3 y0 y1 y2 y3
                      rw [HV6.out] at HK7
                      generalize cmpk Lc H 4 = cm at *
                      by_cases hc : cm > 0
                      · have kc := decide_eq_true hc
                        have HSH := Aside0.mk (HK7.out.1 hc)
                        have HV3 := Aside0.mk (fun h => absurd HSH.out h : ¬ val H < sumA l (i + 1) → val Lc = sumA l (i + 1))
                        go_wp2_with fail
                        refine ⟨⟨i + 1, La, Lc, by omega, by rw [decide_eq_true HSH.out], by go_num, HSLLa.out, HV1.out, HSLc.out, HV3.out, HW9.out, H119.out, H129.out⟩, by simp [intOf]; omega⟩
                      · have kc := decide_eq_false hc
                        have HSH := Aside0.mk (fun h => hc (HK7.out.2 h) : ¬ val H < sumA l (i + 1))
                        have HV3 := Aside0.mk (fun _ => HV6.out : ¬ val H < sumA l (i + 1) → val Lc = sumA l (i + 1))
                        go_wp2_with fail
                        refine ⟨⟨i + 1, La, Lc, by omega, by rw [decide_eq_false HSH.out], by go_num, HSLLa.out, HV1.out, HSLc.out, HV3.out, HW9.out, H119.out, H129.out⟩, by simp [intOf]; omega⟩
        · obtain rfl : i = l.length := by omega
          have hx0 : decide ((l.length : Int) < (l.length : Int)) = false := decide_eq_false (by omega)
          have hS : S = H := val_inj _ _ HSS.out HL.out.1 (by have := HVS.out; omega)
          subst hS
          have H3r := Aside0.mk (Holds.below H33.out HWr.out)
          have z0 := H11.out.cell 0 (by rw [HSS.out]; omega)
          have z1 := H11.out.cell 1 (by rw [HSS.out]; omega)
          have z2 := H11.out.cell 2 (by rw [HSS.out]; omega)
          have z3 := H11.out.cell 3 (by rw [HSS.out]; omega)
          have y0 := H3r.out.cell 0 (by rw [HSS.out]; omega)
          have y1 := H3r.out.cell 1 (by rw [HSS.out]; omega)
          have y2 := H3r.out.cell 2 (by rw [HSS.out]; omega)
          have y3 := H3r.out.cell 3 (by rw [HSS.out]; omega)
          have HW8 := Aside0.mk (HWW.out _ HWr.out)
          go_wp2_with fail
          refine (HAW.out _).mono ?_
          rintro e w9 ⟨rfl, hb9⟩
          have HW9 := Aside0.mk (below_step HW8.out hb9)
          clear hb9
          go_wp2_with fail
          exact bodyPost_ret (v := .bool true) (by simp [results, Try.results5, go_sem]) rfl ⟨rfl, HW9.out⟩
    · obtain ⟨rfl, hb2⟩ := h2.1 hE
      have HW2 := Aside0.mk (below_step HW1.out hb2)
      have HG2 := Aside0.mk (Holds.below HG1.out hb2)
      clear h2 hb2 HG1 HW1
      have b0 : (checkV l W != 0) = true := bne_iff_ne.2 hE
      generalize checkV l W = E at *
      have hn9 := blk_new w2 (.cells #[Value.int .u64 0, .int .u64 0, .int .u64 0, .int .u64 0] 24)
      go_wp2_with (refine store_ws rfl 24 _ _ rfl w2.heap.size rfl 24 (List.replicate 4 0) H 4 rfl hn9 rfl HL.out.1 Hi24.out ?_)
      intro w3 h9 hbl hf3 hs3
      clear hf3 hs3
      have hb3 := (below_alloc (Below.refl w2.heap.size w2) (.cells #[Value.int .u64 0, .int .u64 0, .int .u64 0, .int .u64 0] 24)).trans (hbl _ (Nat.le_refl _))
      have HW3 := Aside0.mk (below_step HW2.out hb3)
      have H33 := Aside0.mk (Holds.below HG2.out hb3)
      have H93 := Aside0.mk h9
      clear h9 hbl hb3 hn9 HW2 HG2
      generalize w2.heap.size = g9 at *
      go_wp2_with fail
      refine (truceref17_Same.calls 2000 A c l A c l true _ (Kd.C_below HC.out HW3.out) HLN.out.2.2.1 (Kd.C_below HC.out HW3.out) HLN.out.2.2.1 (same_refl l HL.out.2.2.1 2000 (by have := HL.out.2.2.1; omega))).mono ?_
      rintro e w4 ⟨rfl, ⟨nd4, hw4⟩⟩
      have HW4 := Aside0.mk (show Below w.heap.size w w4 by rw [hw4]; exact pw_below_drewN HW3.out _)
      have H34 := Aside0.mk (show Holds w4 w.heap.size 24 H by rw [hw4]; exact H33.out)
      have H94 := Aside0.mk (show Holds w4 g9 24 H by rw [hw4]; exact H93.out)
      clear hw4
      have z0 := H34.out.cell 0 (by rw [HL.out.1]; omega)
      have y0 := H94.out.cell 0 (by rw [HL.out.1]; omega)
      have z1 := H34.out.cell 1 (by rw [HL.out.1]; omega)
      have y1 := H94.out.cell 1 (by rw [HL.out.1]; omega)
      have z2 := H34.out.cell 2 (by rw [HL.out.1]; omega)
      have y2 := H94.out.cell 2 (by rw [HL.out.1]; omega)
      have z3 := H34.out.cell 3 (by rw [HL.out.1]; omega)
      have y3 := H94.out.cell 3 (by rw [HL.out.1]; omega)
      go_wp2_with fail
      refine (HAW.out _).mono ?_
      rintro e w9 ⟨rfl, hb9⟩
      have HW9 := Aside0.mk (below_step HW4.out hb9)
      clear hb9
      go_wp2_with fail
      exact bodyPost_ret (v := .bool true) (by simp [results, Try.results5, go_sem]) rfl ⟨rfl, HW9.out⟩
  · have F1 := Aside0.mk (few_false l W c1)
    go_enter Try.func5, Try.ntmps5
    go_wp2_with fail
    refine (trucelaw17_few.calls A c l A2 c2 W false _ (Kd.C_below HC.out HT.out.2) HLN.out.2.2.1 (Kd.C_below HC2.out HT.out.2) HLN.out.2.2.2 F1.out).mono ?_
    rintro e w1 ⟨rfl, ⟨nd, hw1⟩⟩
    have HW1 := Aside0.mk (show Below w.heap.size w w1 by rw [hw1]; exact pw_below_drewN HT.out.2 _)
    have HG1 := Aside0.mk (show Holds w1 w.heap.size 24 H by rw [hw1]; exact HT.out.1)
    clear hw1
    go_wp2_with fail
    refine (HAW.out _).mono ?_
    rintro e w9 ⟨rfl, hb9⟩
    have HW9 := Aside0.mk (below_step HW1.out hb9)
    clear hb9
    go_wp2_with fail
    exact bodyPost_ret (v := .bool true) (by simp [results, Try.results5, go_sem]) rfl ⟨rfl, HW9.out⟩
theorem keeps_law (a : S24) (h4 : ok4 a.f0 a.f1 a.f2 a.f3) (l : List S40) (A : Option Addr) (c : Nat) (hl : l.length ≤ c) (w : World) (hC : k40.C w A l.length l) (hok : okL l) (W : List Int) (A2 : Option Addr) (c2 : Nat) (hW : W.length ≤ c2) (hC2 : (Kd.int .i64).C w A2 W.length W) :
    Calls Try.prog 5 #[.agg #[.int .u64 a.f0, .int .u64 a.f1, .int .u64 a.f2, .int .u64 a.f3], .slice A l.length c, .slice A2 W.length c2] w fun e w' => e = .returned (.bool true) ∧ Below w.heap.size w w' := by
  have := keeps_any (wl4 a.f0 a.f1 a.f2 a.f3) rfl l hok A c W A2 c2 w hC hl hC2 hW
  rwa [ws_wl4 _ _ _ _ h4] at this
end Go.Proofs.Ytmnphdgghjdkmaa.P
