import Derived.Test.YtlkecihibmndbaaGRecF
namespace Go.Proofs.Ytlkecihibmndbaa.P
set_option linter.unusedVariables false
set_option linter.unusedSimpArgs false
open Go.RowKit Go.Shelf Go.Proofs.YtlkecihibmndbaaW.PrintWords
attribute [local go_sem] Oper.semAt_some
/-! claim.Reclaim. -/
theorem C_of_own {W : World} {base go cap n : Nat} {LL : List S39} (h : W.ownsRow base 39 8 (.slice (some ⟨go, 0, none⟩) n cap) n (cells39 LL)) (hn : LL.length = n) : Kd.C k39 W (some ⟨go, 0, none⟩) n LL ∧ n ≤ cap := by
  subst hn
  have hs : Kd.V k39 39 W base (fun _ => True) (.slice (some ⟨go, 0, none⟩) LL.length cap) LL := Kd.R_V (R_of_cells39 h (fun _ => True) (fun _ _ => trivial))
  exact ⟨(Kd.V_reads' hs).2.2, (Kd.V_reads' hs).2.1⟩
theorem range_own {W : World} {base go cap n : Nat} {LL : List S39} (h : W.ownsRow base 39 8 (.slice (some ⟨go, 0, none⟩) n cap) n (cells39 LL)) (hok : okL LL) (p : Nat) (hp : p < LL.length) : W.rangeAt go (p * 8 + 1) (wl (am (at39 LL p))) := by
  obtain ⟨⟨e1, _⟩, ⟨e2, _⟩, ⟨e3, _⟩, ⟨e4, _⟩, _⟩ := own_put4 h p hp []
  have hok : okA (at39 LL p) := hok _ (at39_mem hp)
  have hw : (wl (am (at39 LL p))) = [.int .u64 (at39 LL p).f1.f0, .int .u64 (at39 LL p).f1.f1, .int .u64 (at39 LL p).f1.f2, .int .u64 (at39 LL p).f1.f3] := by
    obtain ⟨h0, h1, h2, h3⟩ := hok
    simp [wl, am, wl4, vw_ofInt _ h0, vw_ofInt _ h1, vw_ofInt _ h2, vw_ofInt _ h3]
  rw [hw]
  intro j v hj
  match j, hj with
  | 0, hj => obtain rfl := Option.some.inj hj; exact e1
  | 1, hj => obtain rfl := Option.some.inj hj; exact e2
  | 2, hj => obtain rfl := Option.some.inj hj; exact e3
  | 3, hj => obtain rfl := Option.some.inj hj; exact e4
theorem cell_f34 {W : World} {ad : Addr} {n : Nat} {l : List S39} (hC : Kd.C k39 W (some ad) n l) (p : Nat) (hp : p < n) : W.cell? ⟨(ad.add (p * 8)).block, (ad.add (p * 8)).off + 6, none⟩ = some (.string (at39 l p).f3) ∧ W.cell? ⟨(ad.add (p * 8)).block, (ad.add (p * 8)).off + 7, none⟩ = some (.string (at39 l p).f4) := by
  obtain ⟨ad1, ea1, e0, e1, e2, e3, e4, e5, e6, e7⟩ := at_T39 hC (p : Int) (by omega) (by omega)
  obtain rfl := Option.some.inj ea1
  simp only [Int.toNat_natCast] at e6 e7
  exact ⟨e6, e7⟩
set_option maxRecDepth 100000 in
set_option maxHeartbeats 4000000 in
theorem reclaim_any (l : List S39) (hl : okL l) (A : Option Addr) (c : Nat) (k : Int) (m : List S39) (hm : okL m) (A2 : Option Addr) (c2 : Nat) (w : World) (hC : Kd.C k39 w A l.length l) (hlen : l.length ≤ c) (hl1 : l.length ≤ 1000) (hC2 : Kd.C k39 w A2 m.length m) (hlen2 : m.length ≤ c2) (hm1 : m.length ≤ 1000) :
    Calls Try.prog 9 #[.slice A l.length c, .int .i64 k, .slice A2 m.length c2] w fun e w' =>
      (recE l k m ≠ 0 → e = .returned (.tuple #[.slice A l.length c, .int .i64 (recE l k m)]) ∧ Below w.heap.size w w') ∧
      (recE l k m = 0 → ∃ v, e = .returned (.tuple #[v, .int .i64 0]) ∧ w'.ownsRow w.heap.size 39 8 v (l.length - 1) (cells39 (gv l m k.toNat 2)) ∧ Below w.heap.size w w') := by
  have HL := Aside0.mk (And.intro hl (And.intro hm (And.intro hlen (And.intro hl1 (And.intro hlen2 hm1)))))
  have HC0 := Aside0.mk hC
  have HM0 := Aside0.mk hC2
  have Hi25 := Aside0.mk (show (Try.prog.info? 25).map (·.size) = some 4 by kernel_rfl)
  clear hl hm hlen hlen2 hm1 hC hC2
  by_cases t0 : boundE l k m = 0
  · obtain ⟨q, rfl, hf⟩ := fine_of t0
    have hq := hf.hk
    have hm2 := hf.two
    obtain ⟨ad, hA, _⟩ := HC0.out.2.2 (by omega)
    subst hA
    obtain ⟨ad2, hA2, _⟩ := HM0.out.2.2 (by omega)
    subst hA2
    have HF := Aside0.mk hf
    have T0 := Aside0.mk t0
    have HE := Aside0.mk (show recE l q m = if (gsum l m q 0).2 = 1 ∨ (gsum l m q 1).2 = 1 then 7 else 0 by rw [recE, if_neg (fun h => h t0), Int.toNat_natCast])
    obtain ⟨n, hn⟩ : ∃ n, l.length = n + 1 := ⟨l.length - 1, by omega⟩
    have HN := Aside0.mk hn
    have HM2 := Aside0.mk hm2
    clear t0 hf hn hm2
    go_enter Try.func9, Try.ntmps9
    go_wp2_with fail
    go_step3
    go_wp2_with fail
    refine (bound_any l HL.out.1 (some ad) c q m HL.out.2.1 (some ad2) c2 w HC0.out HL.out.2.2.1 HL.out.2.2.2.1 HM0.out HL.out.2.2.2.2.1 HL.out.2.2.2.2.2).mono ?_
    rintro e w1 ⟨rfl, hb1⟩
    rw [T0.out]
    have HW1 := Aside0.mk hb1
    clear hb1
    go_wp2_with fail
    refine (clone_any (some ad) c l _ (Kd.C_below HC0.out HW1.out) HL.out.2.2.1 HL.out.2.2.2.1).mono ?_
    rintro e w2 ⟨v, rfl, hown, hb⟩
    rcases hown.2 with ⟨_, hz⟩ | ⟨g, cap, cur, rfl, hgo, _⟩
    · exact absurd hz (by omega)
    have HO := Aside0.mk hown
    have HG0 := Aside0.mk (Nat.le_trans HW1.out.size hgo)
    have HW2 := Aside0.mk (below_step HW1.out hb)
    clear hown hb hgo
    go_wp2_with fail
    refine (delete_any l l.length q rfl hq hl1 n HN.out w1.heap.size g cap w2 HO.out).mono ?_
    rintro e w3 ⟨rfl, hown3, hbut⟩
    have HW3 := Aside0.mk (But.below HW2.out hbut HG0.out (Nat.le_refl _))
    have HO3 := Aside0.mk (show w3.ownsRow w.heap.size 39 8 (.slice (some ⟨g, 0, none⟩) n cap) n (cells39 (gv l m q 0)) from own_weaken hown3 HW1.out.size)
    clear hown3 hbut HO HW2 HW1
    go_wp2_with fail
    go_step3
    go_wp2_with fail
    have HB3 := Aside0.mk (fun (X : World) (hX : Below w3.heap.size w3 X) => Kd.C_below HC0.out (below_step HW3.out hX))
    refine wp_put (fun a0 a' w' => ∃ gt, a' = (((((((((((((a0.put (some 30) (.slice (some ad) l.length c)).put (some 31) (.int .i64 (q : Nat))).put (some 32) (.pointer (some (ad.add (q * 8))))).put (some 33) (.pointer (some ⟨(ad.add (q * 8)).block, (ad.add (q * 8)).off + 6, none⟩))).put (some 34) (.string (at39 l q).f3)).put (some 35) (.slice (some ad) l.length c)).put (some 36) (.int .i64 (q : Nat))).put (some 37) (.pointer (some (ad.add (q * 8))))).put (some 38) (.pointer (some ⟨(ad.add (q * 8)).block, (ad.add (q * 8)).off + 7, none⟩))).put (some 39) (.string (at39 l q).f4)).put (some 40) (.slice (some ⟨gt, 0, none⟩) 2 2)).put (some 41) (.int .i64 2)).put (some 42) (.int .i64 0)) ∧ Below w3.heap.size w3 w' ∧ w3.heap.size ≤ gt ∧ Box w' gt 9 #[Value.string (at39 l q).f3, .string (at39 l q).f4]) ?hreg ?hnext
    case hreg =>
      refine wp_region_held_drew (S := fun X => Below w3.heap.size w3 X) (by kernel_rfl) (below_drew1 (Below.refl _ _)) (fun hHeld => ?_)
      generalize w3.drew = W0 at *
      try simp only [Act.put, List.getElem_toArray, List.getElem_cons_zero, List.getElem_cons_succ, List.setIfInBounds_toArray, List.set_cons_zero, List.set_cons_succ]
      refine wpAnyH_take (i := 0) (v := .slice (some ad) l.length c) rfl (by kernel_rfl) (by kernel_rfl) (by kernel_rfl) (fun _ _ _ h => absurd h.1 (by simp)) (.inl ⟨by rfl, fun _ _ => by go_simp⟩) hHeld ?_
      try simp only [Act.put, List.getElem_toArray, List.getElem_cons_zero, List.getElem_cons_succ, List.setIfInBounds_toArray, List.set_cons_zero, List.set_cons_succ]
      refine wpAnyH_take (i := 1) (v := .int .i64 (q : Nat)) rfl (by kernel_rfl) (by kernel_rfl) (by kernel_rfl) (fun _ _ _ h => absurd h.1 (by simp)) (.inl ⟨by rfl, fun _ _ => by go_simp⟩) hHeld ?_
      try simp only [Act.put, List.getElem_toArray, List.getElem_cons_zero, List.getElem_cons_succ, List.setIfInBounds_toArray, List.set_cons_zero, List.set_cons_succ]
      refine wpAnyH_take (i := 2) (v := .pointer (some (ad.add (q * 8)))) rfl (by kernel_rfl) (by kernel_rfl) (by kernel_rfl) (fun _ _ _ h => absurd h.1 (by simp)) (.inl ⟨by rfl, fun _ _ => by go_simp⟩) hHeld ?_
      try simp only [Act.put, List.getElem_toArray, List.getElem_cons_zero, List.getElem_cons_succ, List.setIfInBounds_toArray, List.set_cons_zero, List.set_cons_succ]
      refine wpAnyH_take (i := 3) (v := .pointer (some ⟨(ad.add (q * 8)).block, (ad.add (q * 8)).off + 6, none⟩)) rfl (by kernel_rfl) (by kernel_rfl) (by kernel_rfl) (fun _ _ _ h => absurd h.1 (by simp)) (.inl ⟨by rfl, fun _ _ => by go_simp⟩) hHeld ?_
      try simp only [Act.put, List.getElem_toArray, List.getElem_cons_zero, List.getElem_cons_succ, List.setIfInBounds_toArray, List.set_cons_zero, List.set_cons_succ]
      refine wpAnyH_take (i := 4) (v := .string (at39 l q).f3) rfl (by kernel_rfl) (by kernel_rfl) (by kernel_rfl) (fun _ _ _ h => absurd h.1 (by simp)) (.inl ⟨by rfl, fun X' hS => by have b := (cell_f34 (HB3.out _ hS) q hq).1; go_simp⟩) hHeld ?_
      try simp only [Act.put, List.getElem_toArray, List.getElem_cons_zero, List.getElem_cons_succ, List.setIfInBounds_toArray, List.set_cons_zero, List.set_cons_succ]
      refine wpAnyH_take (i := 5) (v := .slice (some ad) l.length c) rfl (by kernel_rfl) (by kernel_rfl) (by kernel_rfl) (fun _ _ _ h => absurd h.1 (by simp)) (.inl ⟨by rfl, fun _ _ => by go_simp⟩) hHeld ?_
      try simp only [Act.put, List.getElem_toArray, List.getElem_cons_zero, List.getElem_cons_succ, List.setIfInBounds_toArray, List.set_cons_zero, List.set_cons_succ]
      refine wpAnyH_take (i := 6) (v := .int .i64 (q : Nat)) rfl (by kernel_rfl) (by kernel_rfl) (by kernel_rfl) (fun _ _ _ h => absurd h.1 (by simp)) (.inl ⟨by rfl, fun _ _ => by go_simp⟩) hHeld ?_
      try simp only [Act.put, List.getElem_toArray, List.getElem_cons_zero, List.getElem_cons_succ, List.setIfInBounds_toArray, List.set_cons_zero, List.set_cons_succ]
      refine wpAnyH_take (i := 7) (v := .pointer (some (ad.add (q * 8)))) rfl (by kernel_rfl) (by kernel_rfl) (by kernel_rfl) (fun _ _ _ h => absurd h.1 (by simp)) (.inl ⟨by rfl, fun _ _ => by go_simp⟩) hHeld ?_
      try simp only [Act.put, List.getElem_toArray, List.getElem_cons_zero, List.getElem_cons_succ, List.setIfInBounds_toArray, List.set_cons_zero, List.set_cons_succ]
      refine wpAnyH_take (i := 8) (v := .pointer (some ⟨(ad.add (q * 8)).block, (ad.add (q * 8)).off + 7, none⟩)) rfl (by kernel_rfl) (by kernel_rfl) (by kernel_rfl) (fun _ _ _ h => absurd h.1 (by simp)) (.inl ⟨by rfl, fun _ _ => by go_simp⟩) hHeld ?_
      try simp only [Act.put, List.getElem_toArray, List.getElem_cons_zero, List.getElem_cons_succ, List.setIfInBounds_toArray, List.set_cons_zero, List.set_cons_succ]
      refine wpAnyH_take (i := 9) (v := .string (at39 l q).f4) rfl (by kernel_rfl) (by kernel_rfl) (by kernel_rfl) (fun _ _ _ h => absurd h.1 (by simp)) (.inl ⟨by rfl, fun X' hS => by have b := (cell_f34 (HB3.out _ hS) q hq).2; go_simp⟩) hHeld ?_
      try simp only [Act.put, List.getElem_toArray, List.getElem_cons_zero, List.getElem_cons_succ, List.setIfInBounds_toArray, List.set_cons_zero, List.set_cons_succ]
      refine wpAnyH_take (i := 12) (v := .int .i64 0) rfl (by kernel_rfl) (by kernel_rfl) (by kernel_rfl) (fun _ _ _ h => absurd h.1 (by simp)) (.inl ⟨by rfl, fun _ _ => by go_simp⟩) hHeld ?_
      try simp only [Act.put, List.getElem_toArray, List.getElem_cons_zero, List.getElem_cons_succ, List.setIfInBounds_toArray, List.set_cons_zero, List.set_cons_succ]
      refine wpAnyH_ready (rs := [10]) (by kernel_rfl) (by simp) ?_
      refine AllReadyH.cons rfl (fun K hK => ?_) AllReadyH.nil
      go_simp
      have hb := below_alloc (Below.refl W0.heap.size W0) (.cells #[Value.string (at39 l q).f3, .string (at39 l q).f4] 9)
      have HT := Aside0.mk (And.intro (show Box (W0.alloc (.cells #[Value.string (at39 l q).f3, .string (at39 l q).f4] 9)) W0.heap.size 9 #[Value.string (at39 l q).f3, .string (at39 l q).f4] from blk_new W0 _) hHeld.size)
      refine hK.out _ _ (below_step hHeld hb) (fun hHeld => ?_)
      clear hb hK K
      generalize W0.alloc (.cells #[Value.string (at39 l q).f3, .string (at39 l q).f4] 9) = X0 at *
      generalize W0.heap.size = gt at *
      try simp only [Act.put, List.getElem_toArray, List.getElem_cons_zero, List.getElem_cons_succ, List.setIfInBounds_toArray, List.set_cons_zero, List.set_cons_succ]
      refine wpAnyH_take (i := 11) (v := .int .i64 2) rfl (by kernel_rfl) (by kernel_rfl) (by kernel_rfl) (fun _ _ _ h => absurd h.1 (by simp)) (.inl ⟨by rfl, fun _ _ => by go_simp⟩) hHeld ?_
      try simp only [Act.put, List.getElem_toArray, List.getElem_cons_zero, List.getElem_cons_succ, List.setIfInBounds_toArray, List.set_cons_zero, List.set_cons_succ]
      refine wpAnyH_done (by kernel_rfl) ?_ _
      exact ⟨rfl, gt, rfl, hHeld, HT.out.2, HT.out.1⟩
    case hnext =>
      rintro _ w4 ⟨gt, rfl, hb4, hgt, hbx⟩
      try simp only [Act.put, List.getElem_toArray, List.getElem_cons_zero, List.getElem_cons_succ, List.setIfInBounds_toArray, List.set_cons_zero, List.set_cons_succ]
      have HW4 := Aside0.mk (below_step HW3.out hb4)
      have HO4 := Aside0.mk (own_below HO3.out hb4)
      have HBX := Aside0.mk hbx
      have GT := Aside0.mk (Nat.le_trans HW3.out.size hgt)
      clear hb4 hgt hbx HO3 HB3 HW3
      go_wp2_with fail
      go_loopw [10, 42] (fun er it wr => ∃ i : Nat, i ≤ 2 ∧ er = .int .i64 0 ∧ it = .int .i64 (i : Nat) ∧ (∀ j, j < i → (gsum l m q j).2 ≠ 1) ∧ Below w.heap.size w wr ∧ wr.ownsRow w.heap.size 39 8 (.slice (some ⟨g, 0, none⟩) n cap) n (cells39 (gv l m q i)) ∧ Box wr gt 9 #[.string (at39 l q).f3, .string (at39 l q).f4]) (fun _ it _ => 2 - (intOf it).toNat)
      case atStart => exact ⟨0, by omega, rfl, rfl, fun j hj => absurd hj (by omega), HW4.out, HO4.out, HBX.out⟩
      case round =>
        obtain ⟨i, hi, rfl, rfl, hz, hbw, hor, hbx⟩ := hrel
        have HZ := Aside0.mk hz
        have HWr := Aside0.mk hbw
        have HOr := Aside0.mk hor
        have HXr := Aside0.mk hbx
        clear hz hbw hor hbx HW4 HO4 HBX
        by_cases hlt : i < 2
        · have hbs : wr.cell? ⟨gt, i, none⟩ = some (.string (sideT (at39 l q) i)) := by
            have h01 : i = 0 ∨ i = 1 := by omega
            rcases h01 with rfl | rfl
            · exact HXr.out.cell 0 _ rfl
            · exact HXr.out.cell 1 _ rfl
          have hcn := C_of_own HOr.out (by rw [gv_len hq, HN.out]; rfl)
          have hpl := plain_any (gv l m q i) (some ⟨g, 0, none⟩) cap (sideT (at39 l q) i) wr (by rw [gv_len hq, HN.out]; exact hcn.1) (by rw [gv_len hq, HN.out]; exact hcn.2) (by rw [gv_len hq]; omega)
          rw [gv_len hq, HN.out, (HF.out.at i).2] at hpl
          have HPL := Aside0.mk hpl
          clear hcn hpl
          have hi0 : (i : Int) < 2 := by omega
          have hp0 := (HF.out.at i).1
          have HGV := Aside0.mk (show gv l m q (i + 1) = giveL (gv l m q i) (gp l m q i) (gsum l m q i).1 ∧ gsum l m q i = addk (am (at39 (gv l m q i) (gp l m q i))) (am (at39 m i)) 4 from ⟨rfl, rfl⟩)
          have HOK := Aside0.mk (okL_gv (m := m) HL.out.1 q i)
          have HLO := Aside0.mk (gv_len (m := m) hq i)
          generalize gp l m q i = p at *
          generalize gv l m q i = o at *
          obtain ⟨S3, hS3⟩ : ∃ S3, S3 = gsum l m q i := ⟨_, rfl⟩
          rw [← hS3] at HGV
          have HS3 := Aside0.mk hS3.symm
          clear hS3
          have hpo : p < o.length := by rw [HLO.out]; exact hp0
          have hpn : p < n := by have := HN.out; omega
          go_wp2_with fail
          refine HPL.out.mono ?_
          rintro e w5 ⟨rfl, hb5⟩
          have HW5 := Aside0.mk (below_step HWr.out hb5)
          have HO5 := Aside0.mk (own_below HOr.out hb5)
          have HX5 := Aside0.mk (show Box w5 gt 9 _ from blk_below HXr.out hb5)
          have HMB := Aside0.mk (fun (X : World) (hX : Below w5.heap.size w5 X) => Kd.C_below HM0.out (below_step HW5.out hX))
          have HSL3 := Aside0.mk (show S3.1.length = 4 by rw [HGV.out.2, addk_len]; rfl)
          have HSB3 := Aside0.mk (fun W => add_any (am (at39 o p)) (am (at39 m i)) rfl rfl W)
          rw [← HGV.out.2] at HSB3
          have him : (i : Int) < (m.length : Int) := by have := HM2.out; omega
          clear hbs hb5 HWr HOr HXr HPL
          obtain ⟨L3, u3⟩ := S3
          simp only at HSL3 HSB3
          go_wp2_with fail
          refine wp_put (fun a0 a' w' => ∃ gn, a' = ((((((((((((((((a0.put (some 51) (.slice (some ⟨g, 0, none⟩) n cap)).put (some 52) (.int .i64 (p : Nat))).put (some 53) (.pointer (some ⟨g, p * 8, none⟩))).put (some 54) (.pointer (some ⟨g, p * 8 + 1, none⟩))).put (some 55) (.agg (ws (am (at39 o p))))).put (some 56) (.slice (some ad2) m.length c2)).put (some 57) (.int .i64 (i : Nat))).put (some 58) (.pointer (some (ad2.add (i * 8))))).put (some 59) (.pointer (some ⟨(ad2.add (i * 8)).block, (ad2.add (i * 8)).off + 1, none⟩))).put (some 60) (.agg (ws (am (at39 m i))))).put (some 61) (.tuple #[.agg (ws L3), .bool (decide (u3 = 1))])).put (some 50) (.tuple #[.agg (ws L3), .bool (decide (u3 = 1))])).put (some 62) (.agg (ws L3))).put (some 63) (.bool (decide (u3 = 1)))).put (some 14) (.pointer (some ⟨gn, 0, none⟩))).put (some 15) (.bool (decide (u3 = 1)))) ∧ Below w5.heap.size w5 w' ∧ w5.heap.size ≤ gn ∧ Holds w' gn 25 L3) ?hreg ?hnext
          case hreg =>
            refine wp_region_held_drew (S := fun X => Below w5.heap.size w5 X) (by kernel_rfl) (below_drew1 (Below.refl _ _)) (fun hHeld => ?_)
            generalize w5.drew = W0 at *
            try simp only [Act.put, List.getElem_toArray, List.getElem_cons_zero, List.getElem_cons_succ, List.setIfInBounds_toArray, List.set_cons_zero, List.set_cons_succ]
            refine wpAnyH_take (i := 0) (v := .slice (some ⟨g, 0, none⟩) n cap) rfl (by kernel_rfl) (by kernel_rfl) (by kernel_rfl) (fun _ _ _ h => absurd h.1 (by simp)) (.inl ⟨by rfl, fun _ _ => by go_simp⟩) hHeld ?_
            try simp only [Act.put, List.getElem_toArray, List.getElem_cons_zero, List.getElem_cons_succ, List.setIfInBounds_toArray, List.set_cons_zero, List.set_cons_succ]
            refine wpAnyH_take (i := 1) (v := .int .i64 (p : Nat)) rfl (by kernel_rfl) (by kernel_rfl) (by kernel_rfl) (fun _ _ _ h => absurd h.1 (by simp)) (.inl ⟨by rfl, fun _ _ => by go_simp⟩) hHeld ?_
            try simp only [Act.put, List.getElem_toArray, List.getElem_cons_zero, List.getElem_cons_succ, List.setIfInBounds_toArray, List.set_cons_zero, List.set_cons_succ]
            refine wpAnyH_take (i := 2) (v := .pointer (some ⟨g, p * 8, none⟩)) rfl (by kernel_rfl) (by kernel_rfl) (by kernel_rfl) (fun _ _ _ h => absurd h.1 (by simp)) (.inl ⟨by rfl, fun _ _ => by go_simp⟩) hHeld ?_
            try simp only [Act.put, List.getElem_toArray, List.getElem_cons_zero, List.getElem_cons_succ, List.setIfInBounds_toArray, List.set_cons_zero, List.set_cons_succ]
            refine wpAnyH_take (i := 3) (v := .pointer (some ⟨g, p * 8 + 1, none⟩)) rfl (by kernel_rfl) (by kernel_rfl) (by kernel_rfl) (fun _ _ _ h => absurd h.1 (by simp)) (.inl ⟨by rfl, fun _ _ => by go_simp⟩) hHeld ?_
            try simp only [Act.put, List.getElem_toArray, List.getElem_cons_zero, List.getElem_cons_succ, List.setIfInBounds_toArray, List.set_cons_zero, List.set_cons_succ]
            refine wpAnyH_take (i := 4) (v := .agg (wl (am (at39 o p))).toArray) rfl (by kernel_rfl) (by kernel_rfl) (by kernel_rfl) (fun _ _ _ h => absurd h.1 (by simp)) (yieldsIf_load_mid rfl 25 _ rfl _ _ rfl (wl (am (at39 o p))) _ (fun X' hS => range_own (own_below HO5.out hS) HOK.out p hpo) Try.underlying25 rfl (by rw [Hi25.out]; rfl)) hHeld ?_
            try simp only [Act.put, List.getElem_toArray, List.getElem_cons_zero, List.getElem_cons_succ, List.setIfInBounds_toArray, List.set_cons_zero, List.set_cons_succ]
            refine wpAnyH_take (i := 5) (v := .slice (some ad2) m.length c2) rfl (by kernel_rfl) (by kernel_rfl) (by kernel_rfl) (fun _ _ _ h => absurd h.1 (by simp)) (.inl ⟨by rfl, fun _ _ => by go_simp⟩) hHeld ?_
            try simp only [Act.put, List.getElem_toArray, List.getElem_cons_zero, List.getElem_cons_succ, List.setIfInBounds_toArray, List.set_cons_zero, List.set_cons_succ]
            refine wpAnyH_take (i := 6) (v := .int .i64 (i : Nat)) rfl (by kernel_rfl) (by kernel_rfl) (by kernel_rfl) (fun _ _ _ h => absurd h.1 (by simp)) (.inl ⟨by rfl, fun _ _ => by go_simp⟩) hHeld ?_
            try simp only [Act.put, List.getElem_toArray, List.getElem_cons_zero, List.getElem_cons_succ, List.setIfInBounds_toArray, List.set_cons_zero, List.set_cons_succ]
            refine wpAnyH_take (i := 7) (v := .pointer (some (ad2.add (i * 8)))) rfl (by kernel_rfl) (by kernel_rfl) (by kernel_rfl) (fun _ _ _ h => absurd h.1 (by simp)) (.inl ⟨by rfl, fun _ _ => by go_simp⟩) hHeld ?_
            try simp only [Act.put, List.getElem_toArray, List.getElem_cons_zero, List.getElem_cons_succ, List.setIfInBounds_toArray, List.set_cons_zero, List.set_cons_succ]
            refine wpAnyH_take (i := 8) (v := .pointer (some ⟨(ad2.add (i * 8)).block, (ad2.add (i * 8)).off + 1, none⟩)) rfl (by kernel_rfl) (by kernel_rfl) (by kernel_rfl) (fun _ _ _ h => absurd h.1 (by simp)) (.inl ⟨by rfl, fun _ _ => by go_simp⟩) hHeld ?_
            try simp only [Act.put, List.getElem_toArray, List.getElem_cons_zero, List.getElem_cons_succ, List.setIfInBounds_toArray, List.set_cons_zero, List.set_cons_succ]
            refine wpAnyH_take (i := 9) (v := .agg (wl (am (at39 m i))).toArray) rfl (by kernel_rfl) (by kernel_rfl) (by kernel_rfl) (fun _ _ _ h => absurd h.1 (by simp)) (yieldsIf_load_mid rfl 25 _ rfl _ _ rfl (wl (am (at39 m i))) _ (fun X' hS => range_am' (HMB.out _ hS) HL.out.2.1 i (by have := HM2.out; omega)) Try.underlying25 rfl (by rw [Hi25.out]; rfl)) hHeld ?_
            try simp only [Act.put, List.getElem_toArray, List.getElem_cons_zero, List.getElem_cons_succ, List.setIfInBounds_toArray, List.set_cons_zero, List.set_cons_succ]
            rw [wl_eq, wl_eq]
            refine wpAnyH_ready (rs := [10, 14]) (by kernel_rfl) (by simp) ?_
            refine AllReadyH.cons rfl (fun K hK => ?_) ?_
            · go_simp
              refine (HSB3.out _).mono ?_
              rintro e X1 ⟨rfl, hb⟩
              refine hK.out _ _ (below_step hHeld hb) (fun hHeld => ?_)
              clear hb hK K
              try simp only [Act.put, List.getElem_toArray, List.getElem_cons_zero, List.getElem_cons_succ, List.setIfInBounds_toArray, List.set_cons_zero, List.set_cons_succ]
              refine wpAnyH_take (i := 11) (v := .tuple #[.agg (ws L3), .bool (decide (u3 = 1))]) rfl (by kernel_rfl) (by kernel_rfl) (by kernel_rfl) (fun _ _ _ h => absurd h.1 (by simp)) (.inl ⟨by rfl, fun _ _ => by go_simp⟩) hHeld ?_
              try simp only [Act.put, List.getElem_toArray, List.getElem_cons_zero, List.getElem_cons_succ, List.setIfInBounds_toArray, List.set_cons_zero, List.set_cons_succ]
              refine wpAnyH_take (i := 12) (v := .agg (ws L3)) rfl (by kernel_rfl) (by kernel_rfl) (by kernel_rfl) (fun _ _ _ h => absurd h.1 (by simp)) (.inl ⟨by rfl, fun _ _ => by go_simp⟩) hHeld ?_
              try simp only [Act.put, List.getElem_toArray, List.getElem_cons_zero, List.getElem_cons_succ, List.setIfInBounds_toArray, List.set_cons_zero, List.set_cons_succ]
              refine wpAnyH_take (i := 13) (v := .bool (decide (u3 = 1))) rfl (by kernel_rfl) (by kernel_rfl) (by kernel_rfl) (fun _ _ _ h => absurd h.1 (by simp)) (.inl ⟨by rfl, fun _ _ => by go_simp⟩) hHeld ?_
              try simp only [Act.put, List.getElem_toArray, List.getElem_cons_zero, List.getElem_cons_succ, List.setIfInBounds_toArray, List.set_cons_zero, List.set_cons_succ]
              refine wpAnyH_ready (rs := [14]) (by kernel_rfl) (by simp) ?_
              refine AllReadyH.cons rfl (fun K hK => ?_) AllReadyH.nil
              go_simp
              have hb := below_alloc (Below.refl X1.heap.size X1) (.cells #[Value.int .u64 0, .int .u64 0, .int .u64 0, .int .u64 0] 25)
              have H14 := Aside0.mk (And.intro (show Holds (X1.alloc (.cells #[Value.int .u64 0, .int .u64 0, .int .u64 0, .int .u64 0] 25)) X1.heap.size 25 (List.replicate 4 0) from blk_new X1 _) hHeld.size)
              refine hK.out _ _ (below_step hHeld hb) (fun hHeld => ?_)
              clear hb hK K
              generalize X1.alloc _ = X2 at *
              generalize X1.heap.size = g14 at *
              try simp only [Act.put, List.getElem_toArray, List.getElem_cons_zero, List.getElem_cons_succ, List.setIfInBounds_toArray, List.set_cons_zero, List.set_cons_succ]
              have hx := H14.out.1
              have z0 := hx.cell 0 (by simp)
              have y0 := hx.free 0
              have z1 := hx.cell 1 (by simp)
              have y1 := hx.free 1
              have z2 := hx.cell 2 (by simp)
              have y2 := hx.free 2
              have z3 := hx.cell 3 (by simp)
              have y3 := hx.free 3
              clear hx
              have hwf := ws_four L3 HSL3.out
              refine wpAnyH_ready (rs := [15]) (by kernel_rfl) (by simp) ?_
              refine AllReadyH.cons rfl (fun K hK => ?_) AllReadyH.nil
              go_simp
              have n14 := H14.out.2
              refine hK.out _ _ (below_set (below_set (below_set (below_set hHeld n14) n14) n14) n14) (fun hHeld => ?_)
              clear hK K z0 z1 z2 z3 y0 y1 y2 y3 hwf
              have H14' := Aside0.mk (set_four (L := List.replicate 4 0) (H := L3) rfl HSL3.out H14.out.1)
              try simp only [Act.put, List.getElem_toArray, List.getElem_cons_zero, List.getElem_cons_succ, List.setIfInBounds_toArray, List.set_cons_zero, List.set_cons_succ]
              refine wpAnyH_take (i := 16) (v := .bool (decide (u3 = 1))) rfl (by kernel_rfl) (by kernel_rfl) (by kernel_rfl) (fun _ _ _ h => absurd h.1 (by simp)) (.inl ⟨by rfl, fun _ _ => by go_simp⟩) hHeld ?_
              try simp only [Act.put, List.getElem_toArray, List.getElem_cons_zero, List.getElem_cons_succ, List.setIfInBounds_toArray, List.set_cons_zero, List.set_cons_succ]
              refine wpAnyH_done (by kernel_rfl) ?_ _
              refine ⟨rfl, g14, ?_, hHeld, n14, H14'.out⟩
              rw [ws_four L3 HSL3.out]
              try rfl
            refine AllReadyH.cons rfl (fun K hK => ?_) AllReadyH.nil
            go_simp
            have hb := below_alloc (Below.refl W0.heap.size W0) (.cells #[Value.int .u64 0, .int .u64 0, .int .u64 0, .int .u64 0] 25)
            have H14 := Aside0.mk (And.intro (show Holds (W0.alloc (.cells #[Value.int .u64 0, .int .u64 0, .int .u64 0, .int .u64 0] 25)) W0.heap.size 25 (List.replicate 4 0) from blk_new W0 _) hHeld.size)
            refine hK.out _ _ (below_step hHeld hb) (fun hHeld => ?_)
            clear hb hK K
            generalize W0.alloc _ = X3 at *
            generalize W0.heap.size = g14 at *
            try simp only [Act.put, List.getElem_toArray, List.getElem_cons_zero, List.getElem_cons_succ, List.setIfInBounds_toArray, List.set_cons_zero, List.set_cons_succ]
            refine wpAnyH_ready (rs := [10]) (by kernel_rfl) (by simp) ?_
            refine AllReadyH.cons rfl (fun K hK => ?_) AllReadyH.nil
            go_simp
            refine (HSB3.out _).mono ?_
            rintro e X4 ⟨rfl, hb⟩
            replace H14 := Aside0.mk (And.intro (Holds.below H14.out.1 hb) H14.out.2)
            refine hK.out _ _ (below_step hHeld hb) (fun hHeld => ?_)
            clear hb hK K
            try simp only [Act.put, List.getElem_toArray, List.getElem_cons_zero, List.getElem_cons_succ, List.setIfInBounds_toArray, List.set_cons_zero, List.set_cons_succ]
            refine wpAnyH_take (i := 11) (v := .tuple #[.agg (ws L3), .bool (decide (u3 = 1))]) rfl (by kernel_rfl) (by kernel_rfl) (by kernel_rfl) (fun _ _ _ h => absurd h.1 (by simp)) (.inl ⟨by rfl, fun _ _ => by go_simp⟩) hHeld ?_
            try simp only [Act.put, List.getElem_toArray, List.getElem_cons_zero, List.getElem_cons_succ, List.setIfInBounds_toArray, List.set_cons_zero, List.set_cons_succ]
            refine wpAnyH_take (i := 12) (v := .agg (ws L3)) rfl (by kernel_rfl) (by kernel_rfl) (by kernel_rfl) (fun _ _ _ h => absurd h.1 (by simp)) (.inl ⟨by rfl, fun _ _ => by go_simp⟩) hHeld ?_
            try simp only [Act.put, List.getElem_toArray, List.getElem_cons_zero, List.getElem_cons_succ, List.setIfInBounds_toArray, List.set_cons_zero, List.set_cons_succ]
            refine wpAnyH_take (i := 13) (v := .bool (decide (u3 = 1))) rfl (by kernel_rfl) (by kernel_rfl) (by kernel_rfl) (fun _ _ _ h => absurd h.1 (by simp)) (.inl ⟨by rfl, fun _ _ => by go_simp⟩) hHeld ?_
            try simp only [Act.put, List.getElem_toArray, List.getElem_cons_zero, List.getElem_cons_succ, List.setIfInBounds_toArray, List.set_cons_zero, List.set_cons_succ]
            have hx := H14.out.1
            have z0 := hx.cell 0 (by simp)
            have y0 := hx.free 0
            have z1 := hx.cell 1 (by simp)
            have y1 := hx.free 1
            have z2 := hx.cell 2 (by simp)
            have y2 := hx.free 2
            have z3 := hx.cell 3 (by simp)
            have y3 := hx.free 3
            clear hx
            have hwf := ws_four L3 HSL3.out
            refine wpAnyH_ready (rs := [15]) (by kernel_rfl) (by simp) ?_
            refine AllReadyH.cons rfl (fun K hK => ?_) AllReadyH.nil
            go_simp
            have n14 := H14.out.2
            refine hK.out _ _ (below_set (below_set (below_set (below_set hHeld n14) n14) n14) n14) (fun hHeld => ?_)
            clear hK K z0 z1 z2 z3 y0 y1 y2 y3 hwf
            have H14' := Aside0.mk (set_four (L := List.replicate 4 0) (H := L3) rfl HSL3.out H14.out.1)
            try simp only [Act.put, List.getElem_toArray, List.getElem_cons_zero, List.getElem_cons_succ, List.setIfInBounds_toArray, List.set_cons_zero, List.set_cons_succ]
            refine wpAnyH_take (i := 16) (v := .bool (decide (u3 = 1))) rfl (by kernel_rfl) (by kernel_rfl) (by kernel_rfl) (fun _ _ _ h => absurd h.1 (by simp)) (.inl ⟨by rfl, fun _ _ => by go_simp⟩) hHeld ?_
            try simp only [Act.put, List.getElem_toArray, List.getElem_cons_zero, List.getElem_cons_succ, List.setIfInBounds_toArray, List.set_cons_zero, List.set_cons_succ]
            refine wpAnyH_done (by kernel_rfl) ?_ _
            refine ⟨rfl, g14, ?_, hHeld, n14, H14'.out⟩
            rw [ws_four L3 HSL3.out]
            try rfl
          case hnext =>
            rintro _ w6 ⟨gn, rfl, hb6, hgn, hh⟩
            try simp only [Act.put, List.getElem_toArray, List.getElem_cons_zero, List.getElem_cons_succ, List.setIfInBounds_toArray, List.set_cons_zero, List.set_cons_succ]
            have HW6 := Aside0.mk (below_step HW5.out hb6)
            have HO6 := Aside0.mk (own_below HO5.out hb6)
            have HX6 := Aside0.mk (show Box w6 gt 9 _ from blk_below HX5.out hb6)
            have HH6 := Aside0.mk hh
            clear hb6 hgn hh HMB HSB3 HW5 HO5 HX5
            by_cases v1 : u3 = 1
            · have k1 := decide_eq_true v1
              have HE' := Aside0.mk (HE.out.trans (if_pos (by
                have h01 : i = 0 ∨ i = 1 := by omega
                rcases h01 with rfl | rfl
                · exact .inl (by rw [HS3.out]; exact v1)
                · exact .inr (by rw [HS3.out]; exact v1))))
              go_wp2_with fail
              try rw [Exit.noGoto_ret]
              exact bodyPost_ret (v := .tuple #[.slice (some ad) l.length c, .int .i64 7]) (by simp [results, Try.results9, go_sem]) rfl ⟨fun _ => ⟨by rw [HE'.out], HW6.out⟩, fun h => absurd (HE'.out.symm.trans h) (by decide)⟩
            · have k1 := decide_eq_false v1
              have V1 := Aside0.mk v1
              have P := own_put4 HO6.out p hpo L3
              obtain ⟨⟨e1a, e1b⟩, ⟨e2a, e2b⟩, ⟨e3a, e3b⟩, ⟨e4a, e4b⟩, ho⟩ := P
              have HOn := Aside0.mk ho
              clear ho
              have hwf := ws_four L3 HSL3.out
              go_wp2_with (refine load_ws rfl 25 _ rfl gn rfl 25 L3 4 _ HH6.out HSL3.out Try.underlying25 rfl Hi25.out ?_)
              have hne : gt ≠ g := fun e => by subst e; exact ne_types' HX6.out (own_box HO6.out) (by decide) rfl
              have HBt := Aside0.mk (but_set4 w6 g (p * 8 + 1) (.int .u64 (vw (gw L3 0))) (.int .u64 (vw (gw L3 1))) (.int .u64 (vw (gw L3 2))) (.int .u64 (vw (gw L3 3))))
              refine ⟨⟨i + 1, by omega, rfl, by go_num, ?_, But.below HW6.out HBt.out HG0.out (Nat.le_refl _), ?_, HBt.out.box HX6.out hne⟩, by simp [intOf]; omega⟩
              · intro j hj
                by_cases hji : j = i
                · subst hji; rw [HS3.out]; exact V1.out
                · exact HZ.out j (by omega)
              · rw [HGV.out.1]; exact HOn.out
        · obtain rfl : i = 2 := by omega
          have HE' := Aside0.mk (HE.out.trans (if_neg (fun h => h.elim (HZ.out 0 (by omega)) (HZ.out 1 (by omega)))))
          go_wp2_with fail
          try rw [Exit.noGoto_ret]
          refine bodyPost_ret (v := .tuple #[.slice (some ⟨g, 0, none⟩) n cap, .int .i64 0]) (by simp [results, Try.results9, go_sem]) rfl ⟨fun h => absurd HE'.out h, fun _ => ⟨_, rfl, ?_, HWr.out⟩⟩
          rw [HN.out, Nat.add_sub_cancel, Int.toNat_natCast]
          exact HOr.out
  · have t1 : (boundE l k m != 0) = true := bne_iff_ne.2 t0
    have HE := Aside0.mk (show recE l k m = boundE l k m by rw [recE, if_pos t0])
    have HNZ := Aside0.mk t0
    have HB := Aside0.mk (bound_any l HL.out.1 A c k m HL.out.2.1 A2 c2 w HC0.out HL.out.2.2.1 HL.out.2.2.2.1 HM0.out HL.out.2.2.2.2.1 HL.out.2.2.2.2.2)
    clear t0
    generalize boundE l k m = E at *
    go_enter Try.func9, Try.ntmps9
    go_wp2_with fail
    go_step3
    go_wp2_with fail
    refine HB.out.mono ?_
    rintro e w1 ⟨rfl, hb1⟩
    have HW1 := Aside0.mk hb1
    clear hb1
    go_wp2_with fail
    try rw [Exit.noGoto_ret]
    exact bodyPost_ret (v := .tuple #[.slice A l.length c, .int .i64 E]) (by simp [results, Try.results9, go_sem]) rfl ⟨fun _ => ⟨by rw [HE.out], HW1.out⟩, fun h => absurd (HE.out.symm.trans h) HNZ.out⟩
end Go.Proofs.Ytlkecihibmndbaa.P
