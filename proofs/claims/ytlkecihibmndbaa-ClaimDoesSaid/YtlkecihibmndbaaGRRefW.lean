import Derived.Test.YtlkecihibmndbaaGReclaimW
import Derived.Test.YtlkecihibmndbaaPtruceref18there
import Derived.Test.YtlkecihibmndbaaPtruceref18plain
import Derived.Deep.Slices
namespace Go.Proofs.Ytlkecihibmndbaa.P
set_option linter.unusedVariables false
set_option linter.unusedSimpArgs false
open Go.RowKit Go.Shelf Go.Proofs.YtlkecihibmndbaaW.PrintWords
attribute [local go_sem] Oper.semAt_some
attribute [local go_sem high] eqA25
/-! The document's Reclaim. -/
theorem rthere_any (A : Option Addr) (c : Nat) (l : List S39) (k : Int) (w : World) (hC : Kd.C k39 w A l.length l) (hlen : l.length ≤ c) :
    Calls Try.prog 22 #[.slice A l.length c, .int .i64 k] w fun e w' => e = .returned (.bool (decide (isThere l.length k))) ∧ Drawn0 w w' := by
  refine truceref18_there.calls A c l k _ w hC hlen ?_
  unfold truceref18_there.f isThere
  by_cases h : 0 ≤ k
  · rw [if_pos h]; congr 1; simp [h]
  · rw [if_neg h]; congr 1; simp [h]
theorem rplain_l0 (l : List S39) (hl : l.length ≤ 1000) (d : ByteArray) : ∀ (e i k : Nat), l.length - i ≤ e → i ≤ l.length → e < k → (∀ j, j < i → plainB d (at39 l j) = false) → truceref18_plain.l0 k l d (i : Int) = some (plainI l d) := by
  intro e
  induction e with
  | zero =>
    intro i k he hi hk hz
    obtain ⟨k, rfl⟩ : ∃ j, k = j + 1 := ⟨k - 1, by omega⟩
    obtain rfl : i = l.length := by omega
    rw [truceref18_plain.l0, if_neg (by omega)]
    exact congrArg some (firstI_none _ _ hz).symm
  | succ e ih =>
    intro i k he hi hk hz
    by_cases h : i < l.length
    · obtain ⟨k, rfl⟩ : ∃ j, k = j + 1 := ⟨k - 1, by omega⟩
      have hx : rd_T39 l (i : Int) = at39 l i := by simp [rd_T39, at39]
      have hw : wrap64 ((i : Int) + 1) = ((i + 1 : Nat) : Int) := by unfold wrap64; omega
      have next : plainB d (at39 l i) = false → truceref18_plain.l0 k l d (wrap64 ((i : Int) + 1)) = some (plainI l d) := fun hp => by
        rw [hw]
        refine ih (i + 1) k (by omega) (by omega) (by omega) (fun j hj => ?_)
        by_cases hji : j = i
        · subst hji; exact hp
        · exact hz j (by omega)
      rw [truceref18_plain.l0, if_pos (by omega), if_pos (by omega), hx]
      by_cases c1 : (at39 l i).f2 = 0
      · rw [if_pos c1]
        by_cases c2 : (at39 l i).f0.toList = d.toList
        · rw [if_pos c2]
          exact congrArg some (firstI_at (plainB d) l i h hz (by simp [plainB, c1, c2])).symm
        · rw [if_neg c2]; exact next (by simp [plainB, c2])
      · rw [if_neg c1]; exact next (by simp [plainB, c1])
    · exact ih i k (by omega) hi (by omega) hz
theorem rplain_any (l : List S39) (A : Option Addr) (c : Nat) (d : ByteArray) (w : World) (hC : Kd.C k39 w A l.length l) (hlen : l.length ≤ c) (hl1 : l.length ≤ 1000) :
    Calls Try.prog 23 #[.slice A l.length c, .string d] w fun e w' => e = .returned (.int .i64 (plainI l d)) ∧ Below w.heap.size w w' := by
  refine (truceref18_plain.calls 1001 A c l d (plainI l d) w hC hlen (rplain_l0 l hl1 d l.length 0 1001 (by omega) (by omega) (by omega) (fun j hj => absurd hj (by omega)))).mono ?_
  rintro e w' ⟨rfl, ⟨nd, rfl⟩⟩
  exact ⟨rfl, pw_below_drewN (Below.refl _ _) _⟩
theorem rough2 {m : List S39} (h2 : m.length = 2) : 0 ≤ firstI roughB m 0 ↔ (at39 m 0).f2 ≠ 0 ∨ (at39 m 1).f2 ≠ 0 := by
  rcases firstI_spec roughB m with ⟨h, hz⟩ | ⟨p, hp, h, hr, _⟩
  · have z0 := hz 0 (by omega)
    have z1 := hz 1 (by omega)
    simp only [roughB, bne_eq_false_iff_eq] at z0 z1
    rw [h, z0, z1]
    simp
  · have hp2 : p = 0 ∨ p = 1 := by omega
    simp only [roughB, bne_iff_ne] at hr
    rw [h]
    rcases hp2 with rfl | rfl
    · exact ⟨fun _ => .inl hr, fun _ => by omega⟩
    · exact ⟨fun _ => .inr hr, fun _ => by omega⟩
theorem news_take {w : World} {ad : Addr} {l : List S39} (hC : Kd.C k39 w (some ad) l.length l) (q : Nat) (j : Nat) (u : Value) (h : (cells39 (l.take q))[j]? = some u) : w.cell? (ad.add j) = some u := by
  refine news39 hC j u ?_
  have hs : cells39 l = cells39 (l.take q) ++ cells39 (l.drop q) := by rw [cells39_app, List.take_append_drop]
  rw [hs, List.getElem?_append_left (List.getElem?_eq_some_iff.1 h).1]
  exact h
theorem news_drop {w : World} {ad : Addr} {l : List S39} (hC : Kd.C k39 w (some ad) l.length l) (q : Nat) (hq : q ≤ l.length) (j : Nat) (u : Value) (h : (cells39 (l.drop q))[j]? = some u) : w.cell? ((ad.add (q * 8)).add j) = some u := by
  rw [Go.Deep.add_add]
  refine news39 hC (q * 8 + j) u ?_
  have hs : cells39 l = cells39 (l.take q) ++ cells39 (l.drop q) := by rw [cells39_app, List.take_append_drop]
  have hl : (cells39 (l.take q)).length = q * 8 := by rw [cells39_len, List.length_take]; congr 1; omega
  rw [hs, List.getElem?_append_right (by omega), hl, Nat.add_sub_cancel_left]
  exact h
set_option maxRecDepth 100000 in
set_option maxHeartbeats 8000000 in
theorem rreclaim_any (l : List S39) (hl : okL l) (A : Option Addr) (c : Nat) (k : Int) (m : List S39) (hm : okL m) (A2 : Option Addr) (c2 : Nat) (w : World) (hC : Kd.C k39 w A l.length l) (hlen : l.length ≤ c) (hl1 : l.length ≤ 1000) (hC2 : Kd.C k39 w A2 m.length m) (hlen2 : m.length ≤ c2) (hm1 : m.length ≤ 1000) :
    Calls Try.prog 10 #[.slice A l.length c, .int .i64 k, .slice A2 m.length c2] w fun e w' =>
      (recE l k m ≠ 0 → e = .returned (.tuple #[.slice A l.length c, .int .i64 (recE l k m)]) ∧ Below w.heap.size w w') ∧
      (recE l k m = 0 → ∃ v, e = .returned (.tuple #[v, .int .i64 0]) ∧ w'.ownsRow w.heap.size 39 8 v (l.length - 1) (cells39 (gv l m k.toNat 2)) ∧ Below w.heap.size w w') := by
  have HL := Aside0.mk (And.intro hl (And.intro hm (And.intro hlen (And.intro hl1 (And.intro hlen2 hm1)))))
  have HC0 := Aside0.mk hC
  have HM0 := Aside0.mk hC2
  have Hi25 := Aside0.mk (show (Try.prog.info? 25).map (·.size) = some 4 by kernel_rfl)
  have Hi39 := Aside0.mk (show (Try.prog.info? 39).map (·.size) = some 8 by kernel_rfl)
  clear hl hm hC hC2
  by_cases t1 : isThere l.length k
  · have d1 := decide_eq_true t1
    obtain ⟨p, rfl⟩ : ∃ p : Nat, k = p := ⟨k.toNat, by have := t1.1; omega⟩
    have hp : p < l.length := by have := t1.2; omega
    obtain ⟨ad, hA, _⟩ := HC0.out.2.2 (by omega)
    subst hA
    obtain ⟨x, hx⟩ : ∃ x, x = at' l (p : Int) := ⟨_, rfl⟩
    have hX := Aside0.mk hx
    have HE1 := Aside0.mk (show boundE l p m = if x.f2 ≠ 1 ∨ m.length ≠ 2 ∨ 0 ≤ firstI roughB m 0 then 2 else if (addk (am (at39 m 0)) (am (at39 m 1)) 4).2 = 1 ∨ (addk (am (at39 m 0)) (am (at39 m 1)) 4).1 ≠ am x then 16 else if plainI l x.f3 < 0 ∨ plainI l x.f4 < 0 then 9 else 0 by rw [boundE, if_neg (fun h => h t1), ← hx])
    have HRE := Aside0.mk (fun E (h : boundE l p m = E) (h0 : E ≠ 0) => show recE l p m = E by rw [recE, if_pos (by rw [h]; exact h0), h])
    clear t1 hx
    by_cases s1 : x.f2 = 1
    · have k1 : (x.f2 != 1) = false := by simp [s1]
      have S1 := Aside0.mk s1
      clear s1
      by_cases s2 : m.length = 2
      · have k2 : ((m.length : Int) != 2) = false := by simp [s2]
        have S2 := Aside0.mk s2
        obtain ⟨ad2, hA2, _⟩ := HM0.out.2.2 (by omega)
        subst hA2
        have i0 : (0 : Int) < (m.length : Int) := by omega
        have i1 : (1 : Int) < (m.length : Int) := by omega
        have HRO := Aside0.mk (rough2 s2)
        clear s2
        by_cases r0 : (at39 m 0).f2 = 0
        · have q0 : ((at39 m 0).f2 != 0) = false := by simp [r0]
          have R0' := Aside0.mk r0
          clear r0
          by_cases r1 : (at39 m 1).f2 = 0
          · have q1 : ((at39 m 1).f2 != 0) = false := by simp [r1]
            have R1' := Aside0.mk r1
            clear r1
            go_enter Try.func10, Try.ntmps10
            go_wp2_with fail
            refine (rthere_any (some ad) c l p _ HC0.out HL.out.2.2.1).mono ?_
            rintro e w1 ⟨rfl, ⟨nd, hw1⟩⟩
            rw [d1]
            have HW1 := Aside0.mk (show Below w.heap.size w w1 by rw [hw1]; exact pw_below_drewN (Below.refl _ _) _)
            clear hw1
            have HC1 := Aside0.mk (Kd.C_below HC0.out HW1.out)
            obtain ⟨ad1, ea, x0, x1, x2, x3, x4, x5, x6, x7⟩ := at_T39 HC1.out (p : Int) (by omega) (by omega)
            obtain rfl := Option.some.inj ea
            simp only [Int.toNat_natCast] at x0 x1 x2 x3 x4 x5 x6 x7
            have hr : rd_T39 l (p : Int) = at' l p := rfl
            rw [hr] at x0 x1 x2 x3 x4 x5 x6 x7
            have hi : (p : Int) < (l.length : Int) := by omega
            clear hr ea
            rw [← hX.out] at x0 x1 x2 x3 x4 x5 x6 x7
            have HW2 := Aside0.mk (below_alloc HW1.out (.cells (rowA x) 39))
            have hrow : rowA x = #[.string x.f0, .int .u64 x.f1.f0, .int .u64 x.f1.f1, .int .u64 x.f1.f2, .int .u64 x.f1.f3, .int .i64 x.f2, .string x.f3, .string x.f4] := rfl
            rw [hrow] at HW2
            clear hrow
            have HCM := Aside0.mk (Kd.C_below HM0.out HW2.out)
            obtain ⟨adm, eb, _, _, _, _, _, m5, _, _⟩ := at_T39 HCM.out ((0 : Nat) : Int) (by omega) (by have := S2.out; omega)
            obtain rfl := Option.some.inj eb
            obtain ⟨adm2, eb2, _, _, _, _, _, m5b, _, _⟩ := at_T39 HCM.out ((1 : Nat) : Int) (by omega) (by have := S2.out; omega)
            obtain rfl := Option.some.inj eb2
            simp only [Int.toNat_natCast] at m5 m5b
            have hr0 : rd_T39 m ((0 : Nat) : Int) = at39 m 0 := rfl
            have hr1 : rd_T39 m ((1 : Nat) : Int) = at39 m 1 := rfl
            rw [hr0] at m5
            rw [hr1] at m5b
            clear hr0 hr1 eb eb2 HCM
            simp only [Nat.zero_mul, Nat.one_mul, Addr.add_zero'] at m5 m5b
            have z8 : ad2.add 8 = ⟨ad2.block, ad2.off + 8, none⟩ := by simp [Addr.add]
            rw [z8] at m5b
            clear z8
            have H8 := Aside0.mk (show Box (w1.alloc (.cells #[.string x.f0, .int .u64 x.f1.f0, .int .u64 x.f1.f1, .int .u64 x.f1.f2, .int .u64 x.f1.f3, .int .i64 x.f2, .string x.f3, .string x.f4] 39)) w1.heap.size 39 (rowA x) from blk_new w1 _)
            have N8 := Aside0.mk HW1.out.size
            go_wp2_with fail
            generalize w1.alloc (.cells #[.string x.f0, .int .u64 x.f1.f0, .int .u64 x.f1.f1, .int .u64 x.f1.f2, .int .u64 x.f1.f3, .int .i64 x.f2, .string x.f3, .string x.f4] 39) = w3 at *
            generalize w1.heap.size = g8 at *
            clear x0 x1 x2 x3 x4 x5 x6 x7 m5 m5b q0 q1 k1 k2 HC1
            have HW3 := HW2
            have HNR := Aside0.mk (show ¬ 0 ≤ firstI roughB m 0 from fun h => (HRO.out.1 h).elim (fun h => h R0'.out) (fun h => h R1'.out))
            have HEB := Aside0.mk (HE1.out.trans (if_neg (fun h => h.elim (fun h => h S1.out) (fun h => h.elim (fun h => h S2.out) HNR.out))))
            have HMB := Aside0.mk (fun (X : World) (hX : Below w3.heap.size w3 X) => Kd.C_below HM0.out (below_step HW3.out hX))
            have HSL3 := Aside0.mk (show (addk (am (at39 m 0)) (am (at39 m 1)) 4).1.length = 4 by rw [addk_len]; rfl)
            have HSU3 := Aside0.mk (addk_c (am (at39 m 0)) (am (at39 m 1)) 4)
            have HSB3 := Aside0.mk (fun W => radd_any (am (at39 m 0)) (am (at39 m 1)) rfl rfl W)
            have hm0 : ¬ m = [] := by have := S2.out; intro e; rw [e] at this; simp at this
            generalize addk (am (at39 m 0)) (am (at39 m 1)) 4 = S3 at *
            obtain ⟨L3, u3⟩ := S3
            simp only at HEB HSL3 HSU3 HSB3
            refine wp_put (fun a0 a' w' => ∃ gn, a' = ((((((((((((((a0.put (some 50) (.slice (some ad2) m.length c2)).put (some 51) (.pointer (some (ad2.add (0 * 8))))).put (some 52) (.pointer (some ⟨(ad2.add (0 * 8)).block, (ad2.add (0 * 8)).off + 1, none⟩))).put (some 53) (.agg (ws (am (at39 m 0))))).put (some 54) (.slice (some ad2) m.length c2)).put (some 55) (.pointer (some (ad2.add (1 * 8))))).put (some 56) (.pointer (some ⟨(ad2.add (1 * 8)).block, (ad2.add (1 * 8)).off + 1, none⟩))).put (some 57) (.agg (ws (am (at39 m 1))))).put (some 58) (.tuple #[.agg (ws L3), .bool (decide (u3 > 0))])).put (some 49) (.tuple #[.agg (ws L3), .bool (decide (u3 > 0))])).put (some 59) (.agg (ws L3))).put (some 60) (.bool (decide (u3 > 0)))).put (some 9) (.pointer (some ⟨gn, 0, none⟩))).put (some 10) (.bool (decide (u3 > 0)))) ∧ Below w3.heap.size w3 w' ∧ w3.heap.size ≤ gn ∧ Holds w' gn 25 L3) ?hreg ?hnext
            case hreg =>
              refine wp_region_held_drew (S := fun X => Below w3.heap.size w3 X) (by kernel_rfl) (below_drew1 (Below.refl _ _)) (fun hHeld => ?_)
              generalize w3.drew = W0 at *
              try simp only [Act.put, List.getElem_toArray, List.getElem_cons_zero, List.getElem_cons_succ, List.setIfInBounds_toArray, List.set_cons_zero, List.set_cons_succ]
              refine wpAnyH_take (i := 0) (v := .slice (some ad2) m.length c2) rfl (by kernel_rfl) (by kernel_rfl) (by kernel_rfl) (fun _ _ _ h => absurd h.1 (by simp)) (.inl ⟨by rfl, fun _ _ => by go_simp⟩) hHeld ?_
              try simp only [Act.put, List.getElem_toArray, List.getElem_cons_zero, List.getElem_cons_succ, List.setIfInBounds_toArray, List.set_cons_zero, List.set_cons_succ]
              refine wpAnyH_take (i := 1) (v := .pointer (some (ad2.add (0 * 8)))) rfl (by kernel_rfl) (by kernel_rfl) (by kernel_rfl) (fun _ _ _ h => absurd h.1 (by simp)) (.inl ⟨by rfl, fun _ _ => by go_simp⟩) hHeld ?_
              try simp only [Act.put, List.getElem_toArray, List.getElem_cons_zero, List.getElem_cons_succ, List.setIfInBounds_toArray, List.set_cons_zero, List.set_cons_succ]
              refine wpAnyH_take (i := 2) (v := .pointer (some ⟨(ad2.add (0 * 8)).block, (ad2.add (0 * 8)).off + 1, none⟩)) rfl (by kernel_rfl) (by kernel_rfl) (by kernel_rfl) (fun _ _ _ h => absurd h.1 (by simp)) (.inl ⟨by rfl, fun _ _ => by go_simp⟩) hHeld ?_
              try simp only [Act.put, List.getElem_toArray, List.getElem_cons_zero, List.getElem_cons_succ, List.setIfInBounds_toArray, List.set_cons_zero, List.set_cons_succ]
              refine wpAnyH_take (i := 3) (v := .agg (wl (am (at39 m 0))).toArray) rfl (by kernel_rfl) (by kernel_rfl) (by kernel_rfl) (fun _ _ _ h => absurd h.1 (by simp)) (yieldsIf_load_mid rfl 25 _ rfl _ _ rfl (wl (am (at39 m 0))) _ (fun X' hS => range_am' (HMB.out _ hS) HL.out.2.1 0 (by have := S2.out; omega)) Try.underlying25 rfl (by rw [Hi25.out]; rfl)) hHeld ?_
              try simp only [Act.put, List.getElem_toArray, List.getElem_cons_zero, List.getElem_cons_succ, List.setIfInBounds_toArray, List.set_cons_zero, List.set_cons_succ]
              refine wpAnyH_take (i := 4) (v := .slice (some ad2) m.length c2) rfl (by kernel_rfl) (by kernel_rfl) (by kernel_rfl) (fun _ _ _ h => absurd h.1 (by simp)) (.inl ⟨by rfl, fun _ _ => by go_simp⟩) hHeld ?_
              try simp only [Act.put, List.getElem_toArray, List.getElem_cons_zero, List.getElem_cons_succ, List.setIfInBounds_toArray, List.set_cons_zero, List.set_cons_succ]
              refine wpAnyH_take (i := 5) (v := .pointer (some (ad2.add (1 * 8)))) rfl (by kernel_rfl) (by kernel_rfl) (by kernel_rfl) (fun _ _ _ h => absurd h.1 (by simp)) (.inl ⟨by rfl, fun _ _ => by go_simp⟩) hHeld ?_
              try simp only [Act.put, List.getElem_toArray, List.getElem_cons_zero, List.getElem_cons_succ, List.setIfInBounds_toArray, List.set_cons_zero, List.set_cons_succ]
              refine wpAnyH_take (i := 6) (v := .pointer (some ⟨(ad2.add (1 * 8)).block, (ad2.add (1 * 8)).off + 1, none⟩)) rfl (by kernel_rfl) (by kernel_rfl) (by kernel_rfl) (fun _ _ _ h => absurd h.1 (by simp)) (.inl ⟨by rfl, fun _ _ => by go_simp⟩) hHeld ?_
              try simp only [Act.put, List.getElem_toArray, List.getElem_cons_zero, List.getElem_cons_succ, List.setIfInBounds_toArray, List.set_cons_zero, List.set_cons_succ]
              refine wpAnyH_take (i := 7) (v := .agg (wl (am (at39 m 1))).toArray) rfl (by kernel_rfl) (by kernel_rfl) (by kernel_rfl) (fun _ _ _ h => absurd h.1 (by simp)) (yieldsIf_load_mid rfl 25 _ rfl _ _ rfl (wl (am (at39 m 1))) _ (fun X' hS => range_am' (HMB.out _ hS) HL.out.2.1 1 (by have := S2.out; omega)) Try.underlying25 rfl (by rw [Hi25.out]; rfl)) hHeld ?_
              try simp only [Act.put, List.getElem_toArray, List.getElem_cons_zero, List.getElem_cons_succ, List.setIfInBounds_toArray, List.set_cons_zero, List.set_cons_succ]
              rw [wl_eq, wl_eq]
              refine wpAnyH_ready (rs := [8, 12]) (by kernel_rfl) (by simp) ?_
              refine AllReadyH.cons rfl (fun K hK => ?_) ?_
              · go_simp
                refine (HSB3.out _).mono ?_
                rintro e X1 ⟨rfl, hb⟩
                refine hK.out _ _ (below_step hHeld hb) (fun hHeld => ?_)
                clear hb hK K
                try simp only [Act.put, List.getElem_toArray, List.getElem_cons_zero, List.getElem_cons_succ, List.setIfInBounds_toArray, List.set_cons_zero, List.set_cons_succ]
                refine wpAnyH_take (i := 9) (v := .tuple #[.agg (ws L3), .bool (decide (u3 > 0))]) rfl (by kernel_rfl) (by kernel_rfl) (by kernel_rfl) (fun _ _ _ h => absurd h.1 (by simp)) (.inl ⟨by rfl, fun _ _ => by go_simp⟩) hHeld ?_
                try simp only [Act.put, List.getElem_toArray, List.getElem_cons_zero, List.getElem_cons_succ, List.setIfInBounds_toArray, List.set_cons_zero, List.set_cons_succ]
                refine wpAnyH_take (i := 10) (v := .agg (ws L3)) rfl (by kernel_rfl) (by kernel_rfl) (by kernel_rfl) (fun _ _ _ h => absurd h.1 (by simp)) (.inl ⟨by rfl, fun _ _ => by go_simp⟩) hHeld ?_
                try simp only [Act.put, List.getElem_toArray, List.getElem_cons_zero, List.getElem_cons_succ, List.setIfInBounds_toArray, List.set_cons_zero, List.set_cons_succ]
                refine wpAnyH_take (i := 11) (v := .bool (decide (u3 > 0))) rfl (by kernel_rfl) (by kernel_rfl) (by kernel_rfl) (fun _ _ _ h => absurd h.1 (by simp)) (.inl ⟨by rfl, fun _ _ => by go_simp⟩) hHeld ?_
                try simp only [Act.put, List.getElem_toArray, List.getElem_cons_zero, List.getElem_cons_succ, List.setIfInBounds_toArray, List.set_cons_zero, List.set_cons_succ]
                refine wpAnyH_ready (rs := [12]) (by kernel_rfl) (by simp) ?_
                refine AllReadyH.cons rfl (fun K hK => ?_) AllReadyH.nil
                go_simp
                have hb := below_alloc (Below.refl X1.heap.size X1) (.cells #[Value.int .u64 0, .int .u64 0, .int .u64 0, .int .u64 0] 25)
                have H14 := Aside0.mk (And.intro (show Holds (X1.alloc (.cells #[Value.int .u64 0, .int .u64 0, .int .u64 0, .int .u64 0] 25)) X1.heap.size 25 (List.replicate 4 0) from blk_new X1 _) hHeld.size)
                refine hK.out _ _ (below_step hHeld hb) (fun hHeld => ?_)
                clear hb hK K
                generalize X1.alloc _ = X2 at *
                generalize X1.heap.size = g14 at *
                try simp only [Act.put, List.getElem_toArray, List.getElem_cons_zero, List.getElem_cons_succ, List.setIfInBounds_toArray, List.set_cons_zero, List.set_cons_succ]
                have hx := H14.out.1
                have z0 := hx.cell 0 (by simp)
                have y0 := hx.free 0
                have z1 := hx.cell 1 (by simp)
                have y1 := hx.free 1
                have z2 := hx.cell 2 (by simp)
                have y2 := hx.free 2
                have z3 := hx.cell 3 (by simp)
                have y3 := hx.free 3
                clear hx
                have hwf := ws_four L3 HSL3.out
                refine wpAnyH_ready (rs := [13]) (by kernel_rfl) (by simp) ?_
                refine AllReadyH.cons rfl (fun K hK => ?_) AllReadyH.nil
                go_simp
                have n14 := H14.out.2
                refine hK.out _ _ (below_set (below_set (below_set (below_set hHeld n14) n14) n14) n14) (fun hHeld => ?_)
                clear hK K z0 z1 z2 z3 y0 y1 y2 y3 hwf
                have H14' := Aside0.mk (set_four (L := List.replicate 4 0) (H := L3) rfl HSL3.out H14.out.1)
                try simp only [Act.put, List.getElem_toArray, List.getElem_cons_zero, List.getElem_cons_succ, List.setIfInBounds_toArray, List.set_cons_zero, List.set_cons_succ]
                refine wpAnyH_take (i := 14) (v := .bool (decide (u3 > 0))) rfl (by kernel_rfl) (by kernel_rfl) (by kernel_rfl) (fun _ _ _ h => absurd h.1 (by simp)) (.inl ⟨by rfl, fun _ _ => by go_simp⟩) hHeld ?_
                try simp only [Act.put, List.getElem_toArray, List.getElem_cons_zero, List.getElem_cons_succ, List.setIfInBounds_toArray, List.set_cons_zero, List.set_cons_succ]
                refine wpAnyH_done (by kernel_rfl) ?_ _
                refine ⟨rfl, g14, ?_, hHeld, n14, H14'.out⟩
                rw [ws_four L3 HSL3.out]
                try rfl
              refine AllReadyH.cons rfl (fun K hK => ?_) AllReadyH.nil
              go_simp
              have hb := below_alloc (Below.refl W0.heap.size W0) (.cells #[Value.int .u64 0, .int .u64 0, .int .u64 0, .int .u64 0] 25)
              have H14 := Aside0.mk (And.intro (show Holds (W0.alloc (.cells #[Value.int .u64 0, .int .u64 0, .int .u64 0, .int .u64 0] 25)) W0.heap.size 25 (List.replicate 4 0) from blk_new W0 _) hHeld.size)
              refine hK.out _ _ (below_step hHeld hb) (fun hHeld => ?_)
              clear hb hK K
              generalize W0.alloc _ = X3 at *
              generalize W0.heap.size = g14 at *
              try simp only [Act.put, List.getElem_toArray, List.getElem_cons_zero, List.getElem_cons_succ, List.setIfInBounds_toArray, List.set_cons_zero, List.set_cons_succ]
              refine wpAnyH_ready (rs := [8]) (by kernel_rfl) (by simp) ?_
              refine AllReadyH.cons rfl (fun K hK => ?_) AllReadyH.nil
              go_simp
              refine (HSB3.out _).mono ?_
              rintro e X4 ⟨rfl, hb⟩
              replace H14 := Aside0.mk (And.intro (Holds.below H14.out.1 hb) H14.out.2)
              refine hK.out _ _ (below_step hHeld hb) (fun hHeld => ?_)
              clear hb hK K
              try simp only [Act.put, List.getElem_toArray, List.getElem_cons_zero, List.getElem_cons_succ, List.setIfInBounds_toArray, List.set_cons_zero, List.set_cons_succ]
              refine wpAnyH_take (i := 9) (v := .tuple #[.agg (ws L3), .bool (decide (u3 > 0))]) rfl (by kernel_rfl) (by kernel_rfl) (by kernel_rfl) (fun _ _ _ h => absurd h.1 (by simp)) (.inl ⟨by rfl, fun _ _ => by go_simp⟩) hHeld ?_
              try simp only [Act.put, List.getElem_toArray, List.getElem_cons_zero, List.getElem_cons_succ, List.setIfInBounds_toArray, List.set_cons_zero, List.set_cons_succ]
              refine wpAnyH_take (i := 10) (v := .agg (ws L3)) rfl (by kernel_rfl) (by kernel_rfl) (by kernel_rfl) (fun _ _ _ h => absurd h.1 (by simp)) (.inl ⟨by rfl, fun _ _ => by go_simp⟩) hHeld ?_
              try simp only [Act.put, List.getElem_toArray, List.getElem_cons_zero, List.getElem_cons_succ, List.setIfInBounds_toArray, List.set_cons_zero, List.set_cons_succ]
              refine wpAnyH_take (i := 11) (v := .bool (decide (u3 > 0))) rfl (by kernel_rfl) (by kernel_rfl) (by kernel_rfl) (fun _ _ _ h => absurd h.1 (by simp)) (.inl ⟨by rfl, fun _ _ => by go_simp⟩) hHeld ?_
              try simp only [Act.put, List.getElem_toArray, List.getElem_cons_zero, List.getElem_cons_succ, List.setIfInBounds_toArray, List.set_cons_zero, List.set_cons_succ]
              have hx := H14.out.1
              have z0 := hx.cell 0 (by simp)
              have y0 := hx.free 0
              have z1 := hx.cell 1 (by simp)
              have y1 := hx.free 1
              have z2 := hx.cell 2 (by simp)
              have y2 := hx.free 2
              have z3 := hx.cell 3 (by simp)
              have y3 := hx.free 3
              clear hx
              have hwf := ws_four L3 HSL3.out
              refine wpAnyH_ready (rs := [13]) (by kernel_rfl) (by simp) ?_
              refine AllReadyH.cons rfl (fun K hK => ?_) AllReadyH.nil
              go_simp
              have n14 := H14.out.2
              refine hK.out _ _ (below_set (below_set (below_set (below_set hHeld n14) n14) n14) n14) (fun hHeld => ?_)
              clear hK K z0 z1 z2 z3 y0 y1 y2 y3 hwf
              have H14' := Aside0.mk (set_four (L := List.replicate 4 0) (H := L3) rfl HSL3.out H14.out.1)
              try simp only [Act.put, List.getElem_toArray, List.getElem_cons_zero, List.getElem_cons_succ, List.setIfInBounds_toArray, List.set_cons_zero, List.set_cons_succ]
              refine wpAnyH_take (i := 14) (v := .bool (decide (u3 > 0))) rfl (by kernel_rfl) (by kernel_rfl) (by kernel_rfl) (fun _ _ _ h => absurd h.1 (by simp)) (.inl ⟨by rfl, fun _ _ => by go_simp⟩) hHeld ?_
              try simp only [Act.put, List.getElem_toArray, List.getElem_cons_zero, List.getElem_cons_succ, List.setIfInBounds_toArray, List.set_cons_zero, List.set_cons_succ]
              refine wpAnyH_done (by kernel_rfl) ?_ _
              refine ⟨rfl, g14, ?_, hHeld, n14, H14'.out⟩
              rw [ws_four L3 HSL3.out]
              try rfl
            case hnext =>
              rintro _ w4 ⟨g9, rfl, hb4, n9, h9⟩
              try simp only [Act.put, List.getElem_toArray, List.getElem_cons_zero, List.getElem_cons_succ, List.setIfInBounds_toArray, List.set_cons_zero, List.set_cons_succ]
              have HW4 := Aside0.mk (below_step HW3.out hb4)
              have H84 := Aside0.mk (show Box w4 g8 39 (rowA x) from blk_below H8.out hb4)
              have H9 := Aside0.mk h9
              clear hb4 n9 h9 H8 HMB
              by_cases v1 : u3 > 0
              · have kk := decide_eq_true v1
                have HE := Aside0.mk (HRE.out 16 (HEB.out.trans (if_pos (.inl (by have := HSU3.out; omega)))) (by decide))
                go_wp2_with fail
                exact bodyPost_ret (v := .tuple #[.slice (some ad) l.length c, .int .i64 16]) (by simp [results, Try.results10, go_sem]) rfl ⟨fun _ => ⟨by rw [HE.out], HW4.out⟩, fun h => absurd (HE.out.symm.trans h) (by decide)⟩
              have kk := decide_eq_false v1
              have y6 := H84.out.cell 6 (.string x.f3) rfl
              have y7 := H84.out.cell 7 (.string x.f4) rfl
              have y1 := H84.out.cell 1 (.int .u64 x.f1.f0) rfl
              have y2 := H84.out.cell 2 (.int .u64 x.f1.f1) rfl
              have y3 := H84.out.cell 3 (.int .u64 x.f1.f2) rfl
              have y4 := H84.out.cell 4 (.int .u64 x.f1.f3) rfl
              by_cases v2 : L3 = am x
              · have hx9 : Box w4 g9 25 #[.int .u64 x.f1.f0, .int .u64 x.f1.f1, .int .u64 x.f1.f2, .int .u64 x.f1.f3] := by have h9 := H9.out; rw [v2] at h9; have e := ws_wl4 _ _ _ _ (show okA x from by rw [hX.out]; exact HL.out.1 _ (at39_mem (l := l) (k := (p : Int).toNat) (by rw [Int.toNat_natCast]; exact hp))); show w4.heap[g9]? = _; rw [← e]; exact h9
                have z0 := hx9.cell 0 (.int .u64 x.f1.f0) rfl
                have z1 := hx9.cell 1 (.int .u64 x.f1.f1) rfl
                have z2 := hx9.cell 2 (.int .u64 x.f1.f2) rfl
                have z3 := hx9.cell 3 (.int .u64 x.f1.f3) rfl
                clear hx9
                have HEC := Aside0.mk (HEB.out.trans (if_neg (fun h => h.elim (fun h => v1 (by omega)) (fun h => h v2))))
                clear HEB v2
                go_wp2_with fail
                refine (rplain_any l (some ad) c x.f3 w4 (Kd.C_below HC0.out HW4.out) HL.out.2.2.1 HL.out.2.2.2.1).mono ?_
                rintro e w5 ⟨rfl, hb5⟩
                have HW5 := Aside0.mk (below_step HW4.out hb5)
                have H85 := Aside0.mk (show Box w5 g8 39 (rowA x) from blk_below H84.out hb5)
                have b7 := H85.out.cell 7 (.string x.f4) rfl
                clear hb5 y1 y2 y3 y4 y6 y7 z0 z1 z2 z3 H84
                by_cases p1 : plainI l x.f3 < 0
                · have q1 := decide_eq_true p1
                  have HE := Aside0.mk (HRE.out 9 (HEC.out.trans (if_pos (.inl p1))) (by decide))
                  go_wp2_with fail
                  exact bodyPost_ret (v := .tuple #[.slice (some ad) l.length c, .int .i64 9]) (by simp [results, Try.results10, go_sem]) rfl ⟨fun _ => ⟨by rw [HE.out], HW5.out⟩, fun h => absurd (HE.out.symm.trans h) (by decide)⟩
                have q1 := decide_eq_false p1
                have P1 := Aside0.mk p1
                clear p1
                go_wp2_with fail
                refine (rplain_any l (some ad) c x.f4 w5 (Kd.C_below HC0.out HW5.out) HL.out.2.2.1 HL.out.2.2.2.1).mono ?_
                rintro e w6 ⟨rfl, hb6⟩
                have HW6 := Aside0.mk (below_step HW5.out hb6)
                have H86 := Aside0.mk (show Box w6 g8 39 (rowA x) from blk_below H85.out hb6)
                clear hb6 b7 H85
                by_cases p2 : plainI l x.f4 < 0
                · have q2 := decide_eq_true p2
                  have HE := Aside0.mk (HRE.out 9 (HEC.out.trans (if_pos (.inr p2))) (by decide))
                  go_wp2_with fail
                  exact bodyPost_ret (v := .tuple #[.slice (some ad) l.length c, .int .i64 9]) (by simp [results, Try.results10, go_sem]) rfl ⟨fun _ => ⟨by rw [HE.out], HW6.out⟩, fun h => absurd (HE.out.symm.trans h) (by decide)⟩
                have q2 := decide_eq_false p2
                have hbe : boundE l p m = 0 := HEC.out.trans (if_neg (fun h => h.elim (fun h => by have := P1.out; omega) (fun h => by omega)))
                obtain ⟨q, hq0, hf⟩ := fine_of hbe
                obtain rfl : q = p := by omega
                have HF := Aside0.mk hf
                have HE := Aside0.mk (show recE l q m = if (gsum l m q 0).2 = 1 ∨ (gsum l m q 1).2 = 1 then 7 else 0 by rw [recE, if_neg (fun h => h hbe), Int.toNat_natCast])
                obtain ⟨n, hn⟩ : ∃ n, l.length = n + 1 := ⟨l.length - 1, by omega⟩
                have HN := Aside0.mk hn
                have hxx : x = at39 l q := by rw [hX.out, at', Int.toNat_natCast]
                subst hxx
                obtain ⟨j0, hi, hz0, hz1, hz2⟩ := info_parts info39_8
                have HIN := Aside0.mk (And.intro hi (And.intro hz0 (And.intro hz1 hz2)))
                have hnil := World.ownsRow_nil w6 w6.heap.size 39 8
                have H8L := Aside0.mk H86.out.lt
                have HC6 := Aside0.mk (Kd.C_below HC0.out HW6.out)
                have e1 : (q : Int) ≤ (l.length : Int) := by omega
                have e2 : (q : Int) ≤ (c : Int) := by omega
                have e3 : (q : Int) + 1 ≤ (l.length : Int) := by omega
                have e4 : ((q : Int) + 1).toNat = q + 1 := by omega
                clear hi hz0 hz1 hz2 hbe hq0 hf p2 HRE HE1 HEC hX d1 hn
                go_wp2_with (at_builtin; refine wpList_append_own w6 rfl _ _ 22 rfl w6.heap.size 39 j0 (.agg #[.string ByteArray.empty, .int .u64 0, .int .u64 0, .int .u64 0, .int .u64 0, .int .i64 0, .string ByteArray.empty, .string ByteArray.empty]) 8 88 Try.underlying22 HIN.out.1 HIN.out.2.1 HIN.out.2.2.1 HIN.out.2.2.2 rfl (by decide) _ 0 [] rfl hnil ad q c (cells39 (l.take q)) rfl (by rw [cells39_len, List.length_take]; congr 1; omega) ?c1 (one39 _) ?c3 ?c4 ?c5 ?_)
                case c1 => intro j u hu; exact news_take HC6.out q j u hu
                case c3 => show 0 + q ≤ 9223372036854775807; omega
                case c4 => omega
                case c5 => exact Nat.le_refl _
                intro v1 w7 hown7 hgr7 _
                try simp only [Nat.zero_add, List.nil_append] at hown7
                have HW7 := Aside0.mk (HW6.out.grown hgr7 HW6.out.size (fun k e => by cases e))
                have H87 := Aside0.mk (show Box w7 g8 39 (rowA (at39 l q)) from (hgr7.block g8 H86.out.lt (fun e => by cases e)).trans H86.out)
                have HC7 := Aside0.mk (Kd.C_below HC0.out HW7.out)
                have HO7 := Aside0.mk hown7
                have HS7 := Aside0.mk (show w6.heap.size ≤ w7.heap.size from hgr7.size)
                clear hnil hown7 hgr7 HC6
                by_cases hce : c = q + 1
                · subst hce
                  have hd : l.drop (q + 1) = [] := List.drop_eq_nil_of_le (by omega)
                  have HD := Aside0.mk hd
                  clear hd
                  go_wp2_with (at_builtin; refine wpList_append_own w7 rfl _ _ 22 rfl w6.heap.size 39 j0 (.agg #[.string ByteArray.empty, .int .u64 0, .int .u64 0, .int .u64 0, .int .u64 0, .int .i64 0, .string ByteArray.empty, .string ByteArray.empty]) 8 88 Try.underlying22 HIN.out.1 HIN.out.2.1 HIN.out.2.2.1 HIN.out.2.2.2 rfl (by decide) _ q (cells39 (l.take q)) rfl HO7.out ad 0 0 (cells39 (l.drop (q + 1))) rfl (by rw [HD.out]; rfl) ?c1 (one39 _) ?c3 ?c4 ?c5 ?_)
                  case c1 => intro j u hu; rw [HD.out] at hu; simp [cells39] at hu
                  case c3 => show q + 0 ≤ 9223372036854775807; omega
                  case c4 => omega
                  case c5 => exact HS7.out
                  intro v2 w8 hown8 hgr8 _
                  rw [cells39_app] at hown8
                  have hown9 : w8.ownsRow w6.heap.size 39 8 v2 n (cells39 (gv l m q 0)) := by
                    have e : n = q := by have := HN.out; omega
                    rw [e]
                    exact hown8
                  clear hown8
                  have hown8 := hown9
                  clear hown9
                  have HBX := Aside0.mk (show Box w8 g8 39 (rowA (at39 l q)) from (hgr8.block g8 H87.out.lt (fun e => by have := own_base HO7.out _ e.symm; have := H8L.out; omega)).trans H87.out)
                  rcases hown8.2 with ⟨_, hz⟩ | ⟨g, cap, cur, rfl, hgo, _⟩
                  · exact absurd hz (by have := (HF.out.at 0).1; have := HN.out; omega)
                  have HW8 := Aside0.mk (HW7.out.grown hgr8 HW7.out.size (fun k e => Nat.le_trans HW6.out.size (own_base HO7.out k e)))
                  have HO8 := Aside0.mk (show w8.ownsRow w6.heap.size 39 8 (.slice (some ⟨g, 0, none⟩) n cap) n (cells39 (gv l m q 0)) from hown8)
                  have HG0 := Aside0.mk (Nat.le_trans HW6.out.size hgo)
                  have HG8 := Aside0.mk (show g8 ≠ g from fun e => by have := H8L.out; omega)
                  have H88 := Aside0.mk (show Box w8 g8 39 (rowA (at39 l q)) from HBX.out)
                  clear hown8 hgr8 hgo HBX HO7 H87
                  go_wp2_with fail
                  go_loopw [12] (fun it wr => ∃ i : Nat, i ≤ 2 ∧ it = .int .i64 (i : Nat) ∧ (∀ j, j < i → (gsum l m q j).2 ≠ 1) ∧ Below w.heap.size w wr ∧ wr.ownsRow w6.heap.size 39 8 (.slice (some ⟨g, 0, none⟩) n cap) n (cells39 (gv l m q i)) ∧ Box wr g8 39 (rowA (at39 l q))) (fun it _ => 2 - (intOf it).toNat)
                  case atStart => exact ⟨0, by omega, rfl, fun j hj => absurd hj (by omega), HW8.out, HO8.out, H88.out⟩
                  case round =>
                    obtain ⟨i, hi, rfl, hz, hbw, hor, hbx⟩ := hrel
                    have HZ := Aside0.mk hz
                    have HWr := Aside0.mk hbw
                    have HOr := Aside0.mk hor
                    have HXr := Aside0.mk hbx
                    clear hz hbw hor hbx HW8 HO8 H88
                    by_cases hlt : i < 2
                    · have y6 := HXr.out.cell 6 (.string (at39 l q).f3) rfl
                      have y7 := HXr.out.cell 7 (.string (at39 l q).f4) rfl
                      have hcn := C_of_own HOr.out (by rw [gv_len hp, HN.out]; rfl)
                      have hpl := rplain_any (gv l m q i) (some ⟨g, 0, none⟩) cap (sideT (at39 l q) i) wr (by rw [gv_len hp, HN.out]; exact hcn.1) (by rw [gv_len hp, HN.out]; exact hcn.2) (by rw [gv_len hp]; omega)
                      rw [gv_len hp, HN.out, (HF.out.at i).2] at hpl
                      have HPL := Aside0.mk hpl
                      clear hcn hpl
                      have hi0 : (i : Int) < 2 := by omega
                      have hp0 := (HF.out.at i).1
                      have HGV := Aside0.mk (show gv l m q (i + 1) = giveL (gv l m q i) (gp l m q i) (gsum l m q i).1 ∧ gsum l m q i = addk (am (at39 (gv l m q i) (gp l m q i))) (am (at39 m i)) 4 from ⟨rfl, rfl⟩)
                      have HOK := Aside0.mk (okL_gv (m := m) HL.out.1 q i)
                      have HLO := Aside0.mk (gv_len (m := m) hp i)
                      generalize gp l m q i = p at *
                      generalize gv l m q i = o at *
                      obtain ⟨S3, hS3⟩ : ∃ S3, S3 = gsum l m q i := ⟨_, rfl⟩
                      rw [← hS3] at HGV
                      have HS3 := Aside0.mk hS3.symm
                      clear hS3
                      have hpo : p < o.length := by rw [HLO.out]; exact hp0
                      have hpn : p < n := by have := HN.out; omega
                      have HSL3 := Aside0.mk (show S3.1.length = 4 by rw [HGV.out.2, addk_len]; rfl)
                      have HSU3 := Aside0.mk (show S3.2 ≤ 1 by rw [HGV.out.2]; exact addk_c _ _ _)
                      have HSB3 := Aside0.mk (fun W => radd_any (am (at39 o p)) (am (at39 m i)) rfl rfl W)
                      rw [← HGV.out.2] at HSB3
                      have him : (i : Int) < (m.length : Int) := by have := S2.out; omega
                      obtain ⟨L3, u3⟩ := S3
                      simp only at HSL3 HSU3 HSB3
                      have h01 : i = 0 ∨ i = 1 := by omega
                      have HDIS : (((i : Int) == 1) = false ∧ sideT (at39 l q) i = (at39 l q).f3) ∨ (((i : Int) == 1) = true ∧ sideT (at39 l q) i = (at39 l q).f4) := by
                        rcases h01 with rfl | rfl
                        · exact .inl ⟨rfl, rfl⟩
                        · exact .inr ⟨rfl, rfl⟩
                      have H01 := Aside0.mk h01
                      clear h01
                      rcases HDIS with ⟨b1, hside⟩ | ⟨b1, hside⟩
                      all_goals
                        rw [hside] at HPL
                        clear hside
                        go_wp2_with fail
                        refine HPL.out.mono ?_
                        rintro e w5 ⟨rfl, hb5⟩
                        have HW5 := Aside0.mk (below_step HWr.out hb5)
                        have HO5 := Aside0.mk (own_below HOr.out hb5)
                        have HX5 := Aside0.mk (show Box w5 g8 39 _ from blk_below HXr.out hb5)
                        have HMB := Aside0.mk (fun (X : World) (hX : Below w5.heap.size w5 X) => Kd.C_below HM0.out (below_step HW5.out hX))
                        clear y6 y7 b1 hb5 HWr HOr HXr HPL
                        go_wp2_with fail
                        refine wp_put (fun a0 a' w' => ∃ gn, a' = ((((((((((((((((a0.put (some 107) (.slice (some ⟨g, 0, none⟩) n cap)).put (some 108) (.int .i64 (p : Nat))).put (some 109) (.pointer (some ⟨g, p * 8, none⟩))).put (some 110) (.pointer (some ⟨g, p * 8 + 1, none⟩))).put (some 111) (.agg (ws (am (at39 o p))))).put (some 112) (.slice (some ad2) m.length c2)).put (some 113) (.int .i64 (i : Nat))).put (some 114) (.pointer (some (ad2.add (i * 8))))).put (some 115) (.pointer (some ⟨(ad2.add (i * 8)).block, (ad2.add (i * 8)).off + 1, none⟩))).put (some 116) (.agg (ws (am (at39 m i))))).put (some 117) (.tuple #[.agg (ws L3), .bool (decide (u3 > 0))])).put (some 106) (.tuple #[.agg (ws L3), .bool (decide (u3 > 0))])).put (some 118) (.agg (ws L3))).put (some 119) (.bool (decide (u3 > 0)))).put (some 15) (.pointer (some ⟨gn, 0, none⟩))).put (some 16) (.bool (decide (u3 > 0)))) ∧ Below w5.heap.size w5 w' ∧ w5.heap.size ≤ gn ∧ Holds w' gn 25 L3) ?hreg ?hnext
                        case hreg =>
                          refine wp_region_held_drew (S := fun X => Below w5.heap.size w5 X) (by kernel_rfl) (below_drew1 (Below.refl _ _)) (fun hHeld => ?_)
                          generalize w5.drew = W0 at *
                          try simp only [Act.put, List.getElem_toArray, List.getElem_cons_zero, List.getElem_cons_succ, List.setIfInBounds_toArray, List.set_cons_zero, List.set_cons_succ]
                          refine wpAnyH_take (i := 0) (v := .slice (some ⟨g, 0, none⟩) n cap) rfl (by kernel_rfl) (by kernel_rfl) (by kernel_rfl) (fun _ _ _ h => absurd h.1 (by simp)) (.inl ⟨by rfl, fun _ _ => by go_simp⟩) hHeld ?_
                          try simp only [Act.put, List.getElem_toArray, List.getElem_cons_zero, List.getElem_cons_succ, List.setIfInBounds_toArray, List.set_cons_zero, List.set_cons_succ]
                          refine wpAnyH_take (i := 1) (v := .int .i64 (p : Nat)) rfl (by kernel_rfl) (by kernel_rfl) (by kernel_rfl) (fun _ _ _ h => absurd h.1 (by simp)) (.inl ⟨by rfl, fun _ _ => by go_simp⟩) hHeld ?_
                          try simp only [Act.put, List.getElem_toArray, List.getElem_cons_zero, List.getElem_cons_succ, List.setIfInBounds_toArray, List.set_cons_zero, List.set_cons_succ]
                          refine wpAnyH_take (i := 2) (v := .pointer (some ⟨g, p * 8, none⟩)) rfl (by kernel_rfl) (by kernel_rfl) (by kernel_rfl) (fun _ _ _ h => absurd h.1 (by simp)) (.inl ⟨by rfl, fun _ _ => by go_simp⟩) hHeld ?_
                          try simp only [Act.put, List.getElem_toArray, List.getElem_cons_zero, List.getElem_cons_succ, List.setIfInBounds_toArray, List.set_cons_zero, List.set_cons_succ]
                          refine wpAnyH_take (i := 3) (v := .pointer (some ⟨g, p * 8 + 1, none⟩)) rfl (by kernel_rfl) (by kernel_rfl) (by kernel_rfl) (fun _ _ _ h => absurd h.1 (by simp)) (.inl ⟨by rfl, fun _ _ => by go_simp⟩) hHeld ?_
                          try simp only [Act.put, List.getElem_toArray, List.getElem_cons_zero, List.getElem_cons_succ, List.setIfInBounds_toArray, List.set_cons_zero, List.set_cons_succ]
                          refine wpAnyH_take (i := 4) (v := .agg (wl (am (at39 o p))).toArray) rfl (by kernel_rfl) (by kernel_rfl) (by kernel_rfl) (fun _ _ _ h => absurd h.1 (by simp)) (yieldsIf_load_mid rfl 25 _ rfl _ _ rfl (wl (am (at39 o p))) _ (fun X' hS => range_own (own_below HO5.out hS) HOK.out p hpo) Try.underlying25 rfl (by rw [Hi25.out]; rfl)) hHeld ?_
                          try simp only [Act.put, List.getElem_toArray, List.getElem_cons_zero, List.getElem_cons_succ, List.setIfInBounds_toArray, List.set_cons_zero, List.set_cons_succ]
                          refine wpAnyH_take (i := 5) (v := .slice (some ad2) m.length c2) rfl (by kernel_rfl) (by kernel_rfl) (by kernel_rfl) (fun _ _ _ h => absurd h.1 (by simp)) (.inl ⟨by rfl, fun _ _ => by go_simp⟩) hHeld ?_
                          try simp only [Act.put, List.getElem_toArray, List.getElem_cons_zero, List.getElem_cons_succ, List.setIfInBounds_toArray, List.set_cons_zero, List.set_cons_succ]
                          refine wpAnyH_take (i := 6) (v := .int .i64 (i : Nat)) rfl (by kernel_rfl) (by kernel_rfl) (by kernel_rfl) (fun _ _ _ h => absurd h.1 (by simp)) (.inl ⟨by rfl, fun _ _ => by go_simp⟩) hHeld ?_
                          try simp only [Act.put, List.getElem_toArray, List.getElem_cons_zero, List.getElem_cons_succ, List.setIfInBounds_toArray, List.set_cons_zero, List.set_cons_succ]
                          refine wpAnyH_take (i := 7) (v := .pointer (some (ad2.add (i * 8)))) rfl (by kernel_rfl) (by kernel_rfl) (by kernel_rfl) (fun _ _ _ h => absurd h.1 (by simp)) (.inl ⟨by rfl, fun _ _ => by go_simp⟩) hHeld ?_
                          try simp only [Act.put, List.getElem_toArray, List.getElem_cons_zero, List.getElem_cons_succ, List.setIfInBounds_toArray, List.set_cons_zero, List.set_cons_succ]
                          refine wpAnyH_take (i := 8) (v := .pointer (some ⟨(ad2.add (i * 8)).block, (ad2.add (i * 8)).off + 1, none⟩)) rfl (by kernel_rfl) (by kernel_rfl) (by kernel_rfl) (fun _ _ _ h => absurd h.1 (by simp)) (.inl ⟨by rfl, fun _ _ => by go_simp⟩) hHeld ?_
                          try simp only [Act.put, List.getElem_toArray, List.getElem_cons_zero, List.getElem_cons_succ, List.setIfInBounds_toArray, List.set_cons_zero, List.set_cons_succ]
                          refine wpAnyH_take (i := 9) (v := .agg (wl (am (at39 m i))).toArray) rfl (by kernel_rfl) (by kernel_rfl) (by kernel_rfl) (fun _ _ _ h => absurd h.1 (by simp)) (yieldsIf_load_mid rfl 25 _ rfl _ _ rfl (wl (am (at39 m i))) _ (fun X' hS => range_am' (HMB.out _ hS) HL.out.2.1 i (by have := S2.out; omega)) Try.underlying25 rfl (by rw [Hi25.out]; rfl)) hHeld ?_
                          try simp only [Act.put, List.getElem_toArray, List.getElem_cons_zero, List.getElem_cons_succ, List.setIfInBounds_toArray, List.set_cons_zero, List.set_cons_succ]
                          rw [wl_eq, wl_eq]
                          refine wpAnyH_ready (rs := [10, 14]) (by kernel_rfl) (by simp) ?_
                          refine AllReadyH.cons rfl (fun K hK => ?_) ?_
                          · go_simp
                            refine (HSB3.out _).mono ?_
                            rintro e X5 ⟨rfl, hb⟩
                            refine hK.out _ _ (below_step hHeld hb) (fun hHeld => ?_)
                            clear hb hK K
                            try simp only [Act.put, List.getElem_toArray, List.getElem_cons_zero, List.getElem_cons_succ, List.setIfInBounds_toArray, List.set_cons_zero, List.set_cons_succ]
                            refine wpAnyH_take (i := 11) (v := .tuple #[.agg (ws L3), .bool (decide (u3 > 0))]) rfl (by kernel_rfl) (by kernel_rfl) (by kernel_rfl) (fun _ _ _ h => absurd h.1 (by simp)) (.inl ⟨by rfl, fun _ _ => by go_simp⟩) hHeld ?_
                            try simp only [Act.put, List.getElem_toArray, List.getElem_cons_zero, List.getElem_cons_succ, List.setIfInBounds_toArray, List.set_cons_zero, List.set_cons_succ]
                            refine wpAnyH_take (i := 12) (v := .agg (ws L3)) rfl (by kernel_rfl) (by kernel_rfl) (by kernel_rfl) (fun _ _ _ h => absurd h.1 (by simp)) (.inl ⟨by rfl, fun _ _ => by go_simp⟩) hHeld ?_
                            try simp only [Act.put, List.getElem_toArray, List.getElem_cons_zero, List.getElem_cons_succ, List.setIfInBounds_toArray, List.set_cons_zero, List.set_cons_succ]
                            refine wpAnyH_take (i := 13) (v := .bool (decide (u3 > 0))) rfl (by kernel_rfl) (by kernel_rfl) (by kernel_rfl) (fun _ _ _ h => absurd h.1 (by simp)) (.inl ⟨by rfl, fun _ _ => by go_simp⟩) hHeld ?_
                            try simp only [Act.put, List.getElem_toArray, List.getElem_cons_zero, List.getElem_cons_succ, List.setIfInBounds_toArray, List.set_cons_zero, List.set_cons_succ]
                            refine wpAnyH_ready (rs := [14]) (by kernel_rfl) (by simp) ?_
                            refine AllReadyH.cons rfl (fun K hK => ?_) AllReadyH.nil
                            go_simp
                            have hb := below_alloc (Below.refl X5.heap.size X5) (.cells #[Value.int .u64 0, .int .u64 0, .int .u64 0, .int .u64 0] 25)
                            have H14 := Aside0.mk (And.intro (show Holds (X5.alloc (.cells #[Value.int .u64 0, .int .u64 0, .int .u64 0, .int .u64 0] 25)) X5.heap.size 25 (List.replicate 4 0) from blk_new X5 _) hHeld.size)
                            refine hK.out _ _ (below_step hHeld hb) (fun hHeld => ?_)
                            clear hb hK K
                            generalize X5.alloc _ = X6 at *
                            generalize X5.heap.size = g14 at *
                            try simp only [Act.put, List.getElem_toArray, List.getElem_cons_zero, List.getElem_cons_succ, List.setIfInBounds_toArray, List.set_cons_zero, List.set_cons_succ]
                            have hx := H14.out.1
                            have z0 := hx.cell 0 (by simp)
                            have y0 := hx.free 0
                            have z1 := hx.cell 1 (by simp)
                            have y1 := hx.free 1
                            have z2 := hx.cell 2 (by simp)
                            have y2 := hx.free 2
                            have z3 := hx.cell 3 (by simp)
                            have y3 := hx.free 3
                            clear hx
                            have hwf := ws_four L3 HSL3.out
                            refine wpAnyH_ready (rs := [15]) (by kernel_rfl) (by simp) ?_
                            refine AllReadyH.cons rfl (fun K hK => ?_) AllReadyH.nil
                            go_simp
                            have n14 := H14.out.2
                            refine hK.out _ _ (below_set (below_set (below_set (below_set hHeld n14) n14) n14) n14) (fun hHeld => ?_)
                            clear hK K z0 z1 z2 z3 y0 y1 y2 y3 hwf
                            have H14' := Aside0.mk (set_four (L := List.replicate 4 0) (H := L3) rfl HSL3.out H14.out.1)
                            try simp only [Act.put, List.getElem_toArray, List.getElem_cons_zero, List.getElem_cons_succ, List.setIfInBounds_toArray, List.set_cons_zero, List.set_cons_succ]
                            refine wpAnyH_take (i := 16) (v := .bool (decide (u3 > 0))) rfl (by kernel_rfl) (by kernel_rfl) (by kernel_rfl) (fun _ _ _ h => absurd h.1 (by simp)) (.inl ⟨by rfl, fun _ _ => by go_simp⟩) hHeld ?_
                            try simp only [Act.put, List.getElem_toArray, List.getElem_cons_zero, List.getElem_cons_succ, List.setIfInBounds_toArray, List.set_cons_zero, List.set_cons_succ]
                            refine wpAnyH_done (by kernel_rfl) ?_ _
                            refine ⟨rfl, g14, ?_, hHeld, n14, H14'.out⟩
                            rw [ws_four L3 HSL3.out]
                            try rfl
                          refine AllReadyH.cons rfl (fun K hK => ?_) AllReadyH.nil
                          go_simp
                          have hb := below_alloc (Below.refl W0.heap.size W0) (.cells #[Value.int .u64 0, .int .u64 0, .int .u64 0, .int .u64 0] 25)
                          have H14 := Aside0.mk (And.intro (show Holds (W0.alloc (.cells #[Value.int .u64 0, .int .u64 0, .int .u64 0, .int .u64 0] 25)) W0.heap.size 25 (List.replicate 4 0) from blk_new W0 _) hHeld.size)
                          refine hK.out _ _ (below_step hHeld hb) (fun hHeld => ?_)
                          clear hb hK K
                          generalize W0.alloc _ = X7 at *
                          generalize W0.heap.size = g14 at *
                          try simp only [Act.put, List.getElem_toArray, List.getElem_cons_zero, List.getElem_cons_succ, List.setIfInBounds_toArray, List.set_cons_zero, List.set_cons_succ]
                          refine wpAnyH_ready (rs := [10]) (by kernel_rfl) (by simp) ?_
                          refine AllReadyH.cons rfl (fun K hK => ?_) AllReadyH.nil
                          go_simp
                          refine (HSB3.out _).mono ?_
                          rintro e X8 ⟨rfl, hb⟩
                          replace H14 := Aside0.mk (And.intro (Holds.below H14.out.1 hb) H14.out.2)
                          refine hK.out _ _ (below_step hHeld hb) (fun hHeld => ?_)
                          clear hb hK K
                          try simp only [Act.put, List.getElem_toArray, List.getElem_cons_zero, List.getElem_cons_succ, List.setIfInBounds_toArray, List.set_cons_zero, List.set_cons_succ]
                          refine wpAnyH_take (i := 11) (v := .tuple #[.agg (ws L3), .bool (decide (u3 > 0))]) rfl (by kernel_rfl) (by kernel_rfl) (by kernel_rfl) (fun _ _ _ h => absurd h.1 (by simp)) (.inl ⟨by rfl, fun _ _ => by go_simp⟩) hHeld ?_
                          try simp only [Act.put, List.getElem_toArray, List.getElem_cons_zero, List.getElem_cons_succ, List.setIfInBounds_toArray, List.set_cons_zero, List.set_cons_succ]
                          refine wpAnyH_take (i := 12) (v := .agg (ws L3)) rfl (by kernel_rfl) (by kernel_rfl) (by kernel_rfl) (fun _ _ _ h => absurd h.1 (by simp)) (.inl ⟨by rfl, fun _ _ => by go_simp⟩) hHeld ?_
                          try simp only [Act.put, List.getElem_toArray, List.getElem_cons_zero, List.getElem_cons_succ, List.setIfInBounds_toArray, List.set_cons_zero, List.set_cons_succ]
                          refine wpAnyH_take (i := 13) (v := .bool (decide (u3 > 0))) rfl (by kernel_rfl) (by kernel_rfl) (by kernel_rfl) (fun _ _ _ h => absurd h.1 (by simp)) (.inl ⟨by rfl, fun _ _ => by go_simp⟩) hHeld ?_
                          try simp only [Act.put, List.getElem_toArray, List.getElem_cons_zero, List.getElem_cons_succ, List.setIfInBounds_toArray, List.set_cons_zero, List.set_cons_succ]
                          have hx := H14.out.1
                          have z0 := hx.cell 0 (by simp)
                          have y0 := hx.free 0
                          have z1 := hx.cell 1 (by simp)
                          have y1 := hx.free 1
                          have z2 := hx.cell 2 (by simp)
                          have y2 := hx.free 2
                          have z3 := hx.cell 3 (by simp)
                          have y3 := hx.free 3
                          clear hx
                          have hwf := ws_four L3 HSL3.out
                          refine wpAnyH_ready (rs := [15]) (by kernel_rfl) (by simp) ?_
                          refine AllReadyH.cons rfl (fun K hK => ?_) AllReadyH.nil
                          go_simp
                          have n14 := H14.out.2
                          refine hK.out _ _ (below_set (below_set (below_set (below_set hHeld n14) n14) n14) n14) (fun hHeld => ?_)
                          clear hK K z0 z1 z2 z3 y0 y1 y2 y3 hwf
                          have H14' := Aside0.mk (set_four (L := List.replicate 4 0) (H := L3) rfl HSL3.out H14.out.1)
                          try simp only [Act.put, List.getElem_toArray, List.getElem_cons_zero, List.getElem_cons_succ, List.setIfInBounds_toArray, List.set_cons_zero, List.set_cons_succ]
                          refine wpAnyH_take (i := 16) (v := .bool (decide (u3 > 0))) rfl (by kernel_rfl) (by kernel_rfl) (by kernel_rfl) (fun _ _ _ h => absurd h.1 (by simp)) (.inl ⟨by rfl, fun _ _ => by go_simp⟩) hHeld ?_
                          try simp only [Act.put, List.getElem_toArray, List.getElem_cons_zero, List.getElem_cons_succ, List.setIfInBounds_toArray, List.set_cons_zero, List.set_cons_succ]
                          refine wpAnyH_done (by kernel_rfl) ?_ _
                          refine ⟨rfl, g14, ?_, hHeld, n14, H14'.out⟩
                          rw [ws_four L3 HSL3.out]
                          try rfl
                        case hnext =>
                          rintro _ w9 ⟨gn, rfl, hb6, hgn, hh⟩
                          try simp only [Act.put, List.getElem_toArray, List.getElem_cons_zero, List.getElem_cons_succ, List.setIfInBounds_toArray, List.set_cons_zero, List.set_cons_succ]
                          have HW9 := Aside0.mk (below_step HW5.out hb6)
                          have HO9 := Aside0.mk (own_below HO5.out hb6)
                          have HX9 := Aside0.mk (show Box w9 g8 39 _ from blk_below HX5.out hb6)
                          have HH9 := Aside0.mk hh
                          clear hb6 hgn hh HMB HSB3 HW5 HO5 HX5
                          by_cases v1 : u3 > 0
                          · have k1 := decide_eq_true v1
                            have HE' := Aside0.mk (HE.out.trans (if_pos (by
                              have hu : u3 = 1 := by have := HSU3.out; omega
                              rcases H01.out with rfl | rfl
                              · exact .inl (by rw [HS3.out]; exact hu)
                              · exact .inr (by rw [HS3.out]; exact hu))))
                            go_wp2_with fail
                            exact bodyPost_ret (v := .tuple #[.slice (some ad) l.length (q + 1), .int .i64 7]) (by simp [results, Try.results10, go_sem]) rfl ⟨fun _ => ⟨by rw [HE'.out], HW9.out⟩, fun h => absurd (HE'.out.symm.trans h) (by decide)⟩
                          · have k1 := decide_eq_false v1
                            have V1 := Aside0.mk v1
                            have P := own_put4 HO9.out p hpo L3
                            obtain ⟨⟨e1a, e1b⟩, ⟨e2a, e2b⟩, ⟨e3a, e3b⟩, ⟨e4a, e4b⟩, ho⟩ := P
                            have HOn := Aside0.mk ho
                            clear ho
                            have hwf := ws_four L3 HSL3.out
                            go_wp2_with (refine load_ws rfl 25 _ rfl gn rfl 25 L3 4 _ HH9.out HSL3.out Try.underlying25 rfl Hi25.out ?_)
                            have hne : g8 ≠ g := HG8.out
                            have HBt := Aside0.mk (but_set4 w9 g (p * 8 + 1) (.int .u64 (vw (gw L3 0))) (.int .u64 (vw (gw L3 1))) (.int .u64 (vw (gw L3 2))) (.int .u64 (vw (gw L3 3))))
                            refine ⟨⟨i + 1, by omega, by go_num, ?_, But.below HW9.out HBt.out HG0.out (Nat.le_refl _), ?_, HBt.out.box HX9.out hne⟩, by simp [intOf]; omega⟩
                            · intro j hj
                              by_cases hji : j = i
                              · subst hji; rw [HS3.out]; intro hu; exact V1.out (by show u3 > 0; have : u3 = 1 := hu; omega)
                              · exact HZ.out j (by omega)
                            · rw [HGV.out.1]; exact HOn.out
                    · obtain rfl : i = 2 := by omega
                      have HE' := Aside0.mk (HE.out.trans (if_neg (fun h => h.elim (HZ.out 0 (by omega)) (HZ.out 1 (by omega)))))
                      go_wp2_with fail
                      refine bodyPost_ret (v := .tuple #[.slice (some ⟨g, 0, none⟩) n cap, .int .i64 0]) (by simp [results, Try.results10, go_sem]) rfl ⟨fun h => absurd HE'.out h, fun _ => ⟨_, rfl, ?_, HWr.out⟩⟩
                      rw [HN.out, Nat.add_sub_cancel, Int.toNat_natCast]
                      exact own_weaken HOr.out HW6.out.size
                · go_wp2_with (at_builtin; refine wpList_append_own w7 rfl _ _ 22 rfl w6.heap.size 39 j0 (.agg #[.string ByteArray.empty, .int .u64 0, .int .u64 0, .int .u64 0, .int .u64 0, .int .i64 0, .string ByteArray.empty, .string ByteArray.empty]) 8 88 Try.underlying22 HIN.out.1 HIN.out.2.1 HIN.out.2.2.1 HIN.out.2.2.2 rfl (by decide) _ q (cells39 (l.take q)) rfl HO7.out (ad.add ((q + 1) * 8)) (l.length - (q + 1)) (c - (q + 1)) (cells39 (l.drop (q + 1))) rfl (by rw [cells39_len, List.length_drop]) ?c1 (one39 _) ?c3 ?c4 ?c5 ?_)
                  case c1 => intro j u hu; exact news_drop HC7.out (q + 1) (by omega) j u hu
                  case c3 => show q + (l.length - (q + 1)) ≤ 9223372036854775807; omega
                  case c4 => omega
                  case c5 => exact HS7.out
                  intro v2 w8 hown8 hgr8 _
                  rw [cells39_app] at hown8
                  have hown9 : w8.ownsRow w6.heap.size 39 8 v2 n (cells39 (gv l m q 0)) := by
                    have e : n = q + (l.length - (q + 1)) := by have := HN.out; omega
                    rw [e]
                    exact hown8
                  clear hown8
                  have hown8 := hown9
                  clear hown9
                  have HBX := Aside0.mk (show Box w8 g8 39 (rowA (at39 l q)) from (hgr8.block g8 H87.out.lt (fun e => by have := own_base HO7.out _ e.symm; have := H8L.out; omega)).trans H87.out)
                  rcases hown8.2 with ⟨_, hz⟩ | ⟨g, cap, cur, rfl, hgo, _⟩
                  · exact absurd hz (by have := (HF.out.at 0).1; have := HN.out; omega)
                  have HW8 := Aside0.mk (HW7.out.grown hgr8 HW7.out.size (fun k e => Nat.le_trans HW6.out.size (own_base HO7.out k e)))
                  have HO8 := Aside0.mk (show w8.ownsRow w6.heap.size 39 8 (.slice (some ⟨g, 0, none⟩) n cap) n (cells39 (gv l m q 0)) from hown8)
                  have HG0 := Aside0.mk (Nat.le_trans HW6.out.size hgo)
                  have HG8 := Aside0.mk (show g8 ≠ g from fun e => by have := H8L.out; omega)
                  have H88 := Aside0.mk (show Box w8 g8 39 (rowA (at39 l q)) from HBX.out)
                  clear hown8 hgr8 hgo HBX HO7 H87
                  go_wp2_with fail
                  go_loopw [12] (fun it wr => ∃ i : Nat, i ≤ 2 ∧ it = .int .i64 (i : Nat) ∧ (∀ j, j < i → (gsum l m q j).2 ≠ 1) ∧ Below w.heap.size w wr ∧ wr.ownsRow w6.heap.size 39 8 (.slice (some ⟨g, 0, none⟩) n cap) n (cells39 (gv l m q i)) ∧ Box wr g8 39 (rowA (at39 l q))) (fun it _ => 2 - (intOf it).toNat)
                  case atStart => exact ⟨0, by omega, rfl, fun j hj => absurd hj (by omega), HW8.out, HO8.out, H88.out⟩
                  case round =>
                    obtain ⟨i, hi, rfl, hz, hbw, hor, hbx⟩ := hrel
                    have HZ := Aside0.mk hz
                    have HWr := Aside0.mk hbw
                    have HOr := Aside0.mk hor
                    have HXr := Aside0.mk hbx
                    clear hz hbw hor hbx HW8 HO8 H88
                    by_cases hlt : i < 2
                    · have y6 := HXr.out.cell 6 (.string (at39 l q).f3) rfl
                      have y7 := HXr.out.cell 7 (.string (at39 l q).f4) rfl
                      have hcn := C_of_own HOr.out (by rw [gv_len hp, HN.out]; rfl)
                      have hpl := rplain_any (gv l m q i) (some ⟨g, 0, none⟩) cap (sideT (at39 l q) i) wr (by rw [gv_len hp, HN.out]; exact hcn.1) (by rw [gv_len hp, HN.out]; exact hcn.2) (by rw [gv_len hp]; omega)
                      rw [gv_len hp, HN.out, (HF.out.at i).2] at hpl
                      have HPL := Aside0.mk hpl
                      clear hcn hpl
                      have hi0 : (i : Int) < 2 := by omega
                      have hp0 := (HF.out.at i).1
                      have HGV := Aside0.mk (show gv l m q (i + 1) = giveL (gv l m q i) (gp l m q i) (gsum l m q i).1 ∧ gsum l m q i = addk (am (at39 (gv l m q i) (gp l m q i))) (am (at39 m i)) 4 from ⟨rfl, rfl⟩)
                      have HOK := Aside0.mk (okL_gv (m := m) HL.out.1 q i)
                      have HLO := Aside0.mk (gv_len (m := m) hp i)
                      generalize gp l m q i = p at *
                      generalize gv l m q i = o at *
                      obtain ⟨S3, hS3⟩ : ∃ S3, S3 = gsum l m q i := ⟨_, rfl⟩
                      rw [← hS3] at HGV
                      have HS3 := Aside0.mk hS3.symm
                      clear hS3
                      have hpo : p < o.length := by rw [HLO.out]; exact hp0
                      have hpn : p < n := by have := HN.out; omega
                      have HSL3 := Aside0.mk (show S3.1.length = 4 by rw [HGV.out.2, addk_len]; rfl)
                      have HSU3 := Aside0.mk (show S3.2 ≤ 1 by rw [HGV.out.2]; exact addk_c _ _ _)
                      have HSB3 := Aside0.mk (fun W => radd_any (am (at39 o p)) (am (at39 m i)) rfl rfl W)
                      rw [← HGV.out.2] at HSB3
                      have him : (i : Int) < (m.length : Int) := by have := S2.out; omega
                      obtain ⟨L3, u3⟩ := S3
                      simp only at HSL3 HSU3 HSB3
                      have h01 : i = 0 ∨ i = 1 := by omega
                      have HDIS : (((i : Int) == 1) = false ∧ sideT (at39 l q) i = (at39 l q).f3) ∨ (((i : Int) == 1) = true ∧ sideT (at39 l q) i = (at39 l q).f4) := by
                        rcases h01 with rfl | rfl
                        · exact .inl ⟨rfl, rfl⟩
                        · exact .inr ⟨rfl, rfl⟩
                      have H01 := Aside0.mk h01
                      clear h01
                      rcases HDIS with ⟨b1, hside⟩ | ⟨b1, hside⟩
                      all_goals
                        rw [hside] at HPL
                        clear hside
                        go_wp2_with fail
                        refine HPL.out.mono ?_
                        rintro e w5 ⟨rfl, hb5⟩
                        have HW5 := Aside0.mk (below_step HWr.out hb5)
                        have HO5 := Aside0.mk (own_below HOr.out hb5)
                        have HX5 := Aside0.mk (show Box w5 g8 39 _ from blk_below HXr.out hb5)
                        have HMB := Aside0.mk (fun (X : World) (hX : Below w5.heap.size w5 X) => Kd.C_below HM0.out (below_step HW5.out hX))
                        clear y6 y7 b1 hb5 HWr HOr HXr HPL
                        go_wp2_with fail
                        refine wp_put (fun a0 a' w' => ∃ gn, a' = ((((((((((((((((a0.put (some 107) (.slice (some ⟨g, 0, none⟩) n cap)).put (some 108) (.int .i64 (p : Nat))).put (some 109) (.pointer (some ⟨g, p * 8, none⟩))).put (some 110) (.pointer (some ⟨g, p * 8 + 1, none⟩))).put (some 111) (.agg (ws (am (at39 o p))))).put (some 112) (.slice (some ad2) m.length c2)).put (some 113) (.int .i64 (i : Nat))).put (some 114) (.pointer (some (ad2.add (i * 8))))).put (some 115) (.pointer (some ⟨(ad2.add (i * 8)).block, (ad2.add (i * 8)).off + 1, none⟩))).put (some 116) (.agg (ws (am (at39 m i))))).put (some 117) (.tuple #[.agg (ws L3), .bool (decide (u3 > 0))])).put (some 106) (.tuple #[.agg (ws L3), .bool (decide (u3 > 0))])).put (some 118) (.agg (ws L3))).put (some 119) (.bool (decide (u3 > 0)))).put (some 15) (.pointer (some ⟨gn, 0, none⟩))).put (some 16) (.bool (decide (u3 > 0)))) ∧ Below w5.heap.size w5 w' ∧ w5.heap.size ≤ gn ∧ Holds w' gn 25 L3) ?hreg ?hnext
                        case hreg =>
                          refine wp_region_held_drew (S := fun X => Below w5.heap.size w5 X) (by kernel_rfl) (below_drew1 (Below.refl _ _)) (fun hHeld => ?_)
                          generalize w5.drew = W0 at *
                          try simp only [Act.put, List.getElem_toArray, List.getElem_cons_zero, List.getElem_cons_succ, List.setIfInBounds_toArray, List.set_cons_zero, List.set_cons_succ]
                          refine wpAnyH_take (i := 0) (v := .slice (some ⟨g, 0, none⟩) n cap) rfl (by kernel_rfl) (by kernel_rfl) (by kernel_rfl) (fun _ _ _ h => absurd h.1 (by simp)) (.inl ⟨by rfl, fun _ _ => by go_simp⟩) hHeld ?_
                          try simp only [Act.put, List.getElem_toArray, List.getElem_cons_zero, List.getElem_cons_succ, List.setIfInBounds_toArray, List.set_cons_zero, List.set_cons_succ]
                          refine wpAnyH_take (i := 1) (v := .int .i64 (p : Nat)) rfl (by kernel_rfl) (by kernel_rfl) (by kernel_rfl) (fun _ _ _ h => absurd h.1 (by simp)) (.inl ⟨by rfl, fun _ _ => by go_simp⟩) hHeld ?_
                          try simp only [Act.put, List.getElem_toArray, List.getElem_cons_zero, List.getElem_cons_succ, List.setIfInBounds_toArray, List.set_cons_zero, List.set_cons_succ]
                          refine wpAnyH_take (i := 2) (v := .pointer (some ⟨g, p * 8, none⟩)) rfl (by kernel_rfl) (by kernel_rfl) (by kernel_rfl) (fun _ _ _ h => absurd h.1 (by simp)) (.inl ⟨by rfl, fun _ _ => by go_simp⟩) hHeld ?_
                          try simp only [Act.put, List.getElem_toArray, List.getElem_cons_zero, List.getElem_cons_succ, List.setIfInBounds_toArray, List.set_cons_zero, List.set_cons_succ]
                          refine wpAnyH_take (i := 3) (v := .pointer (some ⟨g, p * 8 + 1, none⟩)) rfl (by kernel_rfl) (by kernel_rfl) (by kernel_rfl) (fun _ _ _ h => absurd h.1 (by simp)) (.inl ⟨by rfl, fun _ _ => by go_simp⟩) hHeld ?_
                          try simp only [Act.put, List.getElem_toArray, List.getElem_cons_zero, List.getElem_cons_succ, List.setIfInBounds_toArray, List.set_cons_zero, List.set_cons_succ]
                          refine wpAnyH_take (i := 4) (v := .agg (wl (am (at39 o p))).toArray) rfl (by kernel_rfl) (by kernel_rfl) (by kernel_rfl) (fun _ _ _ h => absurd h.1 (by simp)) (yieldsIf_load_mid rfl 25 _ rfl _ _ rfl (wl (am (at39 o p))) _ (fun X' hS => range_own (own_below HO5.out hS) HOK.out p hpo) Try.underlying25 rfl (by rw [Hi25.out]; rfl)) hHeld ?_
                          try simp only [Act.put, List.getElem_toArray, List.getElem_cons_zero, List.getElem_cons_succ, List.setIfInBounds_toArray, List.set_cons_zero, List.set_cons_succ]
                          refine wpAnyH_take (i := 5) (v := .slice (some ad2) m.length c2) rfl (by kernel_rfl) (by kernel_rfl) (by kernel_rfl) (fun _ _ _ h => absurd h.1 (by simp)) (.inl ⟨by rfl, fun _ _ => by go_simp⟩) hHeld ?_
                          try simp only [Act.put, List.getElem_toArray, List.getElem_cons_zero, List.getElem_cons_succ, List.setIfInBounds_toArray, List.set_cons_zero, List.set_cons_succ]
                          refine wpAnyH_take (i := 6) (v := .int .i64 (i : Nat)) rfl (by kernel_rfl) (by kernel_rfl) (by kernel_rfl) (fun _ _ _ h => absurd h.1 (by simp)) (.inl ⟨by rfl, fun _ _ => by go_simp⟩) hHeld ?_
                          try simp only [Act.put, List.getElem_toArray, List.getElem_cons_zero, List.getElem_cons_succ, List.setIfInBounds_toArray, List.set_cons_zero, List.set_cons_succ]
                          refine wpAnyH_take (i := 7) (v := .pointer (some (ad2.add (i * 8)))) rfl (by kernel_rfl) (by kernel_rfl) (by kernel_rfl) (fun _ _ _ h => absurd h.1 (by simp)) (.inl ⟨by rfl, fun _ _ => by go_simp⟩) hHeld ?_
                          try simp only [Act.put, List.getElem_toArray, List.getElem_cons_zero, List.getElem_cons_succ, List.setIfInBounds_toArray, List.set_cons_zero, List.set_cons_succ]
                          refine wpAnyH_take (i := 8) (v := .pointer (some ⟨(ad2.add (i * 8)).block, (ad2.add (i * 8)).off + 1, none⟩)) rfl (by kernel_rfl) (by kernel_rfl) (by kernel_rfl) (fun _ _ _ h => absurd h.1 (by simp)) (.inl ⟨by rfl, fun _ _ => by go_simp⟩) hHeld ?_
                          try simp only [Act.put, List.getElem_toArray, List.getElem_cons_zero, List.getElem_cons_succ, List.setIfInBounds_toArray, List.set_cons_zero, List.set_cons_succ]
                          refine wpAnyH_take (i := 9) (v := .agg (wl (am (at39 m i))).toArray) rfl (by kernel_rfl) (by kernel_rfl) (by kernel_rfl) (fun _ _ _ h => absurd h.1 (by simp)) (yieldsIf_load_mid rfl 25 _ rfl _ _ rfl (wl (am (at39 m i))) _ (fun X' hS => range_am' (HMB.out _ hS) HL.out.2.1 i (by have := S2.out; omega)) Try.underlying25 rfl (by rw [Hi25.out]; rfl)) hHeld ?_
                          try simp only [Act.put, List.getElem_toArray, List.getElem_cons_zero, List.getElem_cons_succ, List.setIfInBounds_toArray, List.set_cons_zero, List.set_cons_succ]
                          rw [wl_eq, wl_eq]
                          refine wpAnyH_ready (rs := [10, 14]) (by kernel_rfl) (by simp) ?_
                          refine AllReadyH.cons rfl (fun K hK => ?_) ?_
                          · go_simp
                            refine (HSB3.out _).mono ?_
                            rintro e X5 ⟨rfl, hb⟩
                            refine hK.out _ _ (below_step hHeld hb) (fun hHeld => ?_)
                            clear hb hK K
                            try simp only [Act.put, List.getElem_toArray, List.getElem_cons_zero, List.getElem_cons_succ, List.setIfInBounds_toArray, List.set_cons_zero, List.set_cons_succ]
                            refine wpAnyH_take (i := 11) (v := .tuple #[.agg (ws L3), .bool (decide (u3 > 0))]) rfl (by kernel_rfl) (by kernel_rfl) (by kernel_rfl) (fun _ _ _ h => absurd h.1 (by simp)) (.inl ⟨by rfl, fun _ _ => by go_simp⟩) hHeld ?_
                            try simp only [Act.put, List.getElem_toArray, List.getElem_cons_zero, List.getElem_cons_succ, List.setIfInBounds_toArray, List.set_cons_zero, List.set_cons_succ]
                            refine wpAnyH_take (i := 12) (v := .agg (ws L3)) rfl (by kernel_rfl) (by kernel_rfl) (by kernel_rfl) (fun _ _ _ h => absurd h.1 (by simp)) (.inl ⟨by rfl, fun _ _ => by go_simp⟩) hHeld ?_
                            try simp only [Act.put, List.getElem_toArray, List.getElem_cons_zero, List.getElem_cons_succ, List.setIfInBounds_toArray, List.set_cons_zero, List.set_cons_succ]
                            refine wpAnyH_take (i := 13) (v := .bool (decide (u3 > 0))) rfl (by kernel_rfl) (by kernel_rfl) (by kernel_rfl) (fun _ _ _ h => absurd h.1 (by simp)) (.inl ⟨by rfl, fun _ _ => by go_simp⟩) hHeld ?_
                            try simp only [Act.put, List.getElem_toArray, List.getElem_cons_zero, List.getElem_cons_succ, List.setIfInBounds_toArray, List.set_cons_zero, List.set_cons_succ]
                            refine wpAnyH_ready (rs := [14]) (by kernel_rfl) (by simp) ?_
                            refine AllReadyH.cons rfl (fun K hK => ?_) AllReadyH.nil
                            go_simp
                            have hb := below_alloc (Below.refl X5.heap.size X5) (.cells #[Value.int .u64 0, .int .u64 0, .int .u64 0, .int .u64 0] 25)
                            have H14 := Aside0.mk (And.intro (show Holds (X5.alloc (.cells #[Value.int .u64 0, .int .u64 0, .int .u64 0, .int .u64 0] 25)) X5.heap.size 25 (List.replicate 4 0) from blk_new X5 _) hHeld.size)
                            refine hK.out _ _ (below_step hHeld hb) (fun hHeld => ?_)
                            clear hb hK K
                            generalize X5.alloc _ = X6 at *
                            generalize X5.heap.size = g14 at *
                            try simp only [Act.put, List.getElem_toArray, List.getElem_cons_zero, List.getElem_cons_succ, List.setIfInBounds_toArray, List.set_cons_zero, List.set_cons_succ]
                            have hx := H14.out.1
                            have z0 := hx.cell 0 (by simp)
                            have y0 := hx.free 0
                            have z1 := hx.cell 1 (by simp)
                            have y1 := hx.free 1
                            have z2 := hx.cell 2 (by simp)
                            have y2 := hx.free 2
                            have z3 := hx.cell 3 (by simp)
                            have y3 := hx.free 3
                            clear hx
                            have hwf := ws_four L3 HSL3.out
                            refine wpAnyH_ready (rs := [15]) (by kernel_rfl) (by simp) ?_
                            refine AllReadyH.cons rfl (fun K hK => ?_) AllReadyH.nil
                            go_simp
                            have n14 := H14.out.2
                            refine hK.out _ _ (below_set (below_set (below_set (below_set hHeld n14) n14) n14) n14) (fun hHeld => ?_)
                            clear hK K z0 z1 z2 z3 y0 y1 y2 y3 hwf
                            have H14' := Aside0.mk (set_four (L := List.replicate 4 0) (H := L3) rfl HSL3.out H14.out.1)
                            try simp only [Act.put, List.getElem_toArray, List.getElem_cons_zero, List.getElem_cons_succ, List.setIfInBounds_toArray, List.set_cons_zero, List.set_cons_succ]
                            refine wpAnyH_take (i := 16) (v := .bool (decide (u3 > 0))) rfl (by kernel_rfl) (by kernel_rfl) (by kernel_rfl) (fun _ _ _ h => absurd h.1 (by simp)) (.inl ⟨by rfl, fun _ _ => by go_simp⟩) hHeld ?_
                            try simp only [Act.put, List.getElem_toArray, List.getElem_cons_zero, List.getElem_cons_succ, List.setIfInBounds_toArray, List.set_cons_zero, List.set_cons_succ]
                            refine wpAnyH_done (by kernel_rfl) ?_ _
                            refine ⟨rfl, g14, ?_, hHeld, n14, H14'.out⟩
                            rw [ws_four L3 HSL3.out]
                            try rfl
                          refine AllReadyH.cons rfl (fun K hK => ?_) AllReadyH.nil
                          go_simp
                          have hb := below_alloc (Below.refl W0.heap.size W0) (.cells #[Value.int .u64 0, .int .u64 0, .int .u64 0, .int .u64 0] 25)
                          have H14 := Aside0.mk (And.intro (show Holds (W0.alloc (.cells #[Value.int .u64 0, .int .u64 0, .int .u64 0, .int .u64 0] 25)) W0.heap.size 25 (List.replicate 4 0) from blk_new W0 _) hHeld.size)
                          refine hK.out _ _ (below_step hHeld hb) (fun hHeld => ?_)
                          clear hb hK K
                          generalize W0.alloc _ = X7 at *
                          generalize W0.heap.size = g14 at *
                          try simp only [Act.put, List.getElem_toArray, List.getElem_cons_zero, List.getElem_cons_succ, List.setIfInBounds_toArray, List.set_cons_zero, List.set_cons_succ]
                          refine wpAnyH_ready (rs := [10]) (by kernel_rfl) (by simp) ?_
                          refine AllReadyH.cons rfl (fun K hK => ?_) AllReadyH.nil
                          go_simp
                          refine (HSB3.out _).mono ?_
                          rintro e X8 ⟨rfl, hb⟩
                          replace H14 := Aside0.mk (And.intro (Holds.below H14.out.1 hb) H14.out.2)
                          refine hK.out _ _ (below_step hHeld hb) (fun hHeld => ?_)
                          clear hb hK K
                          try simp only [Act.put, List.getElem_toArray, List.getElem_cons_zero, List.getElem_cons_succ, List.setIfInBounds_toArray, List.set_cons_zero, List.set_cons_succ]
                          refine wpAnyH_take (i := 11) (v := .tuple #[.agg (ws L3), .bool (decide (u3 > 0))]) rfl (by kernel_rfl) (by kernel_rfl) (by kernel_rfl) (fun _ _ _ h => absurd h.1 (by simp)) (.inl ⟨by rfl, fun _ _ => by go_simp⟩) hHeld ?_
                          try simp only [Act.put, List.getElem_toArray, List.getElem_cons_zero, List.getElem_cons_succ, List.setIfInBounds_toArray, List.set_cons_zero, List.set_cons_succ]
                          refine wpAnyH_take (i := 12) (v := .agg (ws L3)) rfl (by kernel_rfl) (by kernel_rfl) (by kernel_rfl) (fun _ _ _ h => absurd h.1 (by simp)) (.inl ⟨by rfl, fun _ _ => by go_simp⟩) hHeld ?_
                          try simp only [Act.put, List.getElem_toArray, List.getElem_cons_zero, List.getElem_cons_succ, List.setIfInBounds_toArray, List.set_cons_zero, List.set_cons_succ]
                          refine wpAnyH_take (i := 13) (v := .bool (decide (u3 > 0))) rfl (by kernel_rfl) (by kernel_rfl) (by kernel_rfl) (fun _ _ _ h => absurd h.1 (by simp)) (.inl ⟨by rfl, fun _ _ => by go_simp⟩) hHeld ?_
                          try simp only [Act.put, List.getElem_toArray, List.getElem_cons_zero, List.getElem_cons_succ, List.setIfInBounds_toArray, List.set_cons_zero, List.set_cons_succ]
                          have hx := H14.out.1
                          have z0 := hx.cell 0 (by simp)
                          have y0 := hx.free 0
                          have z1 := hx.cell 1 (by simp)
                          have y1 := hx.free 1
                          have z2 := hx.cell 2 (by simp)
                          have y2 := hx.free 2
                          have z3 := hx.cell 3 (by simp)
                          have y3 := hx.free 3
                          clear hx
                          have hwf := ws_four L3 HSL3.out
                          refine wpAnyH_ready (rs := [15]) (by kernel_rfl) (by simp) ?_
                          refine AllReadyH.cons rfl (fun K hK => ?_) AllReadyH.nil
                          go_simp
                          have n14 := H14.out.2
                          refine hK.out _ _ (below_set (below_set (below_set (below_set hHeld n14) n14) n14) n14) (fun hHeld => ?_)
                          clear hK K z0 z1 z2 z3 y0 y1 y2 y3 hwf
                          have H14' := Aside0.mk (set_four (L := List.replicate 4 0) (H := L3) rfl HSL3.out H14.out.1)
                          try simp only [Act.put, List.getElem_toArray, List.getElem_cons_zero, List.getElem_cons_succ, List.setIfInBounds_toArray, List.set_cons_zero, List.set_cons_succ]
                          refine wpAnyH_take (i := 16) (v := .bool (decide (u3 > 0))) rfl (by kernel_rfl) (by kernel_rfl) (by kernel_rfl) (fun _ _ _ h => absurd h.1 (by simp)) (.inl ⟨by rfl, fun _ _ => by go_simp⟩) hHeld ?_
                          try simp only [Act.put, List.getElem_toArray, List.getElem_cons_zero, List.getElem_cons_succ, List.setIfInBounds_toArray, List.set_cons_zero, List.set_cons_succ]
                          refine wpAnyH_done (by kernel_rfl) ?_ _
                          refine ⟨rfl, g14, ?_, hHeld, n14, H14'.out⟩
                          rw [ws_four L3 HSL3.out]
                          try rfl
                        case hnext =>
                          rintro _ w9 ⟨gn, rfl, hb6, hgn, hh⟩
                          try simp only [Act.put, List.getElem_toArray, List.getElem_cons_zero, List.getElem_cons_succ, List.setIfInBounds_toArray, List.set_cons_zero, List.set_cons_succ]
                          have HW9 := Aside0.mk (below_step HW5.out hb6)
                          have HO9 := Aside0.mk (own_below HO5.out hb6)
                          have HX9 := Aside0.mk (show Box w9 g8 39 _ from blk_below HX5.out hb6)
                          have HH9 := Aside0.mk hh
                          clear hb6 hgn hh HMB HSB3 HW5 HO5 HX5
                          by_cases v1 : u3 > 0
                          · have k1 := decide_eq_true v1
                            have HE' := Aside0.mk (HE.out.trans (if_pos (by
                              have hu : u3 = 1 := by have := HSU3.out; omega
                              rcases H01.out with rfl | rfl
                              · exact .inl (by rw [HS3.out]; exact hu)
                              · exact .inr (by rw [HS3.out]; exact hu))))
                            go_wp2_with fail
                            exact bodyPost_ret (v := .tuple #[.slice (some ad) l.length c, .int .i64 7]) (by simp [results, Try.results10, go_sem]) rfl ⟨fun _ => ⟨by rw [HE'.out], HW9.out⟩, fun h => absurd (HE'.out.symm.trans h) (by decide)⟩
                          · have k1 := decide_eq_false v1
                            have V1 := Aside0.mk v1
                            have P := own_put4 HO9.out p hpo L3
                            obtain ⟨⟨e1a, e1b⟩, ⟨e2a, e2b⟩, ⟨e3a, e3b⟩, ⟨e4a, e4b⟩, ho⟩ := P
                            have HOn := Aside0.mk ho
                            clear ho
                            have hwf := ws_four L3 HSL3.out
                            go_wp2_with (refine load_ws rfl 25 _ rfl gn rfl 25 L3 4 _ HH9.out HSL3.out Try.underlying25 rfl Hi25.out ?_)
                            have hne : g8 ≠ g := HG8.out
                            have HBt := Aside0.mk (but_set4 w9 g (p * 8 + 1) (.int .u64 (vw (gw L3 0))) (.int .u64 (vw (gw L3 1))) (.int .u64 (vw (gw L3 2))) (.int .u64 (vw (gw L3 3))))
                            refine ⟨⟨i + 1, by omega, by go_num, ?_, But.below HW9.out HBt.out HG0.out (Nat.le_refl _), ?_, HBt.out.box HX9.out hne⟩, by simp [intOf]; omega⟩
                            · intro j hj
                              by_cases hji : j = i
                              · subst hji; rw [HS3.out]; intro hu; exact V1.out (by show u3 > 0; have : u3 = 1 := hu; omega)
                              · exact HZ.out j (by omega)
                            · rw [HGV.out.1]; exact HOn.out
                    · obtain rfl : i = 2 := by omega
                      have HE' := Aside0.mk (HE.out.trans (if_neg (fun h => h.elim (HZ.out 0 (by omega)) (HZ.out 1 (by omega)))))
                      go_wp2_with fail
                      refine bodyPost_ret (v := .tuple #[.slice (some ⟨g, 0, none⟩) n cap, .int .i64 0]) (by simp [results, Try.results10, go_sem]) rfl ⟨fun h => absurd HE'.out h, fun _ => ⟨_, rfl, ?_, HWr.out⟩⟩
                      rw [HN.out, Nat.add_sub_cancel, Int.toNat_natCast]
                      exact own_weaken HOr.out HW6.out.size
              · have z0 := H9.out.cell 0 (by rw [HSL3.out]; omega)
                have z1 := H9.out.cell 1 (by rw [HSL3.out]; omega)
                have z2 := H9.out.cell 2 (by rw [HSL3.out]; omega)
                have z3 := H9.out.cell 3 (by rw [HSL3.out]; omega)
                have HE := Aside0.mk (HRE.out 16 (HEB.out.trans (if_pos (.inr v2))) (by decide))
                clear HEB
                have V2 := Aside0.mk v2
                clear v2
                go_wp2_with fail
                all_goals first | exact bodyPost_ret (v := .tuple #[.slice (some ad) l.length c, .int .i64 16]) (by simp [results, Try.results10, go_sem]) rfl ⟨fun _ => ⟨by rw [HE.out], HW4.out⟩, fun h => absurd (HE.out.symm.trans h) (by decide)⟩ | exact absurd (words_eq HSL3.out (by assumption)) V2.out
          · have q1 : ((at39 m 1).f2 != 0) = true := by simp [r1]
            have HE := Aside0.mk (HRE.out 2 (HE1.out.trans (if_pos (.inr (.inr (HRO.out.2 (.inr r1)))))) (by decide))
            go_enter Try.func10, Try.ntmps10
            go_wp2_with fail
            refine (rthere_any (some ad) c l p _ HC0.out HL.out.2.2.1).mono ?_
            rintro e w1 ⟨rfl, ⟨nd, hw1⟩⟩
            rw [d1]
            have HW1 := Aside0.mk (show Below w.heap.size w w1 by rw [hw1]; exact pw_below_drewN (Below.refl _ _) _)
            clear hw1
            have HC1 := Aside0.mk (Kd.C_below HC0.out HW1.out)
            obtain ⟨ad1, ea, x0, x1, x2, x3, x4, x5, x6, x7⟩ := at_T39 HC1.out (p : Int) (by omega) (by omega)
            obtain rfl := Option.some.inj ea
            simp only [Int.toNat_natCast] at x0 x1 x2 x3 x4 x5 x6 x7
            have hr : rd_T39 l (p : Int) = at' l p := rfl
            rw [hr] at x0 x1 x2 x3 x4 x5 x6 x7
            have hi : (p : Int) < (l.length : Int) := by omega
            clear hr ea
            rw [← hX.out] at x0 x1 x2 x3 x4 x5 x6 x7
            have HW2 := Aside0.mk (below_alloc HW1.out (.cells (rowA x) 39))
            have hrow : rowA x = #[.string x.f0, .int .u64 x.f1.f0, .int .u64 x.f1.f1, .int .u64 x.f1.f2, .int .u64 x.f1.f3, .int .i64 x.f2, .string x.f3, .string x.f4] := rfl
            rw [hrow] at HW2
            clear hrow
            have HCM := Aside0.mk (Kd.C_below HM0.out HW2.out)
            obtain ⟨adm, eb, _, _, _, _, _, m5, _, _⟩ := at_T39 HCM.out ((0 : Nat) : Int) (by omega) (by have := S2.out; omega)
            obtain rfl := Option.some.inj eb
            obtain ⟨adm2, eb2, _, _, _, _, _, m5b, _, _⟩ := at_T39 HCM.out ((1 : Nat) : Int) (by omega) (by have := S2.out; omega)
            obtain rfl := Option.some.inj eb2
            simp only [Int.toNat_natCast] at m5 m5b
            have hr0 : rd_T39 m ((0 : Nat) : Int) = at39 m 0 := rfl
            have hr1 : rd_T39 m ((1 : Nat) : Int) = at39 m 1 := rfl
            rw [hr0] at m5
            rw [hr1] at m5b
            clear hr0 hr1 eb eb2 HCM
            simp only [Nat.zero_mul, Nat.one_mul, Addr.add_zero'] at m5 m5b
            have z8 : ad2.add 8 = ⟨ad2.block, ad2.off + 8, none⟩ := by simp [Addr.add]
            rw [z8] at m5b
            clear z8
            go_wp2_with fail
            exact bodyPost_ret (v := .tuple #[.slice (some ad) l.length c, .int .i64 2]) (by simp [results, Try.results10, go_sem]) rfl ⟨fun _ => ⟨by rw [HE.out], HW2.out⟩, fun h => absurd (HE.out.symm.trans h) (by decide)⟩
        · have q0 : ((at39 m 0).f2 != 0) = true := by simp [r0]
          have HE := Aside0.mk (HRE.out 2 (HE1.out.trans (if_pos (.inr (.inr (HRO.out.2 (.inl r0)))))) (by decide))
          go_enter Try.func10, Try.ntmps10
          go_wp2_with fail
          refine (rthere_any (some ad) c l p _ HC0.out HL.out.2.2.1).mono ?_
          rintro e w1 ⟨rfl, ⟨nd, hw1⟩⟩
          rw [d1]
          have HW1 := Aside0.mk (show Below w.heap.size w w1 by rw [hw1]; exact pw_below_drewN (Below.refl _ _) _)
          clear hw1
          have HC1 := Aside0.mk (Kd.C_below HC0.out HW1.out)
          obtain ⟨ad1, ea, x0, x1, x2, x3, x4, x5, x6, x7⟩ := at_T39 HC1.out (p : Int) (by omega) (by omega)
          obtain rfl := Option.some.inj ea
          simp only [Int.toNat_natCast] at x0 x1 x2 x3 x4 x5 x6 x7
          have hr : rd_T39 l (p : Int) = at' l p := rfl
          rw [hr] at x0 x1 x2 x3 x4 x5 x6 x7
          have hi : (p : Int) < (l.length : Int) := by omega
          clear hr ea
          rw [← hX.out] at x0 x1 x2 x3 x4 x5 x6 x7
          have HW2 := Aside0.mk (below_alloc HW1.out (.cells (rowA x) 39))
          have hrow : rowA x = #[.string x.f0, .int .u64 x.f1.f0, .int .u64 x.f1.f1, .int .u64 x.f1.f2, .int .u64 x.f1.f3, .int .i64 x.f2, .string x.f3, .string x.f4] := rfl
          rw [hrow] at HW2
          clear hrow
          have HCM := Aside0.mk (Kd.C_below HM0.out HW2.out)
          obtain ⟨adm, eb, _, _, _, _, _, m5, _, _⟩ := at_T39 HCM.out ((0 : Nat) : Int) (by omega) (by have := S2.out; omega)
          obtain rfl := Option.some.inj eb
          obtain ⟨adm2, eb2, _, _, _, _, _, m5b, _, _⟩ := at_T39 HCM.out ((1 : Nat) : Int) (by omega) (by have := S2.out; omega)
          obtain rfl := Option.some.inj eb2
          simp only [Int.toNat_natCast] at m5 m5b
          have hr0 : rd_T39 m ((0 : Nat) : Int) = at39 m 0 := rfl
          have hr1 : rd_T39 m ((1 : Nat) : Int) = at39 m 1 := rfl
          rw [hr0] at m5
          rw [hr1] at m5b
          clear hr0 hr1 eb eb2 HCM
          simp only [Nat.zero_mul, Nat.one_mul, Addr.add_zero'] at m5 m5b
          have z8 : ad2.add 8 = ⟨ad2.block, ad2.off + 8, none⟩ := by simp [Addr.add]
          rw [z8] at m5b
          clear z8
          go_wp2_with fail
          exact bodyPost_ret (v := .tuple #[.slice (some ad) l.length c, .int .i64 2]) (by simp [results, Try.results10, go_sem]) rfl ⟨fun _ => ⟨by rw [HE.out], HW2.out⟩, fun h => absurd (HE.out.symm.trans h) (by decide)⟩
      · have k2 : ((m.length : Int) != 2) = true := by simp; omega
        have HE := Aside0.mk (HRE.out 2 (HE1.out.trans (if_pos (.inr (.inl s2)))) (by decide))
        go_enter Try.func10, Try.ntmps10
        go_wp2_with fail
        refine (rthere_any (some ad) c l p _ HC0.out HL.out.2.2.1).mono ?_
        rintro e w1 ⟨rfl, ⟨nd, hw1⟩⟩
        rw [d1]
        have HW1 := Aside0.mk (show Below w.heap.size w w1 by rw [hw1]; exact pw_below_drewN (Below.refl _ _) _)
        clear hw1
        have HC1 := Aside0.mk (Kd.C_below HC0.out HW1.out)
        obtain ⟨ad1, ea, x0, x1, x2, x3, x4, x5, x6, x7⟩ := at_T39 HC1.out (p : Int) (by omega) (by omega)
        obtain rfl := Option.some.inj ea
        simp only [Int.toNat_natCast] at x0 x1 x2 x3 x4 x5 x6 x7
        have hr : rd_T39 l (p : Int) = at' l p := rfl
        rw [hr] at x0 x1 x2 x3 x4 x5 x6 x7
        have hi : (p : Int) < (l.length : Int) := by omega
        clear hr ea
        rw [← hX.out] at x0 x1 x2 x3 x4 x5 x6 x7
        have HW2 := Aside0.mk (below_alloc HW1.out (.cells (rowA x) 39))
        have hrow : rowA x = #[.string x.f0, .int .u64 x.f1.f0, .int .u64 x.f1.f1, .int .u64 x.f1.f2, .int .u64 x.f1.f3, .int .i64 x.f2, .string x.f3, .string x.f4] := rfl
        rw [hrow] at HW2
        clear hrow
        go_wp2_with fail
        exact bodyPost_ret (v := .tuple #[.slice (some ad) l.length c, .int .i64 2]) (by simp [results, Try.results10, go_sem]) rfl ⟨fun _ => ⟨by rw [HE.out], HW2.out⟩, fun h => absurd (HE.out.symm.trans h) (by decide)⟩
    · have k1 : (x.f2 != 1) = true := by simp [s1]
      have HE := Aside0.mk (HRE.out 2 (HE1.out.trans (if_pos (.inl s1))) (by decide))
      go_enter Try.func10, Try.ntmps10
      go_wp2_with fail
      refine (rthere_any (some ad) c l p _ HC0.out HL.out.2.2.1).mono ?_
      rintro e w1 ⟨rfl, ⟨nd, hw1⟩⟩
      rw [d1]
      have HW1 := Aside0.mk (show Below w.heap.size w w1 by rw [hw1]; exact pw_below_drewN (Below.refl _ _) _)
      clear hw1
      have HC1 := Aside0.mk (Kd.C_below HC0.out HW1.out)
      obtain ⟨ad1, ea, x0, x1, x2, x3, x4, x5, x6, x7⟩ := at_T39 HC1.out (p : Int) (by omega) (by omega)
      obtain rfl := Option.some.inj ea
      simp only [Int.toNat_natCast] at x0 x1 x2 x3 x4 x5 x6 x7
      have hr : rd_T39 l (p : Int) = at' l p := rfl
      rw [hr] at x0 x1 x2 x3 x4 x5 x6 x7
      have hi : (p : Int) < (l.length : Int) := by omega
      clear hr ea
      rw [← hX.out] at x0 x1 x2 x3 x4 x5 x6 x7
      have HW2 := Aside0.mk (below_alloc HW1.out (.cells (rowA x) 39))
      have hrow : rowA x = #[.string x.f0, .int .u64 x.f1.f0, .int .u64 x.f1.f1, .int .u64 x.f1.f2, .int .u64 x.f1.f3, .int .i64 x.f2, .string x.f3, .string x.f4] := rfl
      rw [hrow] at HW2
      clear hrow
      go_wp2_with fail
      exact bodyPost_ret (v := .tuple #[.slice (some ad) l.length c, .int .i64 2]) (by simp [results, Try.results10, go_sem]) rfl ⟨fun _ => ⟨by rw [HE.out], HW2.out⟩, fun h => absurd (HE.out.symm.trans h) (by decide)⟩
  · have d1 := decide_eq_false t1
    have HE := Aside0.mk ((fun h3 : boundE l k m = 3 => show recE l k m = 3 by rw [recE, if_pos (by rw [h3]; decide), h3]) (by rw [boundE, if_pos t1]))
    go_enter Try.func10, Try.ntmps10
    go_wp2_with fail
    refine (rthere_any A c l k _ HC0.out HL.out.2.2.1).mono ?_
    rintro e w1 ⟨rfl, ⟨nd, hw1⟩⟩
    rw [d1]
    have HW1 := Aside0.mk (show Below w.heap.size w w1 by rw [hw1]; exact pw_below_drewN (Below.refl _ _) _)
    clear hw1
    go_wp2_with fail
    exact bodyPost_ret (v := .tuple #[.slice A l.length c, .int .i64 3]) (by simp [results, Try.results10, go_sem]) rfl ⟨fun _ => ⟨by rw [HE.out], HW1.out⟩, fun h => absurd (HE.out.symm.trans h) (by decide)⟩
end Go.Proofs.Ytlkecihibmndbaa.P
