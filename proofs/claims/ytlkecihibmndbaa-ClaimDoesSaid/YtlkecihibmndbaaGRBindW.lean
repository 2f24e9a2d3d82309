import Derived.Test.YtlkecihibmndbaaGRRef
namespace Go.Proofs.Ytlkecihibmndbaa.P
set_option linter.unusedVariables false
set_option linter.unusedSimpArgs false
open Go.RowKit Go.Shelf Go.Proofs.YtlkecihibmndbaaW.PrintWords
attribute [local go_sem] Oper.semAt_some
/-! The document's Bind. -/
theorem below_w {w A B : World} (h : Below w.heap.size w A) (hb : Below A.heap.size A B) : Below w.heap.size w B := below_step h hb
set_option maxRecDepth 100000 in
set_option maxHeartbeats 8000000 in
theorem rbind_any (ch : ByteArray) (i j : Int) (a b : List W64) (ha : a.length = 4) (hb : b.length = 4) (l : List S39) (hl : okL l) (A : Option Addr) (c : Nat) (w : World) (hC : Kd.C k39 w A l.length l) (hlen : l.length ≤ c) (hl1 : l.length ≤ 1000) :
    Calls Try.prog 12 #[.slice A l.length c, .string ch, .int .i64 i, .int .i64 j, .agg (ws a), .agg (ws b)] w fun e w' =>
      (bindE l ch i j a b ≠ 0 → e = .returned (.tuple #[.slice A l.length c, .int .i64 (bindE l ch i j a b)]) ∧ Below w.heap.size w w') ∧
      (bindE l ch i j a b = 0 → ∃ v, e = .returned (.tuple #[v, .int .i64 0]) ∧ w'.ownsRow w.heap.size 39 8 v (l.length + 1) (cells39 (bindL l ch i j a b)) ∧ Below w.heap.size w w') := by
  have HL := Aside0.mk (And.intro ha (And.intro hb (And.intro hl (And.intro hlen hl1))))
  have T := two w (.cells (ws a) 25) (.cells (ws b) 25)
  have HT := Aside0.mk T
  have Hi25 := Aside0.mk (show (Try.prog.info? 25).map (·.size) = some 4 by kernel_rfl)
  have HC := Aside0.mk (Kd.C_below hC T.2.2)
  have HC0 := Aside0.mk hC
  clear ha hb hl T hC
  by_cases t1 : isThere l.length i
  · have d1 := decide_eq_true t1
    by_cases t2 : isThere l.length j
    · have d2 := decide_eq_true t2
      by_cases t3 : i = j
      · have d3 : (i == j) = true := beq_iff_eq.2 t3
        have HE := Aside0.mk (show bindE l ch i j a b = 3 by rw [bindE, if_pos (.inr (.inr t3))])
        clear t1 t2 t3
        go_enter Try.func12, Try.ntmps12
        go_wp2_with fail
        refine (rthere_any A c l i _ HC.out HL.out.2.2.2.1).mono ?_
        rintro e w1 ⟨rfl, ⟨nd, hw1⟩⟩
        rw [d1]
        have HC1 := Aside0.mk (show Kd.C k39 w1 A l.length l by rw [hw1]; exact Kd.C_drewN HC.out _)
        have HW1 := Aside0.mk (show Below w.heap.size w w1 by rw [hw1]; exact pw_below_drewN HT.out.2.2 _)
        have HG1 := Aside0.mk (show Holds w1 w.heap.size 25 a ∧ Holds w1 (w.heap.size + 1) 25 b by rw [hw1]; exact ⟨HT.out.1, HT.out.2.1⟩)
        clear hw1
        go_wp2_with fail
        refine (rthere_any A c l j _ HC1.out HL.out.2.2.2.1).mono ?_
        rintro e w2 ⟨rfl, ⟨nd2, hw2⟩⟩
        rw [d2]
        have HC2 := Aside0.mk (show Kd.C k39 w2 A l.length l by rw [hw2]; exact Kd.C_drewN HC1.out _)
        have HW2 := Aside0.mk (show Below w.heap.size w w2 by rw [hw2]; exact pw_below_drewN HW1.out _)
        have HG2 := Aside0.mk (show Holds w2 w.heap.size 25 a ∧ Holds w2 (w.heap.size + 1) 25 b by rw [hw2]; exact HG1.out)
        clear hw2 HC1 HW1 HG1
        go_wp2_with fail
        exact bodyPost_ret (v := .tuple #[.slice A l.length c, .int .i64 3]) (by simp [results, Try.results12, go_sem]) rfl ⟨fun _ => ⟨by rw [HE.out], HW2.out⟩, fun h => absurd (HE.out.symm.trans h) (by decide)⟩
      · have d3 : (i == j) = false := beq_eq_false_iff_ne.2 t3
        have hne : ¬ (¬ isThere l.length i ∨ ¬ isThere l.length j ∨ i = j) := fun h => h.elim (fun h => h t1) (fun h => h.elim (fun h => h t2) t3)
        obtain ⟨p, rfl⟩ : ∃ p : Nat, i = p := ⟨i.toNat, by have := t1.1; omega⟩
        obtain ⟨q, rfl⟩ : ∃ q : Nat, j = q := ⟨j.toNat, by have := t2.1; omega⟩
        have hp : p < l.length := by have := t1.2; omega
        have hq : q < l.length := by have := t2.2; omega
        obtain ⟨ad, hA, _⟩ := HC0.out.2.2 (by omega)
        subst hA
        by_cases s1 : ch.size = 32
        · have s1i : (ch.size : Int) = 32 := by omega
          by_cases s2 : (at' l p).f2 = 0
          · by_cases s3 : (at' l q).f2 = 0
            · have hz := And.intro s2 s3
              have HE0 := Aside0.mk (show bindE l ch p q a b = if (subk (am (at' l p)) a 4).2 = 1 ∨ (subk (am (at' l q)) b 4).2 = 1 then 16 else if (addk a b 4).2 = 1 then 7 else if 8 ≤ l.length then 8 else 0 by rw [bindE, if_neg hne, if_neg (fun h => h.elim (fun h => h s1) (fun h => h.elim (fun h => h s2) (fun h => h s3)))])
              have HPQ := Aside0.mk (show p ≠ q from fun e => t3 (by rw [e]))
              clear t1 t2 t3 hne hz
              go_enter Try.func12, Try.ntmps12
              go_wp2_with fail
              refine (rthere_any (some ad) c l p _ HC.out HL.out.2.2.2.1).mono ?_
              rintro e w1 ⟨rfl, ⟨nd, hw1⟩⟩
              rw [d1]
              have HC1 := Aside0.mk (show Kd.C k39 w1 (some ad) l.length l by rw [hw1]; exact Kd.C_drewN HC.out _)
              have HW1 := Aside0.mk (show Below w.heap.size w w1 by rw [hw1]; exact pw_below_drewN HT.out.2.2 _)
              have HG1 := Aside0.mk (show Holds w1 w.heap.size 25 a ∧ Holds w1 (w.heap.size + 1) 25 b by rw [hw1]; exact ⟨HT.out.1, HT.out.2.1⟩)
              clear hw1
              go_wp2_with fail
              refine (rthere_any (some ad) c l q _ HC1.out HL.out.2.2.2.1).mono ?_
              rintro e w2 ⟨rfl, ⟨nd2, hw2⟩⟩
              rw [d2]
              have HC2 := Aside0.mk (show Kd.C k39 w2 (some ad) l.length l by rw [hw2]; exact Kd.C_drewN HC1.out _)
              have HW2 := Aside0.mk (show Below w.heap.size w w2 by rw [hw2]; exact pw_below_drewN HW1.out _)
              have HG2 := Aside0.mk (show Holds w2 w.heap.size 25 a ∧ Holds w2 (w.heap.size + 1) 25 b by rw [hw2]; exact HG1.out)
              clear hw2 HC1 HW1 HG1
              obtain ⟨ad1, ea1, e0, e1, e2, e3, e4, e5, e6, e7⟩ := at_T39 HC2.out (p : Int) (by omega) (by omega)
              obtain ⟨ad2, ea2, f0, f1, f2, f3, f4, f5, f6, f7⟩ := at_T39 HC2.out (q : Int) (by omega) (by omega)
              obtain rfl := Option.some.inj ea1
              obtain rfl := Option.some.inj ea2
              clear ea1 ea2 e0 e1 e2 e3 e4 e6 e7 f0 f1 f2 f3 f4 f6 f7
              simp only [Int.toNat_natCast] at e5 f5
              change _ = some (Value.int .i64 (at' l p).f2) at e5
              change _ = some (Value.int .i64 (at' l q).f2) at f5
              generalize (at' l p).f2 = kp at *
              generalize (at' l q).f2 = kq at *
              have i1 : decide ((p : Int) < l.length) = true := decide_eq_true (by omega)
              have i2 : decide ((q : Int) < l.length) = true := decide_eq_true (by omega)
              subst s2 s3
              go_wp2_with fail
              have HB := Aside0.mk (fun (X : World) (hX : Below w2.heap.size w2 X) => Kd.C_below HC2.out hX)
              have HSL1 := Aside0.mk (show (subk (am (at' l p)) a 4).1.length = 4 by rw [subk_len]; exact rfl)
              have HSU1 := Aside0.mk (subk_c (am (at' l p)) a 4)
              have HSB1 := Aside0.mk (fun W => rsub_any (am (at' l p)) a rfl HL.out.1 W)
              have HSL2 := Aside0.mk (show (subk (am (at' l q)) b 4).1.length = 4 by rw [subk_len]; exact rfl)
              have HSU2 := Aside0.mk (subk_c (am (at' l q)) b 4)
              have HSB2 := Aside0.mk (fun W => rsub_any (am (at' l q)) b rfl HL.out.2.1 W)
              have HSL3 := Aside0.mk (show (addk a b 4).1.length = 4 by rw [addk_len]; exact HL.out.1)
              have HSU3 := Aside0.mk (addk_c a b 4)
              have HSB3 := Aside0.mk (fun W => radd_any a b HL.out.1 HL.out.2.1 W)
              have HEQ := Aside0.mk (show newA l ch p q a b = ⟨ch, sw (addk a b 4).1, 1, (at' l p).f0, (at' l q).f0⟩ ∧ bindL l ch p q a b = ((l.set p (putA (at' l p) (subk (am (at' l p)) a 4).1)).set q (putA (at' l q) (subk (am (at' l q)) b 4).1)) ++ [newA l ch p q a b] from ⟨rfl, rfl⟩)
              generalize subk (am (at' l p)) a 4 = S1 at *
              generalize subk (am (at' l q)) b 4 = S2 at *
              generalize addk a b 4 = S3 at *
              obtain ⟨L1, u1⟩ := S1
              obtain ⟨L2, u2⟩ := S2
              obtain ⟨L3, u3⟩ := S3
              simp only at HE0 HEQ HSL1 HSL2 HSL3 HSB1 HSB2 HSB3 HSU1 HSU2 HSU3
              refine wp_put (fun a0 a' w' => ∃ gn, a' = ((((((((((((a0.put (some 58) (.slice (some ad) l.length c)).put (some 59) (.int .i64 (p : Nat))).put (some 60) (.pointer (some (ad.add (p * 8))))).put (some 61) (.pointer (some ⟨(ad.add (p * 8)).block, (ad.add (p * 8)).off + 1, none⟩))).put (some 62) (.agg (ws (am (at' l p))))).put (some 63) (.agg (ws a))).put (some 64) (.tuple #[.agg (ws L1), .bool (decide (u1 > 0))])).put (some 57) (.tuple #[.agg (ws L1), .bool (decide (u1 > 0))])).put (some 65) (.agg (ws L1))).put (some 66) (.bool (decide (u1 > 0)))).put (some 14) (.pointer (some ⟨gn, 0, none⟩))).put (some 15) (.bool (decide (u1 > 0)))) ∧ Below w2.heap.size w2 w' ∧ w2.heap.size ≤ gn ∧ Holds w' gn 25 L1) ?hreg ?hnext
              case hreg =>
                refine wp_region_held_drew (S := fun X => Below w2.heap.size w2 X) (by kernel_rfl) (below_drew1 (Below.refl _ _)) (fun hHeld => ?_)
                generalize w2.drew = W0 at *
                try simp only [Act.put, List.getElem_toArray, List.getElem_cons_zero, List.getElem_cons_succ, List.setIfInBounds_toArray, List.set_cons_zero, List.set_cons_succ]
                refine wpAnyH_take (i := 0) (v := .slice (some ad) l.length c) rfl (by kernel_rfl) (by kernel_rfl) (by kernel_rfl) (fun _ _ _ h => absurd h.1 (by simp)) (.inl ⟨by rfl, fun _ _ => by go_simp⟩) hHeld ?_
                try simp only [Act.put, List.getElem_toArray, List.getElem_cons_zero, List.getElem_cons_succ, List.setIfInBounds_toArray, List.set_cons_zero, List.set_cons_succ]
                refine wpAnyH_take (i := 1) (v := .int .i64 (p : Nat)) rfl (by kernel_rfl) (by kernel_rfl) (by kernel_rfl) (fun _ _ _ h => absurd h.1 (by simp)) (.inl ⟨by rfl, fun _ _ => by go_simp⟩) hHeld ?_
                try simp only [Act.put, List.getElem_toArray, List.getElem_cons_zero, List.getElem_cons_succ, List.setIfInBounds_toArray, List.set_cons_zero, List.set_cons_succ]
                refine wpAnyH_take (i := 2) (v := .pointer (some (ad.add (p * 8)))) rfl (by kernel_rfl) (by kernel_rfl) (by kernel_rfl) (fun _ _ _ h => absurd h.1 (by simp)) (.inl ⟨by rfl, fun _ _ => by go_simp⟩) hHeld ?_
                try simp only [Act.put, List.getElem_toArray, List.getElem_cons_zero, List.getElem_cons_succ, List.setIfInBounds_toArray, List.set_cons_zero, List.set_cons_succ]
                refine wpAnyH_take (i := 3) (v := .pointer (some ⟨(ad.add (p * 8)).block, (ad.add (p * 8)).off + 1, none⟩)) rfl (by kernel_rfl) (by kernel_rfl) (by kernel_rfl) (fun _ _ _ h => absurd h.1 (by simp)) (.inl ⟨by rfl, fun _ _ => by go_simp⟩) hHeld ?_
                try simp only [Act.put, List.getElem_toArray, List.getElem_cons_zero, List.getElem_cons_succ, List.setIfInBounds_toArray, List.set_cons_zero, List.set_cons_succ]
                refine wpAnyH_take (i := 4) (v := .agg (wl (am (at' l p))).toArray) rfl (by kernel_rfl) (by kernel_rfl) (by kernel_rfl) (fun _ _ _ h => absurd h.1 (by simp)) (yieldsIf_load_mid rfl 25 _ rfl _ _ rfl (wl (am (at' l p))) _ (fun X' hS => range_am (HB.out _ hS) HL.out.2.2.1 p hp) Try.underlying25 rfl (by rw [Hi25.out]; rfl)) hHeld ?_
                try simp only [Act.put, List.getElem_toArray, List.getElem_cons_zero, List.getElem_cons_succ, List.setIfInBounds_toArray, List.set_cons_zero, List.set_cons_succ]
                refine wpAnyH_take (i := 5) (v := .agg (wl a).toArray) rfl (by kernel_rfl) (by kernel_rfl) (by kernel_rfl) (fun _ _ _ h => absurd h.1 (by simp)) (yieldsIf_load_mid rfl 25 _ rfl w.heap.size 0 rfl (wl a) _ (fun X' hS => range_of (Holds.below HG2.out.1 hS)) Try.underlying25 rfl (by rw [Hi25.out, wl, List.length_map, HL.out.1])) hHeld ?_
                try simp only [Act.put, List.getElem_toArray, List.getElem_cons_zero, List.getElem_cons_succ, List.setIfInBounds_toArray, List.set_cons_zero, List.set_cons_succ]
                rw [wl_eq, wl_eq]
                refine wpAnyH_ready (rs := [6, 10]) (by kernel_rfl) (by simp) ?_
                refine AllReadyH.cons rfl (fun K hK => ?_) ?_
                · go_simp
                  refine (HSB1.out _).mono ?_
                  rintro e X1 ⟨rfl, hb⟩
                  refine hK.out _ _ (below_step hHeld hb) (fun hHeld => ?_)
                  clear hb hK K
                  try simp only [Act.put, List.getElem_toArray, List.getElem_cons_zero, List.getElem_cons_succ, List.setIfInBounds_toArray, List.set_cons_zero, List.set_cons_succ]
                  refine wpAnyH_take (i := 7) (v := .tuple #[.agg (ws L1), .bool (decide (u1 > 0))]) rfl (by kernel_rfl) (by kernel_rfl) (by kernel_rfl) (fun _ _ _ h => absurd h.1 (by simp)) (.inl ⟨by rfl, fun _ _ => by go_simp⟩) hHeld ?_
                  try simp only [Act.put, List.getElem_toArray, List.getElem_cons_zero, List.getElem_cons_succ, List.setIfInBounds_toArray, List.set_cons_zero, List.set_cons_succ]
                  refine wpAnyH_take (i := 8) (v := .agg (ws L1)) rfl (by kernel_rfl) (by kernel_rfl) (by kernel_rfl) (fun _ _ _ h => absurd h.1 (by simp)) (.inl ⟨by rfl, fun _ _ => by go_simp⟩) hHeld ?_
                  try simp only [Act.put, List.getElem_toArray, List.getElem_cons_zero, List.getElem_cons_succ, List.setIfInBounds_toArray, List.set_cons_zero, List.set_cons_succ]
                  refine wpAnyH_take (i := 9) (v := .bool (decide (u1 > 0))) rfl (by kernel_rfl) (by kernel_rfl) (by kernel_rfl) (fun _ _ _ h => absurd h.1 (by simp)) (.inl ⟨by rfl, fun _ _ => by go_simp⟩) hHeld ?_
                  try simp only [Act.put, List.getElem_toArray, List.getElem_cons_zero, List.getElem_cons_succ, List.setIfInBounds_toArray, List.set_cons_zero, List.set_cons_succ]
                  refine wpAnyH_ready (rs := [10]) (by kernel_rfl) (by simp) ?_
                  refine AllReadyH.cons rfl (fun K hK => ?_) AllReadyH.nil
                  go_simp
                  have hb := below_alloc (Below.refl X1.heap.size X1) (.cells #[Value.int .u64 0, .int .u64 0, .int .u64 0, .int .u64 0] 25)
                  have H14 := Aside0.mk (And.intro (show Holds (X1.alloc (.cells #[Value.int .u64 0, .int .u64 0, .int .u64 0, .int .u64 0] 25)) X1.heap.size 25 (List.replicate 4 0) from blk_new X1 _) hHeld.size)
                  refine hK.out _ _ (below_step hHeld hb) (fun hHeld => ?_)
                  clear hb hK K
                  generalize X1.alloc _ = X2 at *
                  generalize X1.heap.size = g14 at *
                  try simp only [Act.put, List.getElem_toArray, List.getElem_cons_zero, List.getElem_cons_succ, List.setIfInBounds_toArray, List.set_cons_zero, List.set_cons_succ]
                  have hx := H14.out.1
                  have z0 := hx.cell 0 (by simp)
                  have y0 := hx.free 0
                  have z1 := hx.cell 1 (by simp)
                  have y1 := hx.free 1
                  have z2 := hx.cell 2 (by simp)
                  have y2 := hx.free 2
                  have z3 := hx.cell 3 (by simp)
                  have y3 := hx.free 3
                  clear hx
                  have hwf := ws_four L1 HSL1.out
                  refine wpAnyH_ready (rs := [11]) (by kernel_rfl) (by simp) ?_
                  refine AllReadyH.cons rfl (fun K hK => ?_) AllReadyH.nil
                  go_simp
                  have n14 := H14.out.2
                  refine hK.out _ _ (below_set (below_set (below_set (below_set hHeld n14) n14) n14) n14) (fun hHeld => ?_)
                  clear hK K z0 z1 z2 z3 y0 y1 y2 y3 hwf
                  have H14' := Aside0.mk (set_four (L := List.replicate 4 0) (H := L1) rfl HSL1.out H14.out.1)
                  try simp only [Act.put, List.getElem_toArray, List.getElem_cons_zero, List.getElem_cons_succ, List.setIfInBounds_toArray, List.set_cons_zero, List.set_cons_succ]
                  refine wpAnyH_take (i := 12) (v := .bool (decide (u1 > 0))) rfl (by kernel_rfl) (by kernel_rfl) (by kernel_rfl) (fun _ _ _ h => absurd h.1 (by simp)) (.inl ⟨by rfl, fun _ _ => by go_simp⟩) hHeld ?_
                  try simp only [Act.put, List.getElem_toArray, List.getElem_cons_zero, List.getElem_cons_succ, List.setIfInBounds_toArray, List.set_cons_zero, List.set_cons_succ]
                  refine wpAnyH_done (by kernel_rfl) ?_ _
                  refine ⟨rfl, g14, ?_, hHeld, n14, H14'.out⟩
                  rw [ws_four L1 HSL1.out]
                  try rfl
                refine AllReadyH.cons rfl (fun K hK => ?_) AllReadyH.nil
                go_simp
                have hb := below_alloc (Below.refl W0.heap.size W0) (.cells #[Value.int .u64 0, .int .u64 0, .int .u64 0, .int .u64 0] 25)
                have H14 := Aside0.mk (And.intro (show Holds (W0.alloc (.cells #[Value.int .u64 0, .int .u64 0, .int .u64 0, .int .u64 0] 25)) W0.heap.size 25 (List.replicate 4 0) from blk_new W0 _) hHeld.size)
                refine hK.out _ _ (below_step hHeld hb) (fun hHeld => ?_)
                clear hb hK K
                generalize W0.alloc _ = X3 at *
                generalize W0.heap.size = g14 at *
                try simp only [Act.put, List.getElem_toArray, List.getElem_cons_zero, List.getElem_cons_succ, List.setIfInBounds_toArray, List.set_cons_zero, List.set_cons_succ]
                refine wpAnyH_ready (rs := [6]) (by kernel_rfl) (by simp) ?_
                refine AllReadyH.cons rfl (fun K hK => ?_) AllReadyH.nil
                go_simp
                refine (HSB1.out _).mono ?_
                rintro e X4 ⟨rfl, hb⟩
                replace H14 := Aside0.mk (And.intro (Holds.below H14.out.1 hb) H14.out.2)
                refine hK.out _ _ (below_step hHeld hb) (fun hHeld => ?_)
                clear hb hK K
                try simp only [Act.put, List.getElem_toArray, List.getElem_cons_zero, List.getElem_cons_succ, List.setIfInBounds_toArray, List.set_cons_zero, List.set_cons_succ]
                refine wpAnyH_take (i := 7) (v := .tuple #[.agg (ws L1), .bool (decide (u1 > 0))]) rfl (by kernel_rfl) (by kernel_rfl) (by kernel_rfl) (fun _ _ _ h => absurd h.1 (by simp)) (.inl ⟨by rfl, fun _ _ => by go_simp⟩) hHeld ?_
                try simp only [Act.put, List.getElem_toArray, List.getElem_cons_zero, List.getElem_cons_succ, List.setIfInBounds_toArray, List.set_cons_zero, List.set_cons_succ]
                refine wpAnyH_take (i := 8) (v := .agg (ws L1)) rfl (by kernel_rfl) (by kernel_rfl) (by kernel_rfl) (fun _ _ _ h => absurd h.1 (by simp)) (.inl ⟨by rfl, fun _ _ => by go_simp⟩) hHeld ?_
                try simp only [Act.put, List.getElem_toArray, List.getElem_cons_zero, List.getElem_cons_succ, List.setIfInBounds_toArray, List.set_cons_zero, List.set_cons_succ]
                refine wpAnyH_take (i := 9) (v := .bool (decide (u1 > 0))) rfl (by kernel_rfl) (by kernel_rfl) (by kernel_rfl) (fun _ _ _ h => absurd h.1 (by simp)) (.inl ⟨by rfl, fun _ _ => by go_simp⟩) hHeld ?_
                try simp only [Act.put, List.getElem_toArray, List.getElem_cons_zero, List.getElem_cons_succ, List.setIfInBounds_toArray, List.set_cons_zero, List.set_cons_succ]
                have hx := H14.out.1
                have z0 := hx.cell 0 (by simp)
                have y0 := hx.free 0
                have z1 := hx.cell 1 (by simp)
                have y1 := hx.free 1
                have z2 := hx.cell 2 (by simp)
                have y2 := hx.free 2
                have z3 := hx.cell 3 (by simp)
                have y3 := hx.free 3
                clear hx
                have hwf := ws_four L1 HSL1.out
                refine wpAnyH_ready (rs := [11]) (by kernel_rfl) (by simp) ?_
                refine AllReadyH.cons rfl (fun K hK => ?_) AllReadyH.nil
                go_simp
                have n14 := H14.out.2
                refine hK.out _ _ (below_set (below_set (below_set (below_set hHeld n14) n14) n14) n14) (fun hHeld => ?_)
                clear hK K z0 z1 z2 z3 y0 y1 y2 y3 hwf
                have H14' := Aside0.mk (set_four (L := List.replicate 4 0) (H := L1) rfl HSL1.out H14.out.1)
                try simp only [Act.put, List.getElem_toArray, List.getElem_cons_zero, List.getElem_cons_succ, List.setIfInBounds_toArray, List.set_cons_zero, List.set_cons_succ]
                refine wpAnyH_take (i := 12) (v := .bool (decide (u1 > 0))) rfl (by kernel_rfl) (by kernel_rfl) (by kernel_rfl) (fun _ _ _ h => absurd h.1 (by simp)) (.inl ⟨by rfl, fun _ _ => by go_simp⟩) hHeld ?_
                try simp only [Act.put, List.getElem_toArray, List.getElem_cons_zero, List.getElem_cons_succ, List.setIfInBounds_toArray, List.set_cons_zero, List.set_cons_succ]
                refine wpAnyH_done (by kernel_rfl) ?_ _
                refine ⟨rfl, g14, ?_, hHeld, n14, H14'.out⟩
                rw [ws_four L1 HSL1.out]
                try rfl
              case hnext =>
                rintro _ w3 ⟨g14, rfl, hb3, n14, h14⟩
                try simp only [Act.put, List.getElem_toArray, List.getElem_cons_zero, List.getElem_cons_succ, List.setIfInBounds_toArray, List.set_cons_zero, List.set_cons_succ]
                have HC3 := Aside0.mk (HB.out _ hb3)
                have HB3 := Aside0.mk (fun (X : World) (hX : Below w3.heap.size w3 X) => Kd.C_below HC3.out hX)
                have HW3 := Aside0.mk (below_step HW2.out hb3)
                have HG3 := Aside0.mk (And.intro (Holds.below HG2.out.1 hb3) (And.intro (Holds.below HG2.out.2 hb3) h14))
                clear hb3 n14 h14
                go_wp2_with fail
                refine wp_put (fun a0 a' w' => ∃ gn, a' = ((((((((((((a0.put (some 68) (.slice (some ad) l.length c)).put (some 69) (.int .i64 (q : Nat))).put (some 70) (.pointer (some (ad.add (q * 8))))).put (some 71) (.pointer (some ⟨(ad.add (q * 8)).block, (ad.add (q * 8)).off + 1, none⟩))).put (some 72) (.agg (ws (am (at' l q))))).put (some 73) (.agg (ws b))).put (some 74) (.tuple #[.agg (ws L2), .bool (decide (u2 > 0))])).put (some 67) (.tuple #[.agg (ws L2), .bool (decide (u2 > 0))])).put (some 75) (.agg (ws L2))).put (some 76) (.bool (decide (u2 > 0)))).put (some 16) (.pointer (some ⟨gn, 0, none⟩))).put (some 17) (.bool (decide (u2 > 0)))) ∧ Below w3.heap.size w3 w' ∧ w3.heap.size ≤ gn ∧ Holds w' gn 25 L2) ?hreg ?hnext
                case hreg =>
                  refine wp_region_held_drew (S := fun X => Below w3.heap.size w3 X) (by kernel_rfl) (below_drew1 (Below.refl _ _)) (fun hHeld => ?_)
                  generalize w3.drew = W0 at *
                  try simp only [Act.put, List.getElem_toArray, List.getElem_cons_zero, List.getElem_cons_succ, List.setIfInBounds_toArray, List.set_cons_zero, List.set_cons_succ]
                  refine wpAnyH_take (i := 0) (v := .slice (some ad) l.length c) rfl (by kernel_rfl) (by kernel_rfl) (by kernel_rfl) (fun _ _ _ h => absurd h.1 (by simp)) (.inl ⟨by rfl, fun _ _ => by go_simp⟩) hHeld ?_
                  try simp only [Act.put, List.getElem_toArray, List.getElem_cons_zero, List.getElem_cons_succ, List.setIfInBounds_toArray, List.set_cons_zero, List.set_cons_succ]
                  refine wpAnyH_take (i := 1) (v := .int .i64 (q : Nat)) rfl (by kernel_rfl) (by kernel_rfl) (by kernel_rfl) (fun _ _ _ h => absurd h.1 (by simp)) (.inl ⟨by rfl, fun _ _ => by go_simp⟩) hHeld ?_
                  try simp only [Act.put, List.getElem_toArray, List.getElem_cons_zero, List.getElem_cons_succ, List.setIfInBounds_toArray, List.set_cons_zero, List.set_cons_succ]
                  refine wpAnyH_take (i := 2) (v := .pointer (some (ad.add (q * 8)))) rfl (by kernel_rfl) (by kernel_rfl) (by kernel_rfl) (fun _ _ _ h => absurd h.1 (by simp)) (.inl ⟨by rfl, fun _ _ => by go_simp⟩) hHeld ?_
                  try simp only [Act.put, List.getElem_toArray, List.getElem_cons_zero, List.getElem_cons_succ, List.setIfInBounds_toArray, List.set_cons_zero, List.set_cons_succ]
                  refine wpAnyH_take (i := 3) (v := .pointer (some ⟨(ad.add (q * 8)).block, (ad.add (q * 8)).off + 1, none⟩)) rfl (by kernel_rfl) (by kernel_rfl) (by kernel_rfl) (fun _ _ _ h => absurd h.1 (by simp)) (.inl ⟨by rfl, fun _ _ => by go_simp⟩) hHeld ?_
                  try simp only [Act.put, List.getElem_toArray, List.getElem_cons_zero, List.getElem_cons_succ, List.setIfInBounds_toArray, List.set_cons_zero, List.set_cons_succ]
                  refine wpAnyH_take (i := 4) (v := .agg (wl (am (at' l q))).toArray) rfl (by kernel_rfl) (by kernel_rfl) (by kernel_rfl) (fun _ _ _ h => absurd h.1 (by simp)) (yieldsIf_load_mid rfl 25 _ rfl _ _ rfl (wl (am (at' l q))) _ (fun X' hS => range_am (HB3.out _ hS) HL.out.2.2.1 q hq) Try.underlying25 rfl (by rw [Hi25.out]; rfl)) hHeld ?_
                  try simp only [Act.put, List.getElem_toArray, List.getElem_cons_zero, List.getElem_cons_succ, List.setIfInBounds_toArray, List.set_cons_zero, List.set_cons_succ]
                  refine wpAnyH_take (i := 5) (v := .agg (wl b).toArray) rfl (by kernel_rfl) (by kernel_rfl) (by kernel_rfl) (fun _ _ _ h => absurd h.1 (by simp)) (yieldsIf_load_mid rfl 25 _ rfl (w.heap.size + 1) 0 rfl (wl b) _ (fun X' hS => range_of (Holds.below HG3.out.2.1 hS)) Try.underlying25 rfl (by rw [Hi25.out, wl, List.length_map, HL.out.2.1])) hHeld ?_
                  try simp only [Act.put, List.getElem_toArray, List.getElem_cons_zero, List.getElem_cons_succ, List.setIfInBounds_toArray, List.set_cons_zero, List.set_cons_succ]
                  rw [wl_eq, wl_eq]
                  refine wpAnyH_ready (rs := [6, 10]) (by kernel_rfl) (by simp) ?_
                  refine AllReadyH.cons rfl (fun K hK => ?_) ?_
                  · go_simp
                    refine (HSB2.out _).mono ?_
                    rintro e X5 ⟨rfl, hb⟩
                    refine hK.out _ _ (below_step hHeld hb) (fun hHeld => ?_)
                    clear hb hK K
                    try simp only [Act.put, List.getElem_toArray, List.getElem_cons_zero, List.getElem_cons_succ, List.setIfInBounds_toArray, List.set_cons_zero, List.set_cons_succ]
                    refine wpAnyH_take (i := 7) (v := .tuple #[.agg (ws L2), .bool (decide (u2 > 0))]) rfl (by kernel_rfl) (by kernel_rfl) (by kernel_rfl) (fun _ _ _ h => absurd h.1 (by simp)) (.inl ⟨by rfl, fun _ _ => by go_simp⟩) hHeld ?_
                    try simp only [Act.put, List.getElem_toArray, List.getElem_cons_zero, List.getElem_cons_succ, List.setIfInBounds_toArray, List.set_cons_zero, List.set_cons_succ]
                    refine wpAnyH_take (i := 8) (v := .agg (ws L2)) rfl (by kernel_rfl) (by kernel_rfl) (by kernel_rfl) (fun _ _ _ h => absurd h.1 (by simp)) (.inl ⟨by rfl, fun _ _ => by go_simp⟩) hHeld ?_
                    try simp only [Act.put, List.getElem_toArray, List.getElem_cons_zero, List.getElem_cons_succ, List.setIfInBounds_toArray, List.set_cons_zero, List.set_cons_succ]
                    refine wpAnyH_take (i := 9) (v := .bool (decide (u2 > 0))) rfl (by kernel_rfl) (by kernel_rfl) (by kernel_rfl) (fun _ _ _ h => absurd h.1 (by simp)) (.inl ⟨by rfl, fun _ _ => by go_simp⟩) hHeld ?_
                    try simp only [Act.put, List.getElem_toArray, List.getElem_cons_zero, List.getElem_cons_succ, List.setIfInBounds_toArray, List.set_cons_zero, List.set_cons_succ]
                    refine wpAnyH_ready (rs := [10]) (by kernel_rfl) (by simp) ?_
                    refine AllReadyH.cons rfl (fun K hK => ?_) AllReadyH.nil
                    go_simp
                    have hb := below_alloc (Below.refl X5.heap.size X5) (.cells #[Value.int .u64 0, .int .u64 0, .int .u64 0, .int .u64 0] 25)
                    have H14 := Aside0.mk (And.intro (show Holds (X5.alloc (.cells #[Value.int .u64 0, .int .u64 0, .int .u64 0, .int .u64 0] 25)) X5.heap.size 25 (List.replicate 4 0) from blk_new X5 _) hHeld.size)
                    refine hK.out _ _ (below_step hHeld hb) (fun hHeld => ?_)
                    clear hb hK K
                    generalize X5.alloc _ = X6 at *
                    generalize X5.heap.size = g14 at *
                    try simp only [Act.put, List.getElem_toArray, List.getElem_cons_zero, List.getElem_cons_succ, List.setIfInBounds_toArray, List.set_cons_zero, List.set_cons_succ]
                    have hx := H14.out.1
                    have z0 := hx.cell 0 (by simp)
                    have y0 := hx.free 0
                    have z1 := hx.cell 1 (by simp)
                    have y1 := hx.free 1
                    have z2 := hx.cell 2 (by simp)
                    have y2 := hx.free 2
                    have z3 := hx.cell 3 (by simp)
                    have y3 := hx.free 3
                    clear hx
                    have hwf := ws_four L2 HSL2.out
                    refine wpAnyH_ready (rs := [11]) (by kernel_rfl) (by simp) ?_
                    refine AllReadyH.cons rfl (fun K hK => ?_) AllReadyH.nil
                    go_simp
                    have n14 := H14.out.2
                    refine hK.out _ _ (below_set (below_set (below_set (below_set hHeld n14) n14) n14) n14) (fun hHeld => ?_)
                    clear hK K z0 z1 z2 z3 y0 y1 y2 y3 hwf
                    have H14' := Aside0.mk (set_four (L := List.replicate 4 0) (H := L2) rfl HSL2.out H14.out.1)
                    try simp only [Act.put, List.getElem_toArray, List.getElem_cons_zero, List.getElem_cons_succ, List.setIfInBounds_toArray, List.set_cons_zero, List.set_cons_succ]
                    refine wpAnyH_take (i := 12) (v := .bool (decide (u2 > 0))) rfl (by kernel_rfl) (by kernel_rfl) (by kernel_rfl) (fun _ _ _ h => absurd h.1 (by simp)) (.inl ⟨by rfl, fun _ _ => by go_simp⟩) hHeld ?_
                    try simp only [Act.put, List.getElem_toArray, List.getElem_cons_zero, List.getElem_cons_succ, List.setIfInBounds_toArray, List.set_cons_zero, List.set_cons_succ]
                    refine wpAnyH_done (by kernel_rfl) ?_ _
                    refine ⟨rfl, g14, ?_, hHeld, n14, H14'.out⟩
                    rw [ws_four L2 HSL2.out]
                    try rfl
                  refine AllReadyH.cons rfl (fun K hK => ?_) AllReadyH.nil
                  go_simp
                  have hb := below_alloc (Below.refl W0.heap.size W0) (.cells #[Value.int .u64 0, .int .u64 0, .int .u64 0, .int .u64 0] 25)
                  have H14 := Aside0.mk (And.intro (show Holds (W0.alloc (.cells #[Value.int .u64 0, .int .u64 0, .int .u64 0, .int .u64 0] 25)) W0.heap.size 25 (List.replicate 4 0) from blk_new W0 _) hHeld.size)
                  refine hK.out _ _ (below_step hHeld hb) (fun hHeld => ?_)
                  clear hb hK K
                  generalize W0.alloc _ = X7 at *
                  generalize W0.heap.size = g14 at *
                  try simp only [Act.put, List.getElem_toArray, List.getElem_cons_zero, List.getElem_cons_succ, List.setIfInBounds_toArray, List.set_cons_zero, List.set_cons_succ]
                  refine wpAnyH_ready (rs := [6]) (by kernel_rfl) (by simp) ?_
                  refine AllReadyH.cons rfl (fun K hK => ?_) AllReadyH.nil
                  go_simp
                  refine (HSB2.out _).mono ?_
                  rintro e X8 ⟨rfl, hb⟩
                  replace H14 := Aside0.mk (And.intro (Holds.below H14.out.1 hb) H14.out.2)
                  refine hK.out _ _ (below_step hHeld hb) (fun hHeld => ?_)
                  clear hb hK K
                  try simp only [Act.put, List.getElem_toArray, List.getElem_cons_zero, List.getElem_cons_succ, List.setIfInBounds_toArray, List.set_cons_zero, List.set_cons_succ]
                  refine wpAnyH_take (i := 7) (v := .tuple #[.agg (ws L2), .bool (decide (u2 > 0))]) rfl (by kernel_rfl) (by kernel_rfl) (by kernel_rfl) (fun _ _ _ h => absurd h.1 (by simp)) (.inl ⟨by rfl, fun _ _ => by go_simp⟩) hHeld ?_
                  try simp only [Act.put, List.getElem_toArray, List.getElem_cons_zero, List.getElem_cons_succ, List.setIfInBounds_toArray, List.set_cons_zero, List.set_cons_succ]
                  refine wpAnyH_take (i := 8) (v := .agg (ws L2)) rfl (by kernel_rfl) (by kernel_rfl) (by kernel_rfl) (fun _ _ _ h => absurd h.1 (by simp)) (.inl ⟨by rfl, fun _ _ => by go_simp⟩) hHeld ?_
                  try simp only [Act.put, List.getElem_toArray, List.getElem_cons_zero, List.getElem_cons_succ, List.setIfInBounds_toArray, List.set_cons_zero, List.set_cons_succ]
                  refine wpAnyH_take (i := 9) (v := .bool (decide (u2 > 0))) rfl (by kernel_rfl) (by kernel_rfl) (by kernel_rfl) (fun _ _ _ h => absurd h.1 (by simp)) (.inl ⟨by rfl, fun _ _ => by go_simp⟩) hHeld ?_
                  try simp only [Act.put, List.getElem_toArray, List.getElem_cons_zero, List.getElem_cons_succ, List.setIfInBounds_toArray, List.set_cons_zero, List.set_cons_succ]
                  have hx := H14.out.1
                  have z0 := hx.cell 0 (by simp)
                  have y0 := hx.free 0
                  have z1 := hx.cell 1 (by simp)
                  have y1 := hx.free 1
                  have z2 := hx.cell 2 (by simp)
                  have y2 := hx.free 2
                  have z3 := hx.cell 3 (by simp)
                  have y3 := hx.free 3
                  clear hx
                  have hwf := ws_four L2 HSL2.out
                  refine wpAnyH_ready (rs := [11]) (by kernel_rfl) (by simp) ?_
                  refine AllReadyH.cons rfl (fun K hK => ?_) AllReadyH.nil
                  go_simp
                  have n14 := H14.out.2
                  refine hK.out _ _ (below_set (below_set (below_set (below_set hHeld n14) n14) n14) n14) (fun hHeld => ?_)
                  clear hK K z0 z1 z2 z3 y0 y1 y2 y3 hwf
                  have H14' := Aside0.mk (set_four (L := List.replicate 4 0) (H := L2) rfl HSL2.out H14.out.1)
                  try simp only [Act.put, List.getElem_toArray, List.getElem_cons_zero, List.getElem_cons_succ, List.setIfInBounds_toArray, List.set_cons_zero, List.set_cons_succ]
                  refine wpAnyH_take (i := 12) (v := .bool (decide (u2 > 0))) rfl (by kernel_rfl) (by kernel_rfl) (by kernel_rfl) (fun _ _ _ h => absurd h.1 (by simp)) (.inl ⟨by rfl, fun _ _ => by go_simp⟩) hHeld ?_
                  try simp only [Act.put, List.getElem_toArray, List.getElem_cons_zero, List.getElem_cons_succ, List.setIfInBounds_toArray, List.set_cons_zero, List.set_cons_succ]
                  refine wpAnyH_done (by kernel_rfl) ?_ _
                  refine ⟨rfl, g14, ?_, hHeld, n14, H14'.out⟩
                  rw [ws_four L2 HSL2.out]
                  try rfl
                case hnext =>
                  rintro _ w4 ⟨g16, rfl, hb4, n16, h16⟩
                  try simp only [Act.put, List.getElem_toArray, List.getElem_cons_zero, List.getElem_cons_succ, List.setIfInBounds_toArray, List.set_cons_zero, List.set_cons_succ]
                  have HC4 := Aside0.mk (HB3.out _ hb4)
                  have HW4 := Aside0.mk (below_step HW3.out hb4)
                  have HG4 := Aside0.mk (And.intro (Holds.below HG3.out.1 hb4) (And.intro (Holds.below HG3.out.2.1 hb4) (And.intro (Holds.below HG3.out.2.2 hb4) h16)))
                  clear hb4 n16 h16
                  by_cases v1 : u1 > 0
                  · have k1 := decide_eq_true v1
                    have HE := Aside0.mk (HE0.out.trans (if_pos (.inl (by have := HSU1.out; omega))))
                    go_wp2_with fail
                    exact bodyPost_ret (v := .tuple #[.slice (some ad) l.length c, .int .i64 16]) (by simp [results, Try.results12, go_sem]) rfl ⟨fun _ => ⟨by rw [HE.out], HW4.out⟩, fun h => absurd (HE.out.symm.trans h) (by decide)⟩
                  have k1 := decide_eq_false v1
                  by_cases v2 : u2 > 0
                  · have k2 := decide_eq_true v2
                    have HE := Aside0.mk (HE0.out.trans (if_pos (.inr (by have := HSU2.out; omega))))
                    go_wp2_with fail
                    exact bodyPost_ret (v := .tuple #[.slice (some ad) l.length c, .int .i64 16]) (by simp [results, Try.results12, go_sem]) rfl ⟨fun _ => ⟨by rw [HE.out], HW4.out⟩, fun h => absurd (HE.out.symm.trans h) (by decide)⟩
                  have k2 := decide_eq_false v2
                  have HE1 := Aside0.mk (HE0.out.trans (if_neg (fun h => h.elim (fun h => v1 (by omega)) (fun h => v2 (by omega)))))
                  clear HE0
                  go_wp2_with (first | (refine load_ws rfl 25 _ rfl w.heap.size rfl 25 a 4 _ HG4.out.1 HL.out.1 Try.underlying25 rfl Hi25.out ?_) | (refine load_ws rfl 25 _ rfl (w.heap.size + 1) rfl 25 b 4 _ HG4.out.2.1 HL.out.2.1 Try.underlying25 rfl Hi25.out ?_))
                  refine (HSB3.out _).mono ?_
                  rintro e w5 ⟨rfl, hb5⟩
                  try simp only [Act.put, List.getElem_toArray, List.getElem_cons_zero, List.getElem_cons_succ, List.setIfInBounds_toArray, List.set_cons_zero, List.set_cons_succ]
                  have hn18 := blk_new w5 (.cells #[Value.int .u64 0, .int .u64 0, .int .u64 0, .int .u64 0] 25)
                  go_wp2_with (refine store_ws rfl 25 _ _ rfl w5.heap.size rfl 25 (List.replicate 4 0) L3 4 rfl hn18 rfl HSL3.out Hi25.out ?_)
                  intro w6 h18 hbl hf6 hs6
                  clear hf6 hs6
                  have hb6 := below_step hb5 ((below_alloc (Below.refl w5.heap.size w5) (.cells #[Value.int .u64 0, .int .u64 0, .int .u64 0, .int .u64 0] 25)).trans (hbl _ (Nat.le_refl _)))
                  have HC6 := Aside0.mk (Kd.C_below HC4.out hb6)
                  have HB6 := Aside0.mk (fun (X : World) (hX : Below w6.heap.size w6 X) => Kd.C_below HC6.out hX)
                  have HW6 := Aside0.mk (below_step HW4.out hb6)
                  have HG6 := Aside0.mk (And.intro (Holds.below HG4.out.2.2.1 hb6) (And.intro (Holds.below HG4.out.2.2.2 hb6) h18))
                  clear hn18 hbl hb6 hb5 h18
                  generalize w5.heap.size = g18 at *
                  by_cases v3 : u3 > 0
                  · have k3 := decide_eq_true v3
                    have HE := Aside0.mk (HE1.out.trans (if_pos (by have := HSU3.out; omega)))
                    go_wp2_with fail
                    exact bodyPost_ret (v := .tuple #[.slice (some ad) l.length c, .int .i64 7]) (by simp [results, Try.results12, go_sem]) rfl ⟨fun _ => ⟨by rw [HE.out], HW6.out⟩, fun h => absurd (HE.out.symm.trans h) (by decide)⟩
                  have k3 := decide_eq_false v3
                  by_cases v4 : 8 ≤ l.length
                  · have k4 : (8 : Int) ≤ (l.length : Int) := by omega
                    have HE := Aside0.mk (HE1.out.trans ((if_neg (fun h => v3 (by omega))).trans (if_pos v4)))
                    go_wp2_with fail
                    exact bodyPost_ret (v := .tuple #[.slice (some ad) l.length c, .int .i64 8]) (by simp [results, Try.results12, go_sem]) rfl ⟨fun _ => ⟨by rw [HE.out], HW6.out⟩, fun h => absurd (HE.out.symm.trans h) (by decide)⟩
                  have k4 : ¬ (8 : Int) ≤ (l.length : Int) := by omega
                  have HE := Aside0.mk (HE1.out.trans ((if_neg (fun h => v3 (by omega))).trans (if_neg v4)))
                  obtain ⟨i0, hi, hz0, hz1, hz2⟩ := info_parts info39_8
                  have HIN := Aside0.mk (And.intro hi (And.intro hz0 (And.intro hz1 hz2)))
                  have hnil := World.ownsRow_nil w6 w6.heap.size 39 8
                  clear hi hz0 hz1 hz2 HE1
                  go_wp2_with (at_builtin; refine wpList_append_own w6 rfl _ _ 22 rfl w6.heap.size 39 i0 (.agg #[.string ByteArray.empty, .int .u64 0, .int .u64 0, .int .u64 0, .int .u64 0, .int .i64 0, .string ByteArray.empty, .string ByteArray.empty]) 8 88 Try.underlying22 HIN.out.1 HIN.out.2.1 HIN.out.2.2.1 HIN.out.2.2.2 rfl (by decide) _ 0 [] rfl hnil ad l.length c (cells39 l) rfl (cells39_len l) ?c1 (one39 _) ?c3 ?c4 ?c5 ?_)
                  case c1 => intro j u hu; exact news39 HC6.out j u hu
                  case c3 => unfold maxLen; omega
                  case c4 => omega
                  try (case c5 => exact Nat.le_refl _)
                  intro v7 w7 hown7 hgr7 _
                  try simp only [Nat.zero_add, List.nil_append] at hown7
                  rcases hown7.2 with ⟨_, hz⟩ | ⟨go, cap, cur, rfl, hgo, _⟩
                  · exact absurd hz (by omega)
                  have HK7 := Aside0.mk (show Below w6.heap.size w6 w7 from (Below.refl _ _).grown hgr7 (Nat.le_refl _) (fun k e => by cases e))
                  have HO7 := Aside0.mk hown7
                  have HGO := Aside0.mk hgo
                  have HG7 := Aside0.mk (And.intro (Holds.below HG6.out.1 HK7.out) (Holds.below HG6.out.2.1 HK7.out))
                  have ng14 : g14 ≠ go := by have := HG6.out.1.lt; omega
                  have ng16 : g16 ≠ go := by have := HG6.out.2.1.lt; omega
                  clear hnil hown7 hgr7 hgo
                  go_upto_region 16 with (fail)
                  refine wp_put (fun a0 a' w' => ∃ X99 : Value, a' = (((((a0.put (some 97) (.slice (some ⟨go, 0, none⟩) l.length cap)).put (some 98) (.int .i64 (p : Nat))).put (some 99) (X99)).put (some 100) (.pointer (some ⟨go, p * 8, none⟩))).put (some 101) (.pointer (some ⟨go, p * 8 + 1, none⟩))) ∧ But go w7 w' ∧ w'.ownsRow w6.heap.size 39 8 (.slice (some ⟨go, 0, none⟩) l.length cap) l.length (cells39 (l.set p (putA (at39 l p) L1)))) ?hreg ?hnext
                  case hreg =>
                    have P := own_put4 HO7.out p hp L1
                    obtain ⟨⟨e1a, e1b⟩, ⟨e2a, e2b⟩, ⟨e3a, e3b⟩, ⟨e4a, e4b⟩, ho⟩ := P
                    have HOn := Aside0.mk ho
                    clear ho
                    have hwf := ws_four L1 HSL1.out
                    have hii : (p : Int) < (l.length : Int) := by omega
                    go_wp2_with (refine load_ws rfl 25 _ rfl g14 rfl 25 L1 4 _ HG7.out.1 HSL1.out Try.underlying25 rfl Hi25.out ?_)
                    first | exact ⟨but_set4 w7 go (p * 8 + 1) _ _ _ _, HOn.out⟩ | exact ⟨rfl, _, rfl, but_set4 w7 go (p * 8 + 1) _ _ _ _, HOn.out⟩
                  case hnext =>
                    rintro _ w8 ⟨X99, rfl, hb8, ho8⟩
                    try simp only [Act.put, List.getElem_toArray, List.getElem_cons_zero, List.getElem_cons_succ, List.setIfInBounds_toArray, List.set_cons_zero, List.set_cons_succ]
                    have HO8 := Aside0.mk ho8
                    have HB8 := Aside0.mk hb8
                    have HG8 := Aside0.mk (show Holds w8 g16 25 L2 from hb8.box (show Box w7 g16 25 _ from HG7.out.2) ng16)
                    have hql : q < (l.set p (putA (at39 l p) L1)).length := by rw [List.length_set]; exact hq
                    clear ho8 hb8
                    go_upto_region 17 with (fail)
                    refine wp_put (fun a0 a' w' => ∃ X99 : Value, a' = (((((a0.put (some 102) (.slice (some ⟨go, 0, none⟩) l.length cap)).put (some 103) (.int .i64 (q : Nat))).put (some 104) (X99)).put (some 105) (.pointer (some ⟨go, q * 8, none⟩))).put (some 106) (.pointer (some ⟨go, q * 8 + 1, none⟩))) ∧ But go w8 w' ∧ w'.ownsRow w6.heap.size 39 8 (.slice (some ⟨go, 0, none⟩) l.length cap) l.length (cells39 ((l.set p (putA (at39 l p) L1)).set q (putA (at39 (l.set p (putA (at39 l p) L1)) q) L2)))) ?hreg ?hnext
                    case hreg =>
                      have P := own_put4 HO8.out q hql L2
                      obtain ⟨⟨e1a, e1b⟩, ⟨e2a, e2b⟩, ⟨e3a, e3b⟩, ⟨e4a, e4b⟩, ho⟩ := P
                      have HOn := Aside0.mk ho
                      clear ho
                      have hwf := ws_four L2 HSL2.out
                      have hii : (q : Int) < (l.length : Int) := by omega
                      go_wp2_with (refine load_ws rfl 25 _ rfl g16 rfl 25 L2 4 _ HG8.out HSL2.out Try.underlying25 rfl Hi25.out ?_)
                      first | exact ⟨but_set4 w8 go (q * 8 + 1) _ _ _ _, HOn.out⟩ | exact ⟨rfl, _, rfl, but_set4 w8 go (q * 8 + 1) _ _ _ _, HOn.out⟩
                    case hnext =>
                      rintro _ w10 ⟨X99b, rfl, hb10, ho10⟩
                      try simp only [Act.put, List.getElem_toArray, List.getElem_cons_zero, List.getElem_cons_succ, List.setIfInBounds_toArray, List.set_cons_zero, List.set_cons_succ]
                      have HO10 := Aside0.mk ho10
                      have HK10 := Aside0.mk (But.below HK7.out (HB8.out.trans hb10) HGO.out (Nat.le_refl _))
                      clear ho10 hb10
                      go_upto_region 18 with (fail)
                      refine wp_put (fun a0 a' w' => ∃ (v : Value) (gn : Nat), a' = ((((((((((((((((((a0.put (some 107) (.slice (some ⟨go, 0, none⟩) l.length cap)).put (some 108) (.string ch)).put (some 109) (.agg (ws L3))).put (some 110) (.slice (some ad) l.length c)).put (some 111) (.int .i64 (p : Nat))).put (some 112) (.pointer (some (ad.add (p * 8))))).put (some 113) (.pointer (some (ad.add (p * 8))))).put (some 114) (.string (at' l p).f0)).put (some 115) (.slice (some ad) l.length c)).put (some 116) (.int .i64 (q : Nat))).put (some 117) (.pointer (some (ad.add (q * 8))))).put (some 118) (.pointer (some (ad.add (q * 8))))).put (some 119) (.string (at' l q).f0)).put (some 120) (.agg #[.string ch, .int .u64 (vw (gw L3 0)), .int .u64 (vw (gw L3 1)), .int .u64 (vw (gw L3 2)), .int .u64 (vw (gw L3 3)), .int .i64 1, .string (at' l p).f0, .string (at' l q).f0])).put (some 121) (.slice (some ⟨gn, 0, none⟩) 1 1)).put (some 122) (v)).put (some 12) (v)).put (some 13) (.int .i64 0)) ∧ Below w6.heap.size w6 w' ∧ w'.ownsRow w6.heap.size 39 8 v (l.length + 1) (cells39 (((l.set p (putA (at39 l p) L1)).set q (putA (at39 (l.set p (putA (at39 l p) L1)) q) L2)) ++ [(⟨ch, sw L3, 1, (at' l p).f0, (at' l q).f0⟩ : S39)]))) ?hreg ?hnext
                      case hreg =>
                        refine wp_region_held_drew (S := fun X => Below w6.heap.size w6 X) (by kernel_rfl) (below_drew1 HK10.out) (fun hHeld => ?_)
                        have HOd := Aside0.mk (World.ownsRow.drew HO10.out)
                        generalize w10.drew = W0 at *
                        try simp only [Act.put, List.getElem_toArray, List.getElem_cons_zero, List.getElem_cons_succ, List.setIfInBounds_toArray, List.set_cons_zero, List.set_cons_succ]
                        refine wpAnyH_take (i := 0) (v := .slice (some ⟨go, 0, none⟩) l.length cap) rfl (by kernel_rfl) (by kernel_rfl) (by kernel_rfl) (fun _ _ _ h => absurd h.1 (by simp)) (.inl ⟨by rfl, fun _ _ => by go_simp⟩) hHeld ?_
                        try simp only [Act.put, List.getElem_toArray, List.getElem_cons_zero, List.getElem_cons_succ, List.setIfInBounds_toArray, List.set_cons_zero, List.set_cons_succ]
                        refine wpAnyH_take (i := 1) (v := .string ch) rfl (by kernel_rfl) (by kernel_rfl) (by kernel_rfl) (fun _ _ _ h => absurd h.1 (by simp)) (.inl ⟨by rfl, fun _ _ => by go_simp⟩) hHeld ?_
                        try simp only [Act.put, List.getElem_toArray, List.getElem_cons_zero, List.getElem_cons_succ, List.setIfInBounds_toArray, List.set_cons_zero, List.set_cons_succ]
                        refine wpAnyH_take (i := 2) (v := .agg (wl L3).toArray) rfl (by kernel_rfl) (by kernel_rfl) (by kernel_rfl) (fun _ _ _ h => absurd h.1 (by simp)) (yieldsIf_load_mid rfl 25 _ rfl g18 0 rfl (wl L3) _ (fun X' hS => range_of (Holds.below HG6.out.2.2 hS)) Try.underlying25 rfl (by rw [Hi25.out, wl, List.length_map, HSL3.out])) hHeld ?_
                        try simp only [Act.put, List.getElem_toArray, List.getElem_cons_zero, List.getElem_cons_succ, List.setIfInBounds_toArray, List.set_cons_zero, List.set_cons_succ]
                        refine wpAnyH_take (i := 3) (v := .slice (some ad) l.length c) rfl (by kernel_rfl) (by kernel_rfl) (by kernel_rfl) (fun _ _ _ h => absurd h.1 (by simp)) (.inl ⟨by rfl, fun _ _ => by go_simp⟩) hHeld ?_
                        try simp only [Act.put, List.getElem_toArray, List.getElem_cons_zero, List.getElem_cons_succ, List.setIfInBounds_toArray, List.set_cons_zero, List.set_cons_succ]
                        refine wpAnyH_take (i := 4) (v := .int .i64 (p : Nat)) rfl (by kernel_rfl) (by kernel_rfl) (by kernel_rfl) (fun _ _ _ h => absurd h.1 (by simp)) (.inl ⟨by rfl, fun _ _ => by go_simp⟩) hHeld ?_
                        try simp only [Act.put, List.getElem_toArray, List.getElem_cons_zero, List.getElem_cons_succ, List.setIfInBounds_toArray, List.set_cons_zero, List.set_cons_succ]
                        refine wpAnyH_take (i := 5) (v := .pointer (some (ad.add (p * 8)))) rfl (by kernel_rfl) (by kernel_rfl) (by kernel_rfl) (fun _ _ _ h => absurd h.1 (by simp)) (.inl ⟨by rfl, fun _ _ => by go_simp⟩) hHeld ?_
                        try simp only [Act.put, List.getElem_toArray, List.getElem_cons_zero, List.getElem_cons_succ, List.setIfInBounds_toArray, List.set_cons_zero, List.set_cons_succ]
                        refine wpAnyH_take (i := 6) (v := .pointer (some (ad.add (p * 8)))) rfl (by kernel_rfl) (by kernel_rfl) (by kernel_rfl) (fun _ _ _ h => absurd h.1 (by simp)) (.inl ⟨by rfl, fun _ _ => by go_simp⟩) hHeld ?_
                        try simp only [Act.put, List.getElem_toArray, List.getElem_cons_zero, List.getElem_cons_succ, List.setIfInBounds_toArray, List.set_cons_zero, List.set_cons_succ]
                        refine wpAnyH_take (i := 7) (v := .string (at' l p).f0) rfl (by kernel_rfl) (by kernel_rfl) (by kernel_rfl) (fun _ _ _ h => absurd h.1 (by simp)) (.inl ⟨by rfl, fun X' hS => by have b := (cell_f0 (HB6.out _ hS) p hp).1; go_simp⟩) hHeld ?_
                        try simp only [Act.put, List.getElem_toArray, List.getElem_cons_zero, List.getElem_cons_succ, List.setIfInBounds_toArray, List.set_cons_zero, List.set_cons_succ]
                        refine wpAnyH_take (i := 8) (v := .slice (some ad) l.length c) rfl (by kernel_rfl) (by kernel_rfl) (by kernel_rfl) (fun _ _ _ h => absurd h.1 (by simp)) (.inl ⟨by rfl, fun _ _ => by go_simp⟩) hHeld ?_
                        try simp only [Act.put, List.getElem_toArray, List.getElem_cons_zero, List.getElem_cons_succ, List.setIfInBounds_toArray, List.set_cons_zero, List.set_cons_succ]
                        refine wpAnyH_take (i := 9) (v := .int .i64 (q : Nat)) rfl (by kernel_rfl) (by kernel_rfl) (by kernel_rfl) (fun _ _ _ h => absurd h.1 (by simp)) (.inl ⟨by rfl, fun _ _ => by go_simp⟩) hHeld ?_
                        try simp only [Act.put, List.getElem_toArray, List.getElem_cons_zero, List.getElem_cons_succ, List.setIfInBounds_toArray, List.set_cons_zero, List.set_cons_succ]
                        refine wpAnyH_take (i := 10) (v := .pointer (some (ad.add (q * 8)))) rfl (by kernel_rfl) (by kernel_rfl) (by kernel_rfl) (fun _ _ _ h => absurd h.1 (by simp)) (.inl ⟨by rfl, fun _ _ => by go_simp⟩) hHeld ?_
                        try simp only [Act.put, List.getElem_toArray, List.getElem_cons_zero, List.getElem_cons_succ, List.setIfInBounds_toArray, List.set_cons_zero, List.set_cons_succ]
                        refine wpAnyH_take (i := 11) (v := .pointer (some (ad.add (q * 8)))) rfl (by kernel_rfl) (by kernel_rfl) (by kernel_rfl) (fun _ _ _ h => absurd h.1 (by simp)) (.inl ⟨by rfl, fun _ _ => by go_simp⟩) hHeld ?_
                        try simp only [Act.put, List.getElem_toArray, List.getElem_cons_zero, List.getElem_cons_succ, List.setIfInBounds_toArray, List.set_cons_zero, List.set_cons_succ]
                        refine wpAnyH_take (i := 12) (v := .string (at' l q).f0) rfl (by kernel_rfl) (by kernel_rfl) (by kernel_rfl) (fun _ _ _ h => absurd h.1 (by simp)) (.inl ⟨by rfl, fun X' hS => by have b := (cell_f0 (HB6.out _ hS) q hq).1; go_simp⟩) hHeld ?_
                        try simp only [Act.put, List.getElem_toArray, List.getElem_cons_zero, List.getElem_cons_succ, List.setIfInBounds_toArray, List.set_cons_zero, List.set_cons_succ]
                        rw [wl_eq]
                        refine wpAnyH_take (i := 13) (v := .agg #[.string ch, .int .u64 (vw (gw L3 0)), .int .u64 (vw (gw L3 1)), .int .u64 (vw (gw L3 2)), .int .u64 (vw (gw L3 3)), .int .i64 1, .string (at' l p).f0, .string (at' l q).f0]) rfl (by kernel_rfl) (by kernel_rfl) (by kernel_rfl) (fun _ _ _ h => absurd h.1 (by simp)) (.inl ⟨by rfl, fun _ _ => by have hwf := ws_four L3 HSL3.out; go_simp⟩) hHeld ?_
                        try simp only [Act.put, List.getElem_toArray, List.getElem_cons_zero, List.getElem_cons_succ, List.setIfInBounds_toArray, List.set_cons_zero, List.set_cons_succ]
                        refine wpAnyH_ready (rs := [14]) (by kernel_rfl) (by simp) ?_
                        refine AllReadyH.cons rfl (fun K hK => ?_) AllReadyH.nil
                        go_simp
                        have hb := below_alloc (Below.refl W0.heap.size W0) (.cells #[Value.string ch, .int .u64 (vw (gw L3 0)), .int .u64 (vw (gw L3 1)), .int .u64 (vw (gw L3 2)), .int .u64 (vw (gw L3 3)), .int .i64 1, .string (at' l p).f0, .string (at' l q).f0] 39)
                        have HN := Aside0.mk (And.intro (show Box (W0.alloc (.cells #[Value.string ch, .int .u64 (vw (gw L3 0)), .int .u64 (vw (gw L3 1)), .int .u64 (vw (gw L3 2)), .int .u64 (vw (gw L3 3)), .int .i64 1, .string (at' l p).f0, .string (at' l q).f0] 39)) W0.heap.size 39 #[Value.string ch, .int .u64 (vw (gw L3 0)), .int .u64 (vw (gw L3 1)), .int .u64 (vw (gw L3 2)), .int .u64 (vw (gw L3 3)), .int .i64 1, .string (at' l p).f0, .string (at' l q).f0] from blk_new W0 _) hHeld.size)
                        have HV := Aside0.mk (own_below HOd.out hb)
                        refine hK.out _ _ (below_step hHeld hb) (fun hHeld => ?_)
                        clear hb hK K HOd
                        generalize W0.alloc (.cells #[Value.string ch, .int .u64 (vw (gw L3 0)), .int .u64 (vw (gw L3 1)), .int .u64 (vw (gw L3 2)), .int .u64 (vw (gw L3 3)), .int .i64 1, .string (at' l p).f0, .string (at' l q).f0] 39) = X1 at *
                        generalize W0.heap.size = gn at *
                        try simp only [Act.put, List.getElem_toArray, List.getElem_cons_zero, List.getElem_cons_succ, List.setIfInBounds_toArray, List.set_cons_zero, List.set_cons_succ]
                        refine wpAnyH_ready (rs := [15]) (by kernel_rfl) (by simp) ?_
                        refine AllReadyH.cons rfl (fun K hK => ?_) AllReadyH.nil
                        rw [if_pos (by rfl)]
                        refine wp_append_own _ _ _ 22 rfl w6.heap.size 39 i0 (.agg #[.string ByteArray.empty, .int .u64 0, .int .u64 0, .int .u64 0, .int .u64 0, .int .i64 0, .string ByteArray.empty, .string ByteArray.empty]) 8 88 Try.underlying22 HIN.out.1 HIN.out.2.1 HIN.out.2.2.1 HIN.out.2.2.2 rfl (by decide) _ l.length (cells39 ((l.set p (putA (at39 l p) L1)).set q (putA (at39 (l.set p (putA (at39 l p) L1)) q) L2))) rfl HV.out ⟨gn, 0, none⟩ 1 1 (rowA (⟨ch, sw L3, 1, (at' l p).f0, (at' l q).f0⟩ : S39)).toList rfl rfl ?d1 ?d2 ?d3 ?d4 ?d5 ?_
                        case d1 => exact fun j u hu => (cell_at (x := (⟨ch, sw L3, 1, (at' l p).f0, (at' l q).f0⟩ : S39)) HN.out.1 j u hu)
                        case d2 => exact one39_row _
                        case d3 => have := HL.out.2.2.2.2; show l.length + 1 ≤ 9223372036854775807; omega
                        case d4 => have := HL.out.2.2.2.2; omega
                        try (case d5 => exact hHeld.size)
                        intro v' X9 hown hgr _
                        have hb9 : Below w6.heap.size w6 X9 := hHeld.grown hgr hHeld.size (fun k e => own_base HV.out k e)
                        rw [cells39_snoc] at hown
                        refine hK.out _ _ hb9 (fun hHeld => ?_)
                        clear hK K hgr
                        try simp only [Act.put, List.getElem_toArray, List.getElem_cons_zero, List.getElem_cons_succ, List.setIfInBounds_toArray, List.set_cons_zero, List.set_cons_succ]
                        refine wpAnyH_take (i := 16) (v := v') rfl (by kernel_rfl) (by kernel_rfl) (by kernel_rfl) (fun _ _ _ h => absurd h.1 (by simp)) (.inl ⟨by rfl, fun _ _ => by go_simp⟩) hHeld ?_
                        try simp only [Act.put, List.getElem_toArray, List.getElem_cons_zero, List.getElem_cons_succ, List.setIfInBounds_toArray, List.set_cons_zero, List.set_cons_succ]
                        refine wpAnyH_take (i := 17) (v := .int .i64 0) rfl (by kernel_rfl) (by kernel_rfl) (by kernel_rfl) (fun _ _ _ h => absurd h.1 (by simp)) (.inl ⟨by rfl, fun _ _ => by go_simp⟩) hHeld ?_
                        try simp only [Act.put, List.getElem_toArray, List.getElem_cons_zero, List.getElem_cons_succ, List.setIfInBounds_toArray, List.set_cons_zero, List.set_cons_succ]
                        refine wpAnyH_done (by kernel_rfl) ?_ _
                        refine ⟨rfl, v', gn, ?_, hHeld, hown⟩
                        rw [ws_four L3 HSL3.out]
                      case hnext =>
                        rintro _ w11 ⟨v, gn, rfl, hb11, hown⟩
                        try simp only [Act.put, List.getElem_toArray, List.getElem_cons_zero, List.getElem_cons_succ, List.setIfInBounds_toArray, List.set_cons_zero, List.set_cons_succ]
                        go_wp2_with fail
                        obtain ⟨Av, cv, rfl⟩ := own_slice hown
                        refine bodyPost_ret (v := .tuple #[.slice Av (l.length + 1) cv, .int .i64 0]) (by simp [results, Try.results12, go_sem]) rfl ⟨fun h => absurd HE.out h, fun _ => ⟨_, rfl, ?_, below_w HW6.out hb11⟩⟩
                        have hpq := HPQ.out
                        have a1 : at39 l p = at' l p := rfl
                        have a2 : at39 (l.set p (putA (at39 l p) L1)) q = at' l q := (at39_set _ _ p q hpq)
                        rw [a2, a1] at hown
                        rw [HEQ.out.2, HEQ.out.1]
                        exact own_weaken hown HW6.out.size
            · have HE := Aside0.mk (show bindE l ch p q a b = 2 by rw [bindE, if_neg hne, if_pos (.inr (.inr s3))])
              clear t1 t2 t3 hne
              go_enter Try.func12, Try.ntmps12
              go_wp2_with fail
              refine (rthere_any (some ad) c l p _ HC.out HL.out.2.2.2.1).mono ?_
              rintro e w1 ⟨rfl, ⟨nd, hw1⟩⟩
              rw [d1]
              have HC1 := Aside0.mk (show Kd.C k39 w1 (some ad) l.length l by rw [hw1]; exact Kd.C_drewN HC.out _)
              have HW1 := Aside0.mk (show Below w.heap.size w w1 by rw [hw1]; exact pw_below_drewN HT.out.2.2 _)
              have HG1 := Aside0.mk (show Holds w1 w.heap.size 25 a ∧ Holds w1 (w.heap.size + 1) 25 b by rw [hw1]; exact ⟨HT.out.1, HT.out.2.1⟩)
              clear hw1
              go_wp2_with fail
              refine (rthere_any (some ad) c l q _ HC1.out HL.out.2.2.2.1).mono ?_
              rintro e w2 ⟨rfl, ⟨nd2, hw2⟩⟩
              rw [d2]
              have HC2 := Aside0.mk (show Kd.C k39 w2 (some ad) l.length l by rw [hw2]; exact Kd.C_drewN HC1.out _)
              have HW2 := Aside0.mk (show Below w.heap.size w w2 by rw [hw2]; exact pw_below_drewN HW1.out _)
              have HG2 := Aside0.mk (show Holds w2 w.heap.size 25 a ∧ Holds w2 (w.heap.size + 1) 25 b by rw [hw2]; exact HG1.out)
              clear hw2 HC1 HW1 HG1
              obtain ⟨ad1, ea1, e0, e1, e2, e3, e4, e5, e6, e7⟩ := at_T39 HC2.out (p : Int) (by omega) (by omega)
              obtain ⟨ad2, ea2, f0, f1, f2, f3, f4, f5, f6, f7⟩ := at_T39 HC2.out (q : Int) (by omega) (by omega)
              obtain rfl := Option.some.inj ea1
              obtain rfl := Option.some.inj ea2
              clear ea1 ea2 e0 e1 e2 e3 e4 e6 e7 f0 f1 f2 f3 f4 f6 f7
              simp only [Int.toNat_natCast] at e5 f5
              change _ = some (Value.int .i64 (at' l p).f2) at e5
              change _ = some (Value.int .i64 (at' l q).f2) at f5
              generalize (at' l p).f2 = kp at *
              generalize (at' l q).f2 = kq at *
              have i1 : decide ((p : Int) < l.length) = true := decide_eq_true (by omega)
              have i2 : decide ((q : Int) < l.length) = true := decide_eq_true (by omega)
              have sb : (kq != 0) = true := bne_iff_ne.2 s3
              subst s2
              go_wp2_with fail
              exact bodyPost_ret (v := .tuple #[.slice (some ad) l.length c, .int .i64 2]) (by simp [results, Try.results12, go_sem]) rfl ⟨fun _ => ⟨by rw [HE.out], HW2.out⟩, fun h => absurd (HE.out.symm.trans h) (by decide)⟩
          · have HE := Aside0.mk (show bindE l ch p q a b = 2 by rw [bindE, if_neg hne, if_pos (.inr (.inl s2))])
            clear t1 t2 t3 hne
            go_enter Try.func12, Try.ntmps12
            go_wp2_with fail
            refine (rthere_any (some ad) c l p _ HC.out HL.out.2.2.2.1).mono ?_
            rintro e w1 ⟨rfl, ⟨nd, hw1⟩⟩
            rw [d1]
            have HC1 := Aside0.mk (show Kd.C k39 w1 (some ad) l.length l by rw [hw1]; exact Kd.C_drewN HC.out _)
            have HW1 := Aside0.mk (show Below w.heap.size w w1 by rw [hw1]; exact pw_below_drewN HT.out.2.2 _)
            have HG1 := Aside0.mk (show Holds w1 w.heap.size 25 a ∧ Holds w1 (w.heap.size + 1) 25 b by rw [hw1]; exact ⟨HT.out.1, HT.out.2.1⟩)
            clear hw1
            go_wp2_with fail
            refine (rthere_any (some ad) c l q _ HC1.out HL.out.2.2.2.1).mono ?_
            rintro e w2 ⟨rfl, ⟨nd2, hw2⟩⟩
            rw [d2]
            have HC2 := Aside0.mk (show Kd.C k39 w2 (some ad) l.length l by rw [hw2]; exact Kd.C_drewN HC1.out _)
            have HW2 := Aside0.mk (show Below w.heap.size w w2 by rw [hw2]; exact pw_below_drewN HW1.out _)
            have HG2 := Aside0.mk (show Holds w2 w.heap.size 25 a ∧ Holds w2 (w.heap.size + 1) 25 b by rw [hw2]; exact HG1.out)
            clear hw2 HC1 HW1 HG1
            obtain ⟨ad1, ea1, e0, e1, e2, e3, e4, e5, e6, e7⟩ := at_T39 HC2.out (p : Int) (by omega) (by omega)
            obtain ⟨ad2, ea2, f0, f1, f2, f3, f4, f5, f6, f7⟩ := at_T39 HC2.out (q : Int) (by omega) (by omega)
            obtain rfl := Option.some.inj ea1
            obtain rfl := Option.some.inj ea2
            clear ea1 ea2 e0 e1 e2 e3 e4 e6 e7 f0 f1 f2 f3 f4 f6 f7
            simp only [Int.toNat_natCast] at e5 f5
            change _ = some (Value.int .i64 (at' l p).f2) at e5
            change _ = some (Value.int .i64 (at' l q).f2) at f5
            generalize (at' l p).f2 = kp at *
            generalize (at' l q).f2 = kq at *
            have i1 : decide ((p : Int) < l.length) = true := decide_eq_true (by omega)
            have i2 : decide ((q : Int) < l.length) = true := decide_eq_true (by omega)
            have sb : (kp != 0) = true := bne_iff_ne.2 s2
            go_wp2_with fail
            exact bodyPost_ret (v := .tuple #[.slice (some ad) l.length c, .int .i64 2]) (by simp [results, Try.results12, go_sem]) rfl ⟨fun _ => ⟨by rw [HE.out], HW2.out⟩, fun h => absurd (HE.out.symm.trans h) (by decide)⟩
        · have HE := Aside0.mk (show bindE l ch p q a b = 2 by rw [bindE, if_neg hne, if_pos (.inl s1)])
          clear t1 t2 t3 hne
          go_enter Try.func12, Try.ntmps12
          go_wp2_with fail
          refine (rthere_any (some ad) c l p _ HC.out HL.out.2.2.2.1).mono ?_
          rintro e w1 ⟨rfl, ⟨nd, hw1⟩⟩
          rw [d1]
          have HC1 := Aside0.mk (show Kd.C k39 w1 (some ad) l.length l by rw [hw1]; exact Kd.C_drewN HC.out _)
          have HW1 := Aside0.mk (show Below w.heap.size w w1 by rw [hw1]; exact pw_below_drewN HT.out.2.2 _)
          have HG1 := Aside0.mk (show Holds w1 w.heap.size 25 a ∧ Holds w1 (w.heap.size + 1) 25 b by rw [hw1]; exact ⟨HT.out.1, HT.out.2.1⟩)
          clear hw1
          go_wp2_with fail
          refine (rthere_any (some ad) c l q _ HC1.out HL.out.2.2.2.1).mono ?_
          rintro e w2 ⟨rfl, ⟨nd2, hw2⟩⟩
          rw [d2]
          have HC2 := Aside0.mk (show Kd.C k39 w2 (some ad) l.length l by rw [hw2]; exact Kd.C_drewN HC1.out _)
          have HW2 := Aside0.mk (show Below w.heap.size w w2 by rw [hw2]; exact pw_below_drewN HW1.out _)
          have HG2 := Aside0.mk (show Holds w2 w.heap.size 25 a ∧ Holds w2 (w.heap.size + 1) 25 b by rw [hw2]; exact HG1.out)
          clear hw2 HC1 HW1 HG1
          go_wp2_with fail
          exact bodyPost_ret (v := .tuple #[.slice (some ad) l.length c, .int .i64 2]) (by simp [results, Try.results12, go_sem]) rfl ⟨fun _ => ⟨by rw [HE.out], HW2.out⟩, fun h => absurd (HE.out.symm.trans h) (by decide)⟩
    · have d2 := decide_eq_false t2
      have HE := Aside0.mk (show bindE l ch i j a b = 3 by rw [bindE, if_pos (.inr (.inl t2))])
      clear t1 t2
      go_enter Try.func12, Try.ntmps12
      go_wp2_with fail
      refine (rthere_any A c l i _ HC.out HL.out.2.2.2.1).mono ?_
      rintro e w1 ⟨rfl, ⟨nd, hw1⟩⟩
      rw [d1]
      have HC1 := Aside0.mk (show Kd.C k39 w1 A l.length l by rw [hw1]; exact Kd.C_drewN HC.out _)
      have HW1 := Aside0.mk (show Below w.heap.size w w1 by rw [hw1]; exact pw_below_drewN HT.out.2.2 _)
      have HG1 := Aside0.mk (show Holds w1 w.heap.size 25 a ∧ Holds w1 (w.heap.size + 1) 25 b by rw [hw1]; exact ⟨HT.out.1, HT.out.2.1⟩)
      clear hw1
      go_wp2_with fail
      refine (rthere_any A c l j _ HC1.out HL.out.2.2.2.1).mono ?_
      rintro e w2 ⟨rfl, ⟨nd2, hw2⟩⟩
      rw [d2]
      have HC2 := Aside0.mk (show Kd.C k39 w2 A l.length l by rw [hw2]; exact Kd.C_drewN HC1.out _)
      have HW2 := Aside0.mk (show Below w.heap.size w w2 by rw [hw2]; exact pw_below_drewN HW1.out _)
      have HG2 := Aside0.mk (show Holds w2 w.heap.size 25 a ∧ Holds w2 (w.heap.size + 1) 25 b by rw [hw2]; exact HG1.out)
      clear hw2 HC1 HW1 HG1
      go_wp2_with fail
      exact bodyPost_ret (v := .tuple #[.slice A l.length c, .int .i64 3]) (by simp [results, Try.results12, go_sem]) rfl ⟨fun _ => ⟨by rw [HE.out], HW2.out⟩, fun h => absurd (HE.out.symm.trans h) (by decide)⟩
  · have d1 := decide_eq_false t1
    have HE := Aside0.mk (show bindE l ch i j a b = 3 by rw [bindE, if_pos (.inl t1)])
    clear t1
    go_enter Try.func12, Try.ntmps12
    go_wp2_with fail
    refine (rthere_any A c l i _ HC.out HL.out.2.2.2.1).mono ?_
    rintro e w1 ⟨rfl, ⟨nd, hw1⟩⟩
    rw [d1]
    have HC1 := Aside0.mk (show Kd.C k39 w1 A l.length l by rw [hw1]; exact Kd.C_drewN HC.out _)
    have HW1 := Aside0.mk (show Below w.heap.size w w1 by rw [hw1]; exact pw_below_drewN HT.out.2.2 _)
    have HG1 := Aside0.mk (show Holds w1 w.heap.size 25 a ∧ Holds w1 (w.heap.size + 1) 25 b by rw [hw1]; exact ⟨HT.out.1, HT.out.2.1⟩)
    clear hw1
    go_wp2_with fail
    go_wp2_with fail
    exact bodyPost_ret (v := .tuple #[.slice A l.length c, .int .i64 3]) (by simp [results, Try.results12, go_sem]) rfl ⟨fun _ => ⟨by rw [HE.out], HW1.out⟩, fun h => absurd (HE.out.symm.trans h) (by decide)⟩
end Go.Proofs.Ytlkecihibmndbaa.P
