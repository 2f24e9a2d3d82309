import Derived.Test.YtlkecihibmndbaaClaimF
import Derived.Test.YtlkecihibmndbaaPclaimthere
import Derived.Test.YtlkecihibmndbaaHeldIn
namespace Go.Proofs.Ytlkecihibmndbaa.P
set_option linter.unusedVariables false
set_option linter.unusedSimpArgs false
open Go.RowKit Go.Shelf Go.Proofs.YtlkecihibmndbaaW.PrintWords
attribute [local go_sem] Oper.semAt_some
theorem there_any (A : Option Addr) (c : Nat) (l : List S39) (k : Int) (w : World) (hC : Kd.C k39 w A l.length l) (hlen : l.length ≤ c) :
    Calls Try.prog 24 #[.slice A l.length c, .int .i64 k] w fun e w' => e = .returned (.bool (decide (isThere l.length k))) ∧ Drawn0 w w' := by
  refine claim_there.calls A c l k _ w hC hlen ?_
  unfold claim_there.f isThere
  by_cases h : 0 ≤ k
  · rw [if_pos h]; congr 1; simp [h]
  · rw [if_neg h]; congr 1; simp [h]
/-- A region that ends in good order: what it leaves is told by what it found. -/
theorem wp_put {P : Program} {c : Code} {K : Exit → Act → World → Prop} {a : Act} {w : World} (Good : Act → Act → World → Prop) (h : c.wp P (fun e a' w' => e = .normal ∧ Good a a' w') a w) (hn : ∀ a' w', Good a a' w' → K .normal a' w') : c.wp P K a w :=
  Code.wp_mono (fun e a' w' hh => by obtain ⟨rfl, h2⟩ := hh; exact hn a' w' h2) h
theorem range_am {W : World} {ad : Addr} {n : Nat} {l : List S39} (hC : Kd.C k39 W (some ad) n l) (hl : okL l) (p : Nat) (hp : p < n) : W.rangeAt (ad.add (p * 8)).block ((ad.add (p * 8)).off + 1) (wl (am (at' l p))) := by
  obtain ⟨ad1, ea1, e0, e1, e2, e3, e4, _⟩ := at_T39 hC (p : Int) (by omega) (by omega)
  obtain rfl := Option.some.inj ea1
  simp only [Int.toNat_natCast] at e1 e2 e3 e4
  have hok : okA (at' l p) := hl _ (at39_mem (l := l) (k := (p : Int).toNat) (by rw [← hC.1] at hp; simpa using hp))
  have hw : (wl (am (at' l p))) = [.int .u64 (at' l p).f1.f0, .int .u64 (at' l p).f1.f1, .int .u64 (at' l p).f1.f2, .int .u64 (at' l p).f1.f3] := by
    obtain ⟨h0, h1, h2, h3⟩ := hok
    simp [wl, am, wl4, vw_ofInt _ h0, vw_ofInt _ h1, vw_ofInt _ h2, vw_ofInt _ h3]
  rw [hw]
  intro j v hj
  match j, hj with
  | 0, hj => obtain rfl := Option.some.inj hj; exact e1
  | 1, hj => obtain rfl := Option.some.inj hj; exact e2
  | 2, hj => obtain rfl := Option.some.inj hj; exact e3
  | 3, hj => obtain rfl := Option.some.inj hj; exact e4
theorem cell_f0 {W : World} {ad : Addr} {n : Nat} {l : List S39} (hC : Kd.C k39 W (some ad) n l) (p : Nat) (hp : p < n) : W.cell? (ad.add (p * 8)) = some (.string (at' l p).f0) ∧ True := by
  obtain ⟨ad1, ea1, e0, _⟩ := at_T39 hC (p : Int) (by omega) (by omega)
  obtain rfl := Option.some.inj ea1
  simp only [Int.toNat_natCast] at e0
  exact ⟨e0, trivial⟩
theorem cell_at {W : World} {g : Nat} {x : S39} (h : Box W g 39 (rowA x)) (j : Nat) (u : Value) (hu : (rowA x).toList[j]? = some u) : W.cell? ((⟨g, 0, none⟩ : Addr).add j) = some u := by
  rw [Addr.add_mid, Nat.zero_add]
  exact h.cell j u (by simpa using hu)
theorem one39_row (x : S39) : ∀ u ∈ (rowA x).toList, u.oneCell' = true := fun u hu => one39 [x] u (by simpa [cells39] using hu)
theorem cells39_snoc (l : List S39) (x : S39) : cells39 l ++ (rowA x).toList = cells39 (l ++ [x]) := by simp [cells39]
theorem at39_app (l r : List S39) (k : Nat) (hk : k < l.length) : at39 (l ++ r) k = at39 l k := by
  rw [at39_get (by rw [List.length_append]; omega), at39_get hk, List.getElem_append_left hk]
theorem at39_set (l : List S39) (x : S39) (k j : Nat) (h : k ≠ j) : at39 (l.set k x) j = at39 l j := by
  simp only [at39, List.getD_eq_getElem?_getD, List.getElem?_set_ne h]
theorem split39 (LL : List S39) (p : Nat) (hp : p < LL.length) : LL = LL.take p ++ at39 LL p :: LL.drop (p + 1) := by
  rw [at39_get hp, ← List.drop_eq_getElem_cons hp, List.take_append_drop]
/-- The amount at a place of an own row, and what a store there leaves. -/
theorem own_put4 {W : World} {base go cap n : Nat} {LL : List S39} (h : W.ownsRow base 39 8 (.slice (some ⟨go, 0, none⟩) n cap) n (cells39 LL)) (p : Nat) (hp : p < LL.length) (D : List W64) :
    (W.cell? ⟨go, p * 8 + 1, none⟩ = some (.int .u64 (at39 LL p).f1.f0) ∧ W.frozen? ⟨go, p * 8 + 1, none⟩ = false) ∧ (W.cell? ⟨go, p * 8 + 1 + 1, none⟩ = some (.int .u64 (at39 LL p).f1.f1) ∧ W.frozen? ⟨go, p * 8 + 1 + 1, none⟩ = false) ∧
    (W.cell? ⟨go, p * 8 + 1 + 2, none⟩ = some (.int .u64 (at39 LL p).f1.f2) ∧ W.frozen? ⟨go, p * 8 + 1 + 2, none⟩ = false) ∧ (W.cell? ⟨go, p * 8 + 1 + 3, none⟩ = some (.int .u64 (at39 LL p).f1.f3) ∧ W.frozen? ⟨go, p * 8 + 1 + 3, none⟩ = false) ∧
    ((((W.setCell ⟨go, p * 8 + 1, none⟩ (.int .u64 (vw (gw D 0)))).setCell ⟨go, p * 8 + 1 + 1, none⟩ (.int .u64 (vw (gw D 1)))).setCell ⟨go, p * 8 + 1 + 2, none⟩ (.int .u64 (vw (gw D 2)))).setCell ⟨go, p * 8 + 1 + 3, none⟩ (.int .u64 (vw (gw D 3)))).ownsRow base 39 8 (.slice (some ⟨go, 0, none⟩) n cap) n (cells39 (LL.set p (putA (at39 LL p) D))) := by
  have hs := split39 LL p hp
  have hl : (LL.take p).length = p := by rw [List.length_take]; omega
  have hset : LL.set p (putA (at39 LL p) D) = LL.take p ++ putA (at39 LL p) D :: LL.drop (p + 1) := by
    rw [List.set_eq_take_append_cons_drop, if_pos hp]
  rw [hset]
  generalize LL.take p = L1 at *
  generalize LL.drop (p + 1) = L2 at *
  generalize at39 LL p = x at *
  subst hs
  have c := fun i u hu => own_cell h (p * 8 + i) u (by have := cells39_at L1 L2 x i u hu; rwa [hl] at this)
  refine ⟨c 1 _ rfl, c 2 _ rfl, c 3 _ rfl, c 4 _ rfl, ?_⟩
  have ho := own_write (own_write (own_write (own_write h (p * 8 + 1) (.int .u64 (vw (gw D 0)))) (p * 8 + 1 + 1) (.int .u64 (vw (gw D 1)))) (p * 8 + 1 + 2) (.int .u64 (vw (gw D 2)))) (p * 8 + 1 + 3) (.int .u64 (vw (gw D 3)))
  have hcp := cells39_put L1 L2 x D
  rw [hl] at hcp
  rw [hcp] at ho
  exact ho
set_option maxRecDepth 100000 in
set_option maxHeartbeats 4000000 in
theorem bind_any (ch : ByteArray) (i j : Int) (a b : List W64) (ha : a.length = 4) (hb : b.length = 4) (l : List S39) (hl : okL l) (A : Option Addr) (c : Nat) (w : World) (hC : Kd.C k39 w A l.length l) (hlen : l.length ≤ c) (hl1 : l.length ≤ 1000) :
    Calls Try.prog 11 #[.slice A l.length c, .string ch, .int .i64 i, .int .i64 j, .agg (ws a), .agg (ws b)] w fun e w' =>
      (bindE l ch i j a b ≠ 0 → e = .returned (.tuple #[.slice A l.length c, .int .i64 (bindE l ch i j a b)]) ∧ Below w.heap.size w w') ∧
      (bindE l ch i j a b = 0 → ∃ v, e = .returned (.tuple #[v, .int .i64 0]) ∧ w'.ownsRow w.heap.size 39 8 v (l.length + 1) (cells39 (bindL l ch i j a b)) ∧ Below w.heap.size w w') := by
  have HL := Aside0.mk (And.intro ha (And.intro hb (And.intro hl (And.intro hlen hl1))))
  have T := two w (.cells (ws a) 25) (.cells (ws b) 25)
  have HT := Aside0.mk T
  have Hi25 := Aside0.mk (show (Try.prog.info? 25).map (·.size) = some 4 by kernel_rfl)
  have HC := Aside0.mk (Kd.C_below hC T.2.2)
  have HC0 := Aside0.mk hC
  clear ha hb hl hlen hl1 T hC
  by_cases t1 : isThere l.length i
  · have d1 := decide_eq_true t1
    by_cases t2 : isThere l.length j
    · have d2 := decide_eq_true t2
      by_cases t3 : i = j
      · have d3 : (i == j) = true := beq_iff_eq.2 t3
        have HE := Aside0.mk (show bindE l ch i j a b = 3 by rw [bindE, if_pos (.inr (.inr t3))])
        clear t1 t2 t3
        go_enter Try.func11, Try.ntmps11
        go_wp2_with fail
        refine (there_any A c l i _ HC.out HL.out.2.2.2.1).mono ?_
        rintro e w1 ⟨rfl, ⟨nd, hw1⟩⟩
        rw [d1]
        have HC1 := Aside0.mk (show Kd.C k39 w1 A l.length l by rw [hw1]; exact Kd.C_drewN HC.out _)
        have HW1 := Aside0.mk (show Below w.heap.size w w1 by rw [hw1]; exact pw_below_drewN HT.out.2.2 _)
        have HG1 := Aside0.mk (show Holds w1 w.heap.size 25 a ∧ Holds w1 (w.heap.size + 1) 25 b by rw [hw1]; exact ⟨HT.out.1, HT.out.2.1⟩)
        clear hw1
        go_wp2_with fail
        refine (there_any A c l j _ HC1.out HL.out.2.2.2.1).mono ?_
        rintro e w2 ⟨rfl, ⟨nd2, hw2⟩⟩
        rw [d2]
        have HC2 := Aside0.mk (show Kd.C k39 w2 A l.length l by rw [hw2]; exact Kd.C_drewN HC1.out _)
        have HW2 := Aside0.mk (show Below w.heap.size w w2 by rw [hw2]; exact pw_below_drewN HW1.out _)
        have HG2 := Aside0.mk (show Holds w2 w.heap.size 25 a ∧ Holds w2 (w.heap.size + 1) 25 b by rw [hw2]; exact HG1.out)
        clear hw2 HC1 HW1 HG1
        go_wp2_with fail
        exact bodyPost_ret (v := .tuple #[.slice A l.length c, .int .i64 3]) (by simp [results, Try.results11, go_sem]) rfl ⟨fun _ => ⟨by rw [HE.out], HW2.out⟩, fun h => absurd (HE.out.symm.trans h) (by decide)⟩
      · have d3 : (i == j) = false := beq_eq_false_iff_ne.2 t3
        have hne : ¬ (¬ isThere l.length i ∨ ¬ isThere l.length j ∨ i = j) := fun h => h.elim (fun h => h t1) (fun h => h.elim (fun h => h t2) t3)
        obtain ⟨p, rfl⟩ : ∃ p : Nat, i = p := ⟨i.toNat, by have := t1.1; omega⟩
        obtain ⟨q, rfl⟩ : ∃ q : Nat, j = q := ⟨j.toNat, by have := t2.1; omega⟩
        have hp : p < l.length := by have := t1.2; omega
        have hq : q < l.length := by have := t2.2; omega
        obtain ⟨ad, hA, _⟩ := HC0.out.2.2 (by omega)
        subst hA
        by_cases s1 : ch.size = 32
        · have s1i : (ch.size : Int) = 32 := by omega
          by_cases s2 : (at' l p).f2 = 0
          · by_cases s3 : (at' l q).f2 = 0
            · have hz := And.intro s2 s3
              have HE := Aside0.mk (show bindE l ch p q a b = if (subk (am (at' l p)) a 4).2 = 1 ∨ (subk (am (at' l q)) b 4).2 = 1 then 16 else if (addk a b 4).2 = 1 then 7 else if 8 ≤ l.length then 8 else 0 by rw [bindE, if_neg hne, if_neg (fun h => h.elim (fun h => h s1) (fun h => h.elim (fun h => h s2) (fun h => h s3)))])
              have HPQ := Aside0.mk (show p ≠ q from fun e => t3 (by rw [e]))
              clear t1 t2 t3 hne hz
              go_enter Try.func11, Try.ntmps11
              go_wp2_with fail
              refine (there_any (some ad) c l p _ HC.out HL.out.2.2.2.1).mono ?_
              rintro e w1 ⟨rfl, ⟨nd, hw1⟩⟩
              rw [d1]
              have HC1 := Aside0.mk (show Kd.C k39 w1 (some ad) l.length l by rw [hw1]; exact Kd.C_drewN HC.out _)
              have HW1 := Aside0.mk (show Below w.heap.size w w1 by rw [hw1]; exact pw_below_drewN HT.out.2.2 _)
              have HG1 := Aside0.mk (show Holds w1 w.heap.size 25 a ∧ Holds w1 (w.heap.size + 1) 25 b by rw [hw1]; exact ⟨HT.out.1, HT.out.2.1⟩)
              clear hw1
              go_wp2_with fail
              refine (there_any (some ad) c l q _ HC1.out HL.out.2.2.2.1).mono ?_
              rintro e w2 ⟨rfl, ⟨nd2, hw2⟩⟩
              rw [d2]
              have HC2 := Aside0.mk (show Kd.C k39 w2 (some ad) l.length l by rw [hw2]; exact Kd.C_drewN HC1.out _)
              have HW2 := Aside0.mk (show Below w.heap.size w w2 by rw [hw2]; exact pw_below_drewN HW1.out _)
              have HG2 := Aside0.mk (show Holds w2 w.heap.size 25 a ∧ Holds w2 (w.heap.size + 1) 25 b by rw [hw2]; exact HG1.out)
              clear hw2 HC1 HW1 HG1
              obtain ⟨ad1, ea1, e0, e1, e2, e3, e4, e5, e6, e7⟩ := at_T39 HC2.out (p : Int) (by omega) (by omega)
              obtain ⟨ad2, ea2, f0, f1, f2, f3, f4, f5, f6, f7⟩ := at_T39 HC2.out (q : Int) (by omega) (by omega)
              obtain rfl := Option.some.inj ea1
              obtain rfl := Option.some.inj ea2
              clear ea1 ea2 e0 e1 e2 e3 e4 e6 e7 f0 f1 f2 f3 f4 f6 f7
              simp only [Int.toNat_natCast] at e5 f5
              change _ = some (Value.int .i64 (at' l p).f2) at e5
              change _ = some (Value.int .i64 (at' l q).f2) at f5
              generalize (at' l p).f2 = kp at *
              generalize (at' l q).f2 = kq at *
              have i1 : decide ((p : Int) < l.length) = true := decide_eq_true (by omega)
              have i2 : decide ((q : Int) < l.length) = true := decide_eq_true (by omega)
              subst s2 s3
              go_wp2_with fail
              have HB := Aside0.mk (fun (X : World) (hX : Below w2.heap.size w2 X) => Kd.C_below HC2.out hX)
              have HSL1 := Aside0.mk (show (subk (am (at' l p)) a 4).1.length = 4 by rw [subk_len]; exact rfl)
              have HSB1 := Aside0.mk (fun W => sub_any (am (at' l p)) a rfl HL.out.1 W)
              have HSL2 := Aside0.mk (show (subk (am (at' l q)) b 4).1.length = 4 by rw [subk_len]; exact rfl)
              have HSB2 := Aside0.mk (fun W => sub_any (am (at' l q)) b rfl HL.out.2.1 W)
              have HSL3 := Aside0.mk (show (addk a b 4).1.length = 4 by rw [addk_len]; exact HL.out.1)
              have HSB3 := Aside0.mk (fun W => add_any a b HL.out.1 HL.out.2.1 W)
              have HEQ := Aside0.mk (show newA l ch p q a b = ⟨ch, sw (addk a b 4).1, 1, (at' l p).f0, (at' l q).f0⟩ ∧ bindL l ch p q a b = ((l.set p (putA (at' l p) (subk (am (at' l p)) a 4).1)).set q (putA (at' l q) (subk (am (at' l q)) b 4).1)) ++ [newA l ch p q a b] from ⟨rfl, rfl⟩)
              generalize subk (am (at' l p)) a 4 = S1 at *
              generalize subk (am (at' l q)) b 4 = S2 at *
              generalize addk a b 4 = S3 at *
              obtain ⟨L1, u1⟩ := S1
              obtain ⟨L2, u2⟩ := S2
              obtain ⟨L3, u3⟩ := S3
              simp only at HE HEQ HSL1 HSL2 HSL3 HSB1 HSB2 HSB3
              refine wp_put (fun a0 a' w' => ∃ g, a' = ((((((((((((a0.put (some 60) (.slice (some ad) l.length c)).put (some 61) (.int .i64 (p : Nat))).put (some 62) (.pointer (some (ad.add (p * 8))))).put (some 63) (.pointer (some ⟨(ad.add (p * 8)).block, (ad.add (p * 8)).off + 1, none⟩))).put (some 64) (.agg (ws (am (at' l p))))).put (some 65) (.agg (ws a))).put (some 66) (.tuple #[.agg (ws L1), .bool (decide (u1 = 1))])).put (some 59) (.tuple #[.agg (ws L1), .bool (decide (u1 = 1))])).put (some 67) (.agg (ws L1))).put (some 68) (.bool (decide (u1 = 1)))).put (some 14) (.pointer (some ⟨g, 0, none⟩))).put (some 15) (.bool (decide (u1 = 1)))) ∧ Below w2.heap.size w2 w' ∧ w2.heap.size ≤ g ∧ Holds w' g 25 L1) ?hreg ?hnext
              case hreg =>
                refine wp_region_held_drew (S := fun X => Below w2.heap.size w2 X) (by kernel_rfl) (below_drew1 (Below.refl _ _)) (fun hHeld => ?_)
                generalize w2.drew = W0 at *
                try simp only [Act.put, List.getElem_toArray, List.getElem_cons_zero, List.getElem_cons_succ, List.setIfInBounds_toArray, List.set_cons_zero, List.set_cons_succ]
                refine wpAnyH_take (i := 0) (v := .slice (some ad) l.length c) rfl (by kernel_rfl) (by kernel_rfl) (by kernel_rfl) (fun _ _ _ h => absurd h.1 (by simp)) (.inl ⟨by rfl, fun _ _ => by go_simp⟩) hHeld ?_
                try simp only [Act.put, List.getElem_toArray, List.getElem_cons_zero, List.getElem_cons_succ, List.setIfInBounds_toArray, List.set_cons_zero, List.set_cons_succ]
                refine wpAnyH_take (i := 1) (v := .int .i64 (p : Nat)) rfl (by kernel_rfl) (by kernel_rfl) (by kernel_rfl) (fun _ _ _ h => absurd h.1 (by simp)) (.inl ⟨by rfl, fun _ _ => by go_simp⟩) hHeld ?_
                try simp only [Act.put, List.getElem_toArray, List.getElem_cons_zero, List.getElem_cons_succ, List.setIfInBounds_toArray, List.set_cons_zero, List.set_cons_succ]
                refine wpAnyH_take (i := 2) (v := .pointer (some (ad.add (p * 8)))) rfl (by kernel_rfl) (by kernel_rfl) (by kernel_rfl) (fun _ _ _ h => absurd h.1 (by simp)) (.inl ⟨by rfl, fun _ _ => by go_simp⟩) hHeld ?_
                try simp only [Act.put, List.getElem_toArray, List.getElem_cons_zero, List.getElem_cons_succ, List.setIfInBounds_toArray, List.set_cons_zero, List.set_cons_succ]
                refine wpAnyH_take (i := 3) (v := .pointer (some ⟨(ad.add (p * 8)).block, (ad.add (p * 8)).off + 1, none⟩)) rfl (by kernel_rfl) (by kernel_rfl) (by kernel_rfl) (fun _ _ _ h => absurd h.1 (by simp)) (.inl ⟨by rfl, fun _ _ => by go_simp⟩) hHeld ?_
                try simp only [Act.put, List.getElem_toArray, List.getElem_cons_zero, List.getElem_cons_succ, List.setIfInBounds_toArray, List.set_cons_zero, List.set_cons_succ]
                refine wpAnyH_take (i := 4) (v := .agg (wl (am (at' l p))).toArray) rfl (by kernel_rfl) (by kernel_rfl) (by kernel_rfl) (fun _ _ _ h => absurd h.1 (by simp)) (yieldsIf_load_mid rfl 25 _ rfl _ _ rfl (wl (am (at' l p))) _ (fun X' hS => range_am (HB.out _ hS) HL.out.2.2.1 p hp) Try.underlying25 rfl (by rw [Hi25.out]; rfl)) hHeld ?_
                try simp only [Act.put, List.getElem_toArray, List.getElem_cons_zero, List.getElem_cons_succ, List.setIfInBounds_toArray, List.set_cons_zero, List.set_cons_succ]
                refine wpAnyH_take (i := 5) (v := .agg (wl a).toArray) rfl (by kernel_rfl) (by kernel_rfl) (by kernel_rfl) (fun _ _ _ h => absurd h.1 (by simp)) (yieldsIf_load_mid rfl 25 _ rfl w.heap.size 0 rfl (wl a) _ (fun X' hS => range_of (Holds.below HG2.out.1 hS)) Try.underlying25 rfl (by rw [Hi25.out, wl, List.length_map, HL.out.1])) hHeld ?_
                try simp only [Act.put, List.getElem_toArray, List.getElem_cons_zero, List.getElem_cons_succ, List.setIfInBounds_toArray, List.set_cons_zero, List.set_cons_succ]
                rw [wl_eq, wl_eq]
                refine wpAnyH_ready (rs := [6, 10]) (by kernel_rfl) (by simp) ?_
                refine AllReadyH.cons rfl (fun K hK => ?_) ?_
                · go_simp
                  refine (HSB1.out _).mono ?_
                  rintro e X1 ⟨rfl, hb⟩
                  refine hK.out _ _ (below_step hHeld hb) (fun hHeld => ?_)
                  clear hb hK K
                  try simp only [Act.put, List.getElem_toArray, List.getElem_cons_zero, List.getElem_cons_succ, List.setIfInBounds_toArray, List.set_cons_zero, List.set_cons_succ]
                  refine wpAnyH_take (i := 7) (v := .tuple #[.agg (ws L1), .bool (decide (u1 = 1))]) rfl (by kernel_rfl) (by kernel_rfl) (by kernel_rfl) (fun _ _ _ h => absurd h.1 (by simp)) (.inl ⟨by rfl, fun _ _ => by go_simp⟩) hHeld ?_
                  try simp only [Act.put, List.getElem_toArray, List.getElem_cons_zero, List.getElem_cons_succ, List.setIfInBounds_toArray, List.set_cons_zero, List.set_cons_succ]
                  refine wpAnyH_take (i := 8) (v := .agg (ws L1)) rfl (by kernel_rfl) (by kernel_rfl) (by kernel_rfl) (fun _ _ _ h => absurd h.1 (by simp)) (.inl ⟨by rfl, fun _ _ => by go_simp⟩) hHeld ?_
                  try simp only [Act.put, List.getElem_toArray, List.getElem_cons_zero, List.getElem_cons_succ, List.setIfInBounds_toArray, List.set_cons_zero, List.set_cons_succ]
                  refine wpAnyH_take (i := 9) (v := .bool (decide (u1 = 1))) rfl (by kernel_rfl) (by kernel_rfl) (by kernel_rfl) (fun _ _ _ h => absurd h.1 (by simp)) (.inl ⟨by rfl, fun _ _ => by go_simp⟩) hHeld ?_
                  try simp only [Act.put, List.getElem_toArray, List.getElem_cons_zero, List.getElem_cons_succ, List.setIfInBounds_toArray, List.set_cons_zero, List.set_cons_succ]
                  refine wpAnyH_ready (rs := [10]) (by kernel_rfl) (by simp) ?_
                  refine AllReadyH.cons rfl (fun K hK => ?_) AllReadyH.nil
                  go_simp
                  have hb := below_alloc (Below.refl X1.heap.size X1) (.cells #[Value.int .u64 0, .int .u64 0, .int .u64 0, .int .u64 0] 25)
                  have H14 := Aside0.mk (And.intro (show Holds (X1.alloc (.cells #[Value.int .u64 0, .int .u64 0, .int .u64 0, .int .u64 0] 25)) X1.heap.size 25 (List.replicate 4 0) from blk_new X1 _) hHeld.size)
                  refine hK.out _ _ (below_step hHeld hb) (fun hHeld => ?_)
                  clear hb hK K
                  generalize X1.alloc _ = X2 at *
                  generalize X1.heap.size = g14 at *
                  try simp only [Act.put, List.getElem_toArray, List.getElem_cons_zero, List.getElem_cons_succ, List.setIfInBounds_toArray, List.set_cons_zero, List.set_cons_succ]
                  have hx := H14.out.1
                  have z0 := hx.cell 0 (by simp)
                  have y0 := hx.free 0
                  have z1 := hx.cell 1 (by simp)
                  have y1 := hx.free 1
                  have z2 := hx.cell 2 (by simp)
                  have y2 := hx.free 2
                  have z3 := hx.cell 3 (by simp)
                  have y3 := hx.free 3
                  clear hx
                  have hwf := ws_four L1 HSL1.out
                  refine wpAnyH_ready (rs := [11]) (by kernel_rfl) (by simp) ?_
                  refine AllReadyH.cons rfl (fun K hK => ?_) AllReadyH.nil
                  go_simp
                  have n14 := H14.out.2
                  refine hK.out _ _ (below_set (below_set (below_set (below_set hHeld n14) n14) n14) n14) (fun hHeld => ?_)
                  clear hK K z0 z1 z2 z3 y0 y1 y2 y3 hwf
                  have H14' := Aside0.mk (set_four (L := List.replicate 4 0) (H := L1) rfl HSL1.out H14.out.1)
                  try simp only [Act.put, List.getElem_toArray, List.getElem_cons_zero, List.getElem_cons_succ, List.setIfInBounds_toArray, List.set_cons_zero, List.set_cons_succ]
                  refine wpAnyH_take (i := 12) (v := .bool (decide (u1 = 1))) rfl (by kernel_rfl) (by kernel_rfl) (by kernel_rfl) (fun _ _ _ h => absurd h.1 (by simp)) (.inl ⟨by rfl, fun _ _ => by go_simp⟩) hHeld ?_
                  try simp only [Act.put, List.getElem_toArray, List.getElem_cons_zero, List.getElem_cons_succ, List.setIfInBounds_toArray, List.set_cons_zero, List.set_cons_succ]
                  refine wpAnyH_done (by kernel_rfl) ?_ _
                  refine ⟨rfl, g14, ?_, hHeld, n14, H14'.out⟩
                  rw [ws_four L1 HSL1.out]
                refine AllReadyH.cons rfl (fun K hK => ?_) AllReadyH.nil
                go_simp
                have hb := below_alloc (Below.refl W0.heap.size W0) (.cells #[Value.int .u64 0, .int .u64 0, .int .u64 0, .int .u64 0] 25)
                have H14 := Aside0.mk (And.intro (show Holds (W0.alloc (.cells #[Value.int .u64 0, .int .u64 0, .int .u64 0, .int .u64 0] 25)) W0.heap.size 25 (List.replicate 4 0) from blk_new W0 _) hHeld.size)
                refine hK.out _ _ (below_step hHeld hb) (fun hHeld => ?_)
                clear hb hK K
                generalize W0.alloc _ = X3 at *
                generalize W0.heap.size = g14 at *
                try simp only [Act.put, List.getElem_toArray, List.getElem_cons_zero, List.getElem_cons_succ, List.setIfInBounds_toArray, List.set_cons_zero, List.set_cons_succ]
                refine wpAnyH_ready (rs := [6]) (by kernel_rfl) (by simp) ?_
                refine AllReadyH.cons rfl (fun K hK => ?_) AllReadyH.nil
                go_simp
                refine (HSB1.out _).mono ?_
                rintro e X4 ⟨rfl, hb⟩
                replace H14 := Aside0.mk (And.intro (Holds.below H14.out.1 hb) H14.out.2)
                refine hK.out _ _ (below_step hHeld hb) (fun hHeld => ?_)
                clear hb hK K
                try simp only [Act.put, List.getElem_toArray, List.getElem_cons_zero, List.getElem_cons_succ, List.setIfInBounds_toArray, List.set_cons_zero, List.set_cons_succ]
                refine wpAnyH_take (i := 7) (v := .tuple #[.agg (ws L1), .bool (decide (u1 = 1))]) rfl (by kernel_rfl) (by kernel_rfl) (by kernel_rfl) (fun _ _ _ h => absurd h.1 (by simp)) (.inl ⟨by rfl, fun _ _ => by go_simp⟩) hHeld ?_
                try simp only [Act.put, List.getElem_toArray, List.getElem_cons_zero, List.getElem_cons_succ, List.setIfInBounds_toArray, List.set_cons_zero, List.set_cons_succ]
                refine wpAnyH_take (i := 8) (v := .agg (ws L1)) rfl (by kernel_rfl) (by kernel_rfl) (by kernel_rfl) (fun _ _ _ h => absurd h.1 (by simp)) (.inl ⟨by rfl, fun _ _ => by go_simp⟩) hHeld ?_
                try simp only [Act.put, List.getElem_toArray, List.getElem_cons_zero, List.getElem_cons_succ, List.setIfInBounds_toArray, List.set_cons_zero, List.set_cons_succ]
                refine wpAnyH_take (i := 9) (v := .bool (decide (u1 = 1))) rfl (by kernel_rfl) (by kernel_rfl) (by kernel_rfl) (fun _ _ _ h => absurd h.1 (by simp)) (.inl ⟨by rfl, fun _ _ => by go_simp⟩) hHeld ?_
                try simp only [Act.put, List.getElem_toArray, List.getElem_cons_zero, List.getElem_cons_succ, List.setIfInBounds_toArray, List.set_cons_zero, List.set_cons_succ]
                have hx := H14.out.1
                have z0 := hx.cell 0 (by simp)
                have y0 := hx.free 0
                have z1 := hx.cell 1 (by simp)
                have y1 := hx.free 1
                have z2 := hx.cell 2 (by simp)
                have y2 := hx.free 2
                have z3 := hx.cell 3 (by simp)
                have y3 := hx.free 3
                clear hx
                have hwf := ws_four L1 HSL1.out
                refine wpAnyH_ready (rs := [11]) (by kernel_rfl) (by simp) ?_
                refine AllReadyH.cons rfl (fun K hK => ?_) AllReadyH.nil
                go_simp
                have n14 := H14.out.2
                refine hK.out _ _ (below_set (below_set (below_set (below_set hHeld n14) n14) n14) n14) (fun hHeld => ?_)
                clear hK K z0 z1 z2 z3 y0 y1 y2 y3 hwf
                have H14' := Aside0.mk (set_four (L := List.replicate 4 0) (H := L1) rfl HSL1.out H14.out.1)
                try simp only [Act.put, List.getElem_toArray, List.getElem_cons_zero, List.getElem_cons_succ, List.setIfInBounds_toArray, List.set_cons_zero, List.set_cons_succ]
                refine wpAnyH_take (i := 12) (v := .bool (decide (u1 = 1))) rfl (by kernel_rfl) (by kernel_rfl) (by kernel_rfl) (fun _ _ _ h => absurd h.1 (by simp)) (.inl ⟨by rfl, fun _ _ => by go_simp⟩) hHeld ?_
                try simp only [Act.put, List.getElem_toArray, List.getElem_cons_zero, List.getElem_cons_succ, List.setIfInBounds_toArray, List.set_cons_zero, List.set_cons_succ]
                refine wpAnyH_done (by kernel_rfl) ?_ _
                refine ⟨rfl, g14, ?_, hHeld, n14, H14'.out⟩
                rw [ws_four L1 HSL1.out]
              case hnext =>
                rintro _ w3 ⟨g14, rfl, hb3, n14, h14⟩
                try simp only [Act.put, List.getElem_toArray, List.getElem_cons_zero, List.getElem_cons_succ, List.setIfInBounds_toArray, List.set_cons_zero, List.set_cons_succ]
                have HC3 := Aside0.mk (HB.out _ hb3)
                have HB3 := Aside0.mk (fun (X : World) (hX : Below w3.heap.size w3 X) => Kd.C_below HC3.out hX)
                have HW3 := Aside0.mk (below_step HW2.out hb3)
                have HG3 := Aside0.mk (And.intro (Holds.below HG2.out.1 hb3) (And.intro (Holds.below HG2.out.2 hb3) h14))
                have N14 := Aside0.mk (Nat.le_trans HW2.out.size n14)
                clear hb3 n14 h14
                go_wp2_with fail
                refine wp_put (fun a0 a' w' => ∃ g, a' = ((((((((((((a0.put (some 70) (.slice (some ad) l.length c)).put (some 71) (.int .i64 (q : Nat))).put (some 72) (.pointer (some (ad.add (q * 8))))).put (some 73) (.pointer (some ⟨(ad.add (q * 8)).block, (ad.add (q * 8)).off + 1, none⟩))).put (some 74) (.agg (ws (am (at' l q))))).put (some 75) (.agg (ws b))).put (some 76) (.tuple #[.agg (ws L2), .bool (decide (u2 = 1))])).put (some 69) (.tuple #[.agg (ws L2), .bool (decide (u2 = 1))])).put (some 77) (.agg (ws L2))).put (some 78) (.bool (decide (u2 = 1)))).put (some 16) (.pointer (some ⟨g, 0, none⟩))).put (some 17) (.bool (decide (u2 = 1)))) ∧ Below w3.heap.size w3 w' ∧ w3.heap.size ≤ g ∧ Holds w' g 25 L2) ?hreg ?hnext
                case hreg =>
                  refine wp_region_held_drew (S := fun X => Below w3.heap.size w3 X) (by kernel_rfl) (below_drew1 (Below.refl _ _)) (fun hHeld => ?_)
                  generalize w3.drew = W0 at *
                  try simp only [Act.put, List.getElem_toArray, List.getElem_cons_zero, List.getElem_cons_succ, List.setIfInBounds_toArray, List.set_cons_zero, List.set_cons_succ]
                  refine wpAnyH_take (i := 0) (v := .slice (some ad) l.length c) rfl (by kernel_rfl) (by kernel_rfl) (by kernel_rfl) (fun _ _ _ h => absurd h.1 (by simp)) (.inl ⟨by rfl, fun _ _ => by go_simp⟩) hHeld ?_
                  try simp only [Act.put, List.getElem_toArray, List.getElem_cons_zero, List.getElem_cons_succ, List.setIfInBounds_toArray, List.set_cons_zero, List.set_cons_succ]
                  refine wpAnyH_take (i := 1) (v := .int .i64 (q : Nat)) rfl (by kernel_rfl) (by kernel_rfl) (by kernel_rfl) (fun _ _ _ h => absurd h.1 (by simp)) (.inl ⟨by rfl, fun _ _ => by go_simp⟩) hHeld ?_
                  try simp only [Act.put, List.getElem_toArray, List.getElem_cons_zero, List.getElem_cons_succ, List.setIfInBounds_toArray, List.set_cons_zero, List.set_cons_succ]
                  refine wpAnyH_take (i := 2) (v := .pointer (some (ad.add (q * 8)))) rfl (by kernel_rfl) (by kernel_rfl) (by kernel_rfl) (fun _ _ _ h => absurd h.1 (by simp)) (.inl ⟨by rfl, fun _ _ => by go_simp⟩) hHeld ?_
                  try simp only [Act.put, List.getElem_toArray, List.getElem_cons_zero, List.getElem_cons_succ, List.setIfInBounds_toArray, List.set_cons_zero, List.set_cons_succ]
                  refine wpAnyH_take (i := 3) (v := .pointer (some ⟨(ad.add (q * 8)).block, (ad.add (q * 8)).off + 1, none⟩)) rfl (by kernel_rfl) (by kernel_rfl) (by kernel_rfl) (fun _ _ _ h => absurd h.1 (by simp)) (.inl ⟨by rfl, fun _ _ => by go_simp⟩) hHeld ?_
                  try simp only [Act.put, List.getElem_toArray, List.getElem_cons_zero, List.getElem_cons_succ, List.setIfInBounds_toArray, List.set_cons_zero, List.set_cons_succ]
                  refine wpAnyH_take (i := 4) (v := .agg (wl (am (at' l q))).toArray) rfl (by kernel_rfl) (by kernel_rfl) (by kernel_rfl) (fun _ _ _ h => absurd h.1 (by simp)) (yieldsIf_load_mid rfl 25 _ rfl _ _ rfl (wl (am (at' l q))) _ (fun X' hS => range_am (HB3.out _ hS) HL.out.2.2.1 q hq) Try.underlying25 rfl (by rw [Hi25.out]; rfl)) hHeld ?_
                  try simp only [Act.put, List.getElem_toArray, List.getElem_cons_zero, List.getElem_cons_succ, List.setIfInBounds_toArray, List.set_cons_zero, List.set_cons_succ]
                  refine wpAnyH_take (i := 5) (v := .agg (wl b).toArray) rfl (by kernel_rfl) (by kernel_rfl) (by kernel_rfl) (fun _ _ _ h => absurd h.1 (by simp)) (yieldsIf_load_mid rfl 25 _ rfl (w.heap.size + 1) 0 rfl (wl b) _ (fun X' hS => range_of (Holds.below HG3.out.2.1 hS)) Try.underlying25 rfl (by rw [Hi25.out, wl, List.length_map, HL.out.2.1])) hHeld ?_
                  try simp only [Act.put, List.getElem_toArray, List.getElem_cons_zero, List.getElem_cons_succ, List.setIfInBounds_toArray, List.set_cons_zero, List.set_cons_succ]
                  rw [wl_eq, wl_eq]
                  refine wpAnyH_ready (rs := [6, 10]) (by kernel_rfl) (by simp) ?_
                  refine AllReadyH.cons rfl (fun K hK => ?_) ?_
                  · go_simp
                    refine (HSB2.out _).mono ?_
                    rintro e X5 ⟨rfl, hb⟩
                    refine hK.out _ _ (below_step hHeld hb) (fun hHeld => ?_)
                    clear hb hK K
                    try simp only [Act.put, List.getElem_toArray, List.getElem_cons_zero, List.getElem_cons_succ, List.setIfInBounds_toArray, List.set_cons_zero, List.set_cons_succ]
                    refine wpAnyH_take (i := 7) (v := .tuple #[.agg (ws L2), .bool (decide (u2 = 1))]) rfl (by kernel_rfl) (by kernel_rfl) (by kernel_rfl) (fun _ _ _ h => absurd h.1 (by simp)) (.inl ⟨by rfl, fun _ _ => by go_simp⟩) hHeld ?_
                    try simp only [Act.put, List.getElem_toArray, List.getElem_cons_zero, List.getElem_cons_succ, List.setIfInBounds_toArray, List.set_cons_zero, List.set_cons_succ]
                    refine wpAnyH_take (i := 8) (v := .agg (ws L2)) rfl (by kernel_rfl) (by kernel_rfl) (by kernel_rfl) (fun _ _ _ h => absurd h.1 (by simp)) (.inl ⟨by rfl, fun _ _ => by go_simp⟩) hHeld ?_
                    try simp only [Act.put, List.getElem_toArray, List.getElem_cons_zero, List.getElem_cons_succ, List.setIfInBounds_toArray, List.set_cons_zero, List.set_cons_succ]
                    refine wpAnyH_take (i := 9) (v := .bool (decide (u2 = 1))) rfl (by kernel_rfl) (by kernel_rfl) (by kernel_rfl) (fun _ _ _ h => absurd h.1 (by simp)) (.inl ⟨by rfl, fun _ _ => by go_simp⟩) hHeld ?_
                    try simp only [Act.put, List.getElem_toArray, List.getElem_cons_zero, List.getElem_cons_succ, List.setIfInBounds_toArray, List.set_cons_zero, List.set_cons_succ]
                    refine wpAnyH_ready (rs := [10]) (by kernel_rfl) (by simp) ?_
                    refine AllReadyH.cons rfl (fun K hK => ?_) AllReadyH.nil
                    go_simp
                    have hb := below_alloc (Below.refl X5.heap.size X5) (.cells #[Value.int .u64 0, .int .u64 0, .int .u64 0, .int .u64 0] 25)
                    have H14 := Aside0.mk (And.intro (show Holds (X5.alloc (.cells #[Value.int .u64 0, .int .u64 0, .int .u64 0, .int .u64 0] 25)) X5.heap.size 25 (List.replicate 4 0) from blk_new X5 _) hHeld.size)
                    refine hK.out _ _ (below_step hHeld hb) (fun hHeld => ?_)
                    clear hb hK K
                    generalize X5.alloc _ = X6 at *
                    generalize X5.heap.size = g14 at *
                    try simp only [Act.put, List.getElem_toArray, List.getElem_cons_zero, List.getElem_cons_succ, List.setIfInBounds_toArray, List.set_cons_zero, List.set_cons_succ]
                    have hx := H14.out.1
                    have z0 := hx.cell 0 (by simp)
                    have y0 := hx.free 0
                    have z1 := hx.cell 1 (by simp)
                    have y1 := hx.free 1
                    have z2 := hx.cell 2 (by simp)
                    have y2 := hx.free 2
                    have z3 := hx.cell 3 (by simp)
                    have y3 := hx.free 3
                    clear hx
                    have hwf := ws_four L2 HSL2.out
                    refine wpAnyH_ready (rs := [11]) (by kernel_rfl) (by simp) ?_
                    refine AllReadyH.cons rfl (fun K hK => ?_) AllReadyH.nil
                    go_simp
                    have n14 := H14.out.2
                    refine hK.out _ _ (below_set (below_set (below_set (below_set hHeld n14) n14) n14) n14) (fun hHeld => ?_)
                    clear hK K z0 z1 z2 z3 y0 y1 y2 y3 hwf
                    have H14' := Aside0.mk (set_four (L := List.replicate 4 0) (H := L2) rfl HSL2.out H14.out.1)
                    try simp only [Act.put, List.getElem_toArray, List.getElem_cons_zero, List.getElem_cons_succ, List.setIfInBounds_toArray, List.set_cons_zero, List.set_cons_succ]
                    refine wpAnyH_take (i := 12) (v := .bool (decide (u2 = 1))) rfl (by kernel_rfl) (by kernel_rfl) (by kernel_rfl) (fun _ _ _ h => absurd h.1 (by simp)) (.inl ⟨by rfl, fun _ _ => by go_simp⟩) hHeld ?_
                    try simp only [Act.put, List.getElem_toArray, List.getElem_cons_zero, List.getElem_cons_succ, List.setIfInBounds_toArray, List.set_cons_zero, List.set_cons_succ]
                    refine wpAnyH_done (by kernel_rfl) ?_ _
                    refine ⟨rfl, g14, ?_, hHeld, n14, H14'.out⟩
                    rw [ws_four L2 HSL2.out]
                  refine AllReadyH.cons rfl (fun K hK => ?_) AllReadyH.nil
                  go_simp
                  have hb := below_alloc (Below.refl W0.heap.size W0) (.cells #[Value.int .u64 0, .int .u64 0, .int .u64 0, .int .u64 0] 25)
                  have H14 := Aside0.mk (And.intro (show Holds (W0.alloc (.cells #[Value.int .u64 0, .int .u64 0, .int .u64 0, .int .u64 0] 25)) W0.heap.size 25 (List.replicate 4 0) from blk_new W0 _) hHeld.size)
                  refine hK.out _ _ (below_step hHeld hb) (fun hHeld => ?_)
                  clear hb hK K
                  generalize W0.alloc _ = X7 at *
                  generalize W0.heap.size = g14 at *
                  try simp only [Act.put, List.getElem_toArray, List.getElem_cons_zero, List.getElem_cons_succ, List.setIfInBounds_toArray, List.set_cons_zero, List.set_cons_succ]
                  refine wpAnyH_ready (rs := [6]) (by kernel_rfl) (by simp) ?_
                  refine AllReadyH.cons rfl (fun K hK => ?_) AllReadyH.nil
                  go_simp
                  refine (HSB2.out _).mono ?_
                  rintro e X8 ⟨rfl, hb⟩
                  replace H14 := Aside0.mk (And.intro (Holds.below H14.out.1 hb) H14.out.2)
                  refine hK.out _ _ (below_step hHeld hb) (fun hHeld => ?_)
                  clear hb hK K
                  try simp only [Act.put, List.getElem_toArray, List.getElem_cons_zero, List.getElem_cons_succ, List.setIfInBounds_toArray, List.set_cons_zero, List.set_cons_succ]
                  refine wpAnyH_take (i := 7) (v := .tuple #[.agg (ws L2), .bool (decide (u2 = 1))]) rfl (by kernel_rfl) (by kernel_rfl) (by kernel_rfl) (fun _ _ _ h => absurd h.1 (by simp)) (.inl ⟨by rfl, fun _ _ => by go_simp⟩) hHeld ?_
                  try simp only [Act.put, List.getElem_toArray, List.getElem_cons_zero, List.getElem_cons_succ, List.setIfInBounds_toArray, List.set_cons_zero, List.set_cons_succ]
                  refine wpAnyH_take (i := 8) (v := .agg (ws L2)) rfl (by kernel_rfl) (by kernel_rfl) (by kernel_rfl) (fun _ _ _ h => absurd h.1 (by simp)) (.inl ⟨by rfl, fun _ _ => by go_simp⟩) hHeld ?_
                  try simp only [Act.put, List.getElem_toArray, List.getElem_cons_zero, List.getElem_cons_succ, List.setIfInBounds_toArray, List.set_cons_zero, List.set_cons_succ]
                  refine wpAnyH_take (i := 9) (v := .bool (decide (u2 = 1))) rfl (by kernel_rfl) (by kernel_rfl) (by kernel_rfl) (fun _ _ _ h => absurd h.1 (by simp)) (.inl ⟨by rfl, fun _ _ => by go_simp⟩) hHeld ?_
                  try simp only [Act.put, List.getElem_toArray, List.getElem_cons_zero, List.getElem_cons_succ, List.setIfInBounds_toArray, List.set_cons_zero, List.set_cons_succ]
                  have hx := H14.out.1
                  have z0 := hx.cell 0 (by simp)
                  have y0 := hx.free 0
                  have z1 := hx.cell 1 (by simp)
                  have y1 := hx.free 1
                  have z2 := hx.cell 2 (by simp)
                  have y2 := hx.free 2
                  have z3 := hx.cell 3 (by simp)
                  have y3 := hx.free 3
                  clear hx
                  have hwf := ws_four L2 HSL2.out
                  refine wpAnyH_ready (rs := [11]) (by kernel_rfl) (by simp) ?_
                  refine AllReadyH.cons rfl (fun K hK => ?_) AllReadyH.nil
                  go_simp
                  have n14 := H14.out.2
                  refine hK.out _ _ (below_set (below_set (below_set (below_set hHeld n14) n14) n14) n14) (fun hHeld => ?_)
                  clear hK K z0 z1 z2 z3 y0 y1 y2 y3 hwf
                  have H14' := Aside0.mk (set_four (L := List.replicate 4 0) (H := L2) rfl HSL2.out H14.out.1)
                  try simp only [Act.put, List.getElem_toArray, List.getElem_cons_zero, List.getElem_cons_succ, List.setIfInBounds_toArray, List.set_cons_zero, List.set_cons_succ]
                  refine wpAnyH_take (i := 12) (v := .bool (decide (u2 = 1))) rfl (by kernel_rfl) (by kernel_rfl) (by kernel_rfl) (fun _ _ _ h => absurd h.1 (by simp)) (.inl ⟨by rfl, fun _ _ => by go_simp⟩) hHeld ?_
                  try simp only [Act.put, List.getElem_toArray, List.getElem_cons_zero, List.getElem_cons_succ, List.setIfInBounds_toArray, List.set_cons_zero, List.set_cons_succ]
                  refine wpAnyH_done (by kernel_rfl) ?_ _
                  refine ⟨rfl, g14, ?_, hHeld, n14, H14'.out⟩
                  rw [ws_four L2 HSL2.out]
                case hnext =>
                  rintro _ w4 ⟨g16, rfl, hb4, n16, h16⟩
                  try simp only [Act.put, List.getElem_toArray, List.getElem_cons_zero, List.getElem_cons_succ, List.setIfInBounds_toArray, List.set_cons_zero, List.set_cons_succ]
                  have HC4 := Aside0.mk (HB3.out _ hb4)
                  have HW4 := Aside0.mk (below_step HW3.out hb4)
                  have HG4 := Aside0.mk (And.intro (Holds.below HG3.out.1 hb4) (And.intro (Holds.below HG3.out.2.1 hb4) (And.intro (Holds.below HG3.out.2.2 hb4) h16)))
                  have N16 := Aside0.mk (Nat.le_trans HW3.out.size n16)
                  clear hb4 n16 h16
                  go_wp2_with (first | (refine load_ws rfl 25 _ rfl w.heap.size rfl 25 a 4 _ HG4.out.1 HL.out.1 Try.underlying25 rfl Hi25.out ?_) | (refine load_ws rfl 25 _ rfl (w.heap.size + 1) rfl 25 b 4 _ HG4.out.2.1 HL.out.2.1 Try.underlying25 rfl Hi25.out ?_))
                  refine (HSB3.out _).mono ?_
                  rintro e w5 ⟨rfl, hb5⟩
                  try simp only [Act.put, List.getElem_toArray, List.getElem_cons_zero, List.getElem_cons_succ, List.setIfInBounds_toArray, List.set_cons_zero, List.set_cons_succ]
                  have hn18 := blk_new w5 (.cells #[Value.int .u64 0, .int .u64 0, .int .u64 0, .int .u64 0] 25)
                  go_wp2_with (refine store_ws rfl 25 _ _ rfl w5.heap.size rfl 25 (List.replicate 4 0) L3 4 rfl hn18 rfl HSL3.out Hi25.out ?_)
                  intro w6 h18 hbl _ _
                  have hb6 := below_step hb5 ((below_alloc (Below.refl w5.heap.size w5) (.cells #[Value.int .u64 0, .int .u64 0, .int .u64 0, .int .u64 0] 25)).trans (hbl _ (Nat.le_refl _)))
                  have HC6 := Aside0.mk (Kd.C_below HC4.out hb6)
                  have HB6 := Aside0.mk (fun (X : World) (hX : Below w6.heap.size w6 X) => Kd.C_below HC6.out hX)
                  have HW6 := Aside0.mk (below_step HW4.out hb6)
                  have HG6 := Aside0.mk (And.intro (Holds.below HG4.out.2.2.1 hb6) (And.intro (Holds.below HG4.out.2.2.2 hb6) h18))
                  have N18 := Aside0.mk (Nat.le_trans HW4.out.size hb5.size)
                  clear hn18 hbl hb6 hb5 h18
                  generalize w5.heap.size = g18 at *
                  by_cases v16 : u1 = 1
                  · have HE' := Aside0.mk (HE.out.trans (by rw [if_pos (.inl v16)]))
                    clear HE
                    have HE := HE'
                    have kk := decide_eq_true v16
                    go_wp2_with fail
                    exact bodyPost_ret (v := .tuple #[.slice (some ad) l.length c, .int .i64 16]) (by simp [results, Try.results11, go_sem]) rfl ⟨fun _ => ⟨by rw [HE.out], HW6.out⟩, fun h => absurd (HE.out.symm.trans h) (by decide)⟩
                  have k1 := decide_eq_false v16
                  by_cases v16b : u2 = 1
                  · have HE' := Aside0.mk (HE.out.trans (by rw [if_pos (.inr v16b)]))
                    clear HE
                    have HE := HE'
                    have kk := decide_eq_true v16b
                    go_wp2_with fail
                    exact bodyPost_ret (v := .tuple #[.slice (some ad) l.length c, .int .i64 16]) (by simp [results, Try.results11, go_sem]) rfl ⟨fun _ => ⟨by rw [HE.out], HW6.out⟩, fun h => absurd (HE.out.symm.trans h) (by decide)⟩
                  have k2 := decide_eq_false v16b
                  have ho := HE.out
                  rw [if_neg (fun h => h.elim v16 v16b)] at ho
                  clear HE
                  have HE := Aside0.mk ho
                  clear ho
                  by_cases v7 : u3 = 1
                  · have HE' := Aside0.mk (HE.out.trans (by rw [if_pos v7]))
                    clear HE
                    have HE := HE'
                    have kk := decide_eq_true v7
                    go_wp2_with fail
                    exact bodyPost_ret (v := .tuple #[.slice (some ad) l.length c, .int .i64 7]) (by simp [results, Try.results11, go_sem]) rfl ⟨fun _ => ⟨by rw [HE.out], HW6.out⟩, fun h => absurd (HE.out.symm.trans h) (by decide)⟩
                  have k3 := decide_eq_false v7
                  have ho := HE.out
                  rw [if_neg v7] at ho
                  clear HE
                  have HE := Aside0.mk ho
                  clear ho
                  by_cases v8 : 8 ≤ l.length
                  · have HE' := Aside0.mk (HE.out.trans (by rw [if_pos v8]))
                    clear HE
                    have HE := HE'
                    have kk := decide_eq_true v8
                    go_wp2_with fail
                    exact bodyPost_ret (v := .tuple #[.slice (some ad) l.length c, .int .i64 8]) (by simp [results, Try.results11, go_sem]) rfl ⟨fun _ => ⟨by rw [HE.out], HW6.out⟩, fun h => absurd (HE.out.symm.trans h) (by decide)⟩
                  have ho := HE.out
                  rw [if_neg v8] at ho
                  clear HE
                  have HE := Aside0.mk ho
                  clear ho
                  have k4 : ¬ (8 : Int) ≤ (l.length : Int) := by omega
                  go_wp2_with fail
                  refine wp_put (fun a0 a' w' => ∃ (v : Value) (Av : Option Addr) (cv gn : Nat), a' = ((((((((((((((((((a0.put (some 99) (.slice (some ad) l.length c)).put (some 100) (.slice Av l.length cv)).put (some 101) (.string ch)).put (some 102) (.agg (ws L3))).put (some 103) (.slice (some ad) l.length c)).put (some 104) (.int .i64 (p : Nat))).put (some 105) (.pointer (some (ad.add (p * 8))))).put (some 106) (.pointer (some (ad.add (p * 8))))).put (some 107) (.string (at' l p).f0)).put (some 108) (.slice (some ad) l.length c)).put (some 109) (.int .i64 (q : Nat))).put (some 110) (.pointer (some (ad.add (q * 8))))).put (some 111) (.pointer (some (ad.add (q * 8))))).put (some 112) (.string (at' l q).f0)).put (some 113) (.agg #[.string ch, .int .u64 (vw (gw L3 0)), .int .u64 (vw (gw L3 1)), .int .u64 (vw (gw L3 2)), .int .u64 (vw (gw L3 3)), .int .i64 1, .string (at' l p).f0, .string (at' l q).f0])).put (some 114) (.slice (some ⟨gn, 0, none⟩) 1 1)).put (some 115) (v)).put (some 20) (v)) ∧ Below w6.heap.size w6 w' ∧ w'.ownsRow w6.heap.size 39 8 v (l.length + 1) (cells39 (l ++ [(⟨ch, sw L3, 1, (at' l p).f0, (at' l q).f0⟩ : S39)]))) ?hreg ?hnext
                  case hreg =>
                    refine wp_region_held_drew (S := fun X => Below w6.heap.size w6 X) (by kernel_rfl) (below_drew1 (Below.refl _ _)) (fun hHeld => ?_)
                    generalize w6.drew = W0 at *
                    try simp only [Act.put, List.getElem_toArray, List.getElem_cons_zero, List.getElem_cons_succ, List.setIfInBounds_toArray, List.set_cons_zero, List.set_cons_succ]
                    refine wpAnyH_take (i := 0) (v := .slice (some ad) l.length c) rfl (by kernel_rfl) (by kernel_rfl) (by kernel_rfl) (fun _ _ _ h => absurd h.1 (by simp)) (.inl ⟨by rfl, fun _ _ => by go_simp⟩) hHeld ?_
                    try simp only [Act.put, List.getElem_toArray, List.getElem_cons_zero, List.getElem_cons_succ, List.setIfInBounds_toArray, List.set_cons_zero, List.set_cons_succ]
                    refine wpAnyH_take (i := 2) (v := .string ch) rfl (by kernel_rfl) (by kernel_rfl) (by kernel_rfl) (fun _ _ _ h => absurd h.1 (by simp)) (.inl ⟨by rfl, fun _ _ => by go_simp⟩) hHeld ?_
                    try simp only [Act.put, List.getElem_toArray, List.getElem_cons_zero, List.getElem_cons_succ, List.setIfInBounds_toArray, List.set_cons_zero, List.set_cons_succ]
                    refine wpAnyH_take (i := 3) (v := .agg (wl L3).toArray) rfl (by kernel_rfl) (by kernel_rfl) (by kernel_rfl) (fun _ _ _ h => absurd h.1 (by simp)) (yieldsIf_load_mid rfl 25 _ rfl g18 0 rfl (wl L3) _ (fun X' hS => range_of (Holds.below HG6.out.2.2 hS)) Try.underlying25 rfl (by rw [Hi25.out, wl, List.length_map, HSL3.out])) hHeld ?_
                    try simp only [Act.put, List.getElem_toArray, List.getElem_cons_zero, List.getElem_cons_succ, List.setIfInBounds_toArray, List.set_cons_zero, List.set_cons_succ]
                    refine wpAnyH_take (i := 4) (v := .slice (some ad) l.length c) rfl (by kernel_rfl) (by kernel_rfl) (by kernel_rfl) (fun _ _ _ h => absurd h.1 (by simp)) (.inl ⟨by rfl, fun _ _ => by go_simp⟩) hHeld ?_
                    try simp only [Act.put, List.getElem_toArray, List.getElem_cons_zero, List.getElem_cons_succ, List.setIfInBounds_toArray, List.set_cons_zero, List.set_cons_succ]
                    refine wpAnyH_take (i := 5) (v := .int .i64 (p : Nat)) rfl (by kernel_rfl) (by kernel_rfl) (by kernel_rfl) (fun _ _ _ h => absurd h.1 (by simp)) (.inl ⟨by rfl, fun _ _ => by go_simp⟩) hHeld ?_
                    try simp only [Act.put, List.getElem_toArray, List.getElem_cons_zero, List.getElem_cons_succ, List.setIfInBounds_toArray, List.set_cons_zero, List.set_cons_succ]
                    refine wpAnyH_take (i := 6) (v := .pointer (some (ad.add (p * 8)))) rfl (by kernel_rfl) (by kernel_rfl) (by kernel_rfl) (fun _ _ _ h => absurd h.1 (by simp)) (.inl ⟨by rfl, fun _ _ => by go_simp⟩) hHeld ?_
                    try simp only [Act.put, List.getElem_toArray, List.getElem_cons_zero, List.getElem_cons_succ, List.setIfInBounds_toArray, List.set_cons_zero, List.set_cons_succ]
                    refine wpAnyH_take (i := 7) (v := .pointer (some (ad.add (p * 8)))) rfl (by kernel_rfl) (by kernel_rfl) (by kernel_rfl) (fun _ _ _ h => absurd h.1 (by simp)) (.inl ⟨by rfl, fun _ _ => by go_simp⟩) hHeld ?_
                    try simp only [Act.put, List.getElem_toArray, List.getElem_cons_zero, List.getElem_cons_succ, List.setIfInBounds_toArray, List.set_cons_zero, List.set_cons_succ]
                    refine wpAnyH_take (i := 8) (v := .string (at' l p).f0) rfl (by kernel_rfl) (by kernel_rfl) (by kernel_rfl) (fun _ _ _ h => absurd h.1 (by simp)) (.inl ⟨by rfl, fun X' hS => by have b := (cell_f0 (HB6.out _ hS) p hp).1; go_simp⟩) hHeld ?_
                    try simp only [Act.put, List.getElem_toArray, List.getElem_cons_zero, List.getElem_cons_succ, List.setIfInBounds_toArray, List.set_cons_zero, List.set_cons_succ]
                    refine wpAnyH_take (i := 9) (v := .slice (some ad) l.length c) rfl (by kernel_rfl) (by kernel_rfl) (by kernel_rfl) (fun _ _ _ h => absurd h.1 (by simp)) (.inl ⟨by rfl, fun _ _ => by go_simp⟩) hHeld ?_
                    try simp only [Act.put, List.getElem_toArray, List.getElem_cons_zero, List.getElem_cons_succ, List.setIfInBounds_toArray, List.set_cons_zero, List.set_cons_succ]
                    refine wpAnyH_take (i := 10) (v := .int .i64 (q : Nat)) rfl (by kernel_rfl) (by kernel_rfl) (by kernel_rfl) (fun _ _ _ h => absurd h.1 (by simp)) (.inl ⟨by rfl, fun _ _ => by go_simp⟩) hHeld ?_
                    try simp only [Act.put, List.getElem_toArray, List.getElem_cons_zero, List.getElem_cons_succ, List.setIfInBounds_toArray, List.set_cons_zero, List.set_cons_succ]
                    refine wpAnyH_take (i := 11) (v := .pointer (some (ad.add (q * 8)))) rfl (by kernel_rfl) (by kernel_rfl) (by kernel_rfl) (fun _ _ _ h => absurd h.1 (by simp)) (.inl ⟨by rfl, fun _ _ => by go_simp⟩) hHeld ?_
                    try simp only [Act.put, List.getElem_toArray, List.getElem_cons_zero, List.getElem_cons_succ, List.setIfInBounds_toArray, List.set_cons_zero, List.set_cons_succ]
                    refine wpAnyH_take (i := 12) (v := .pointer (some (ad.add (q * 8)))) rfl (by kernel_rfl) (by kernel_rfl) (by kernel_rfl) (fun _ _ _ h => absurd h.1 (by simp)) (.inl ⟨by rfl, fun _ _ => by go_simp⟩) hHeld ?_
                    try simp only [Act.put, List.getElem_toArray, List.getElem_cons_zero, List.getElem_cons_succ, List.setIfInBounds_toArray, List.set_cons_zero, List.set_cons_succ]
                    refine wpAnyH_take (i := 13) (v := .string (at' l q).f0) rfl (by kernel_rfl) (by kernel_rfl) (by kernel_rfl) (fun _ _ _ h => absurd h.1 (by simp)) (.inl ⟨by rfl, fun X' hS => by have b := (cell_f0 (HB6.out _ hS) q hq).1; go_simp⟩) hHeld ?_
                    try simp only [Act.put, List.getElem_toArray, List.getElem_cons_zero, List.getElem_cons_succ, List.setIfInBounds_toArray, List.set_cons_zero, List.set_cons_succ]
                    rw [wl_eq]
                    refine wpAnyH_take (i := 14) (v := .agg #[.string ch, .int .u64 (vw (gw L3 0)), .int .u64 (vw (gw L3 1)), .int .u64 (vw (gw L3 2)), .int .u64 (vw (gw L3 3)), .int .i64 1, .string (at' l p).f0, .string (at' l q).f0]) rfl (by kernel_rfl) (by kernel_rfl) (by kernel_rfl) (fun _ _ _ h => absurd h.1 (by simp)) (.inl ⟨by rfl, fun _ _ => by have hwf := ws_four L3 HSL3.out; go_simp⟩) hHeld ?_
                    try simp only [Act.put, List.getElem_toArray, List.getElem_cons_zero, List.getElem_cons_succ, List.setIfInBounds_toArray, List.set_cons_zero, List.set_cons_succ]
                    obtain ⟨i0, hi, hz0, hz1, hz2⟩ := info_parts info39_8
                    have HIN := Aside0.mk (And.intro hi (And.intro hz0 (And.intro hz1 hz2)))
                    clear hi hz0 hz1 hz2
                    refine wpAnyH_ready (rs := [1, 15]) (by kernel_rfl) (by simp) ?_
                    refine AllReadyH.cons rfl (fun K hK => ?_) ?_
                    · go_simp
                      refine (clone_any (some ad) c l _ (HB6.out _ hHeld) HL.out.2.2.2.1 HL.out.2.2.2.2).mono ?_
                      rintro e X9 ⟨v0, rfl, hown, hb⟩
                      obtain ⟨Av, cv, rfl⟩ := own_slice hown
                      have HV := Aside0.mk (own_weaken hown hHeld.size)
                      refine hK.out _ _ (below_step hHeld hb) (fun hHeld => ?_)
                      clear hown hb hK K
                      try simp only [Act.put, List.getElem_toArray, List.getElem_cons_zero, List.getElem_cons_succ, List.setIfInBounds_toArray, List.set_cons_zero, List.set_cons_succ]
                      refine wpAnyH_ready (rs := [15]) (by kernel_rfl) (by simp) ?_
                      refine AllReadyH.cons rfl (fun K hK => ?_) AllReadyH.nil
                      go_simp
                      have hb := below_alloc (Below.refl X9.heap.size X9) (.cells #[Value.string ch, .int .u64 (vw (gw L3 0)), .int .u64 (vw (gw L3 1)), .int .u64 (vw (gw L3 2)), .int .u64 (vw (gw L3 3)), .int .i64 1, .string (at' l p).f0, .string (at' l q).f0] 39)
                      have HN := Aside0.mk (And.intro (show Box (X9.alloc (.cells #[Value.string ch, .int .u64 (vw (gw L3 0)), .int .u64 (vw (gw L3 1)), .int .u64 (vw (gw L3 2)), .int .u64 (vw (gw L3 3)), .int .i64 1, .string (at' l p).f0, .string (at' l q).f0] 39)) X9.heap.size 39 #[Value.string ch, .int .u64 (vw (gw L3 0)), .int .u64 (vw (gw L3 1)), .int .u64 (vw (gw L3 2)), .int .u64 (vw (gw L3 3)), .int .i64 1, .string (at' l p).f0, .string (at' l q).f0] from blk_new X9 _) hHeld.size)
                      replace HV := Aside0.mk (own_below HV.out hb)
                      refine hK.out _ _ (below_step hHeld hb) (fun hHeld => ?_)
                      clear hb hK K
                      generalize X9.alloc (.cells #[Value.string ch, .int .u64 (vw (gw L3 0)), .int .u64 (vw (gw L3 1)), .int .u64 (vw (gw L3 2)), .int .u64 (vw (gw L3 3)), .int .i64 1, .string (at' l p).f0, .string (at' l q).f0] 39) = X10 at *
                      generalize X9.heap.size = gn at *
                      try simp only [Act.put, List.getElem_toArray, List.getElem_cons_zero, List.getElem_cons_succ, List.setIfInBounds_toArray, List.set_cons_zero, List.set_cons_succ]
                      refine wpAnyH_ready (rs := [16]) (by kernel_rfl) (by simp) ?_
                      refine AllReadyH.cons rfl (fun K hK => ?_) AllReadyH.nil
                      rw [if_pos (by rfl)]
                      refine wp_append_own _ _ _ 22 rfl w6.heap.size 39 i0 (.agg #[.string ByteArray.empty, .int .u64 0, .int .u64 0, .int .u64 0, .int .u64 0, .int .i64 0, .string ByteArray.empty, .string ByteArray.empty]) 8 88 Try.underlying22 HIN.out.1 HIN.out.2.1 HIN.out.2.2.1 HIN.out.2.2.2 rfl (by decide) _ l.length (cells39 l) rfl HV.out ⟨gn, 0, none⟩ 1 1 (rowA (⟨ch, sw L3, 1, (at' l p).f0, (at' l q).f0⟩ : S39)).toList rfl rfl ?c1 ?c2 ?c3 ?c4 ?c5 ?_
                      case c1 => exact fun j u hu => (cell_at (x := (⟨ch, sw L3, 1, (at' l p).f0, (at' l q).f0⟩ : S39)) HN.out.1 j u hu)
                      case c2 => exact one39_row _
                      case c3 => have := HL.out.2.2.2.2; show l.length + 1 ≤ 9223372036854775807; omega
                      case c4 => have := HL.out.2.2.2.2; omega
                      case c5 => exact hHeld.size
                      intro v' X9 hown hgr _
                      have hb9 : Below w6.heap.size w6 X9 := hHeld.grown hgr hHeld.size (fun k e => own_base HV.out k e)
                      rw [cells39_snoc] at hown
                      refine hK.out _ _ hb9 (fun hHeld => ?_)
                      clear hK K hgr
                      try simp only [Act.put, List.getElem_toArray, List.getElem_cons_zero, List.getElem_cons_succ, List.setIfInBounds_toArray, List.set_cons_zero, List.set_cons_succ]
                      refine wpAnyH_take (i := 17) (v := v') rfl (by kernel_rfl) (by kernel_rfl) (by kernel_rfl) (fun _ _ _ h => absurd h.1 (by simp)) (.inl ⟨by rfl, fun _ _ => by go_simp⟩) hHeld ?_
                      try simp only [Act.put, List.getElem_toArray, List.getElem_cons_zero, List.getElem_cons_succ, List.setIfInBounds_toArray, List.set_cons_zero, List.set_cons_succ]
                      refine wpAnyH_done (by kernel_rfl) ?_ _
                      refine ⟨rfl, v', Av, cv, gn, ?_, hHeld, hown⟩
                      rw [ws_four L3 HSL3.out]
                    refine AllReadyH.cons rfl (fun K hK => ?_) AllReadyH.nil
                    go_simp
                    have hb := below_alloc (Below.refl W0.heap.size W0) (.cells #[Value.string ch, .int .u64 (vw (gw L3 0)), .int .u64 (vw (gw L3 1)), .int .u64 (vw (gw L3 2)), .int .u64 (vw (gw L3 3)), .int .i64 1, .string (at' l p).f0, .string (at' l q).f0] 39)
                    have HN := Aside0.mk (And.intro (show Box (W0.alloc (.cells #[Value.string ch, .int .u64 (vw (gw L3 0)), .int .u64 (vw (gw L3 1)), .int .u64 (vw (gw L3 2)), .int .u64 (vw (gw L3 3)), .int .i64 1, .string (at' l p).f0, .string (at' l q).f0] 39)) W0.heap.size 39 #[Value.string ch, .int .u64 (vw (gw L3 0)), .int .u64 (vw (gw L3 1)), .int .u64 (vw (gw L3 2)), .int .u64 (vw (gw L3 3)), .int .i64 1, .string (at' l p).f0, .string (at' l q).f0] from blk_new W0 _) hHeld.size)
                    refine hK.out _ _ (below_step hHeld hb) (fun hHeld => ?_)
                    clear hb hK K
                    generalize W0.alloc (.cells #[Value.string ch, .int .u64 (vw (gw L3 0)), .int .u64 (vw (gw L3 1)), .int .u64 (vw (gw L3 2)), .int .u64 (vw (gw L3 3)), .int .i64 1, .string (at' l p).f0, .string (at' l q).f0] 39) = X11 at *
                    generalize W0.heap.size = gn at *
                    try simp only [Act.put, List.getElem_toArray, List.getElem_cons_zero, List.getElem_cons_succ, List.setIfInBounds_toArray, List.set_cons_zero, List.set_cons_succ]
                    refine wpAnyH_ready (rs := [1]) (by kernel_rfl) (by simp) ?_
                    refine AllReadyH.cons rfl (fun K hK => ?_) AllReadyH.nil
                    go_simp
                    refine (clone_any (some ad) c l _ (HB6.out _ hHeld) HL.out.2.2.2.1 HL.out.2.2.2.2).mono ?_
                    rintro e X12 ⟨v0, rfl, hown, hb⟩
                    obtain ⟨Av, cv, rfl⟩ := own_slice hown
                    have HV := Aside0.mk (own_weaken hown hHeld.size)
                    replace HN := Aside0.mk (And.intro (show Box X12 gn 39 _ from blk_below HN.out.1 hb) HN.out.2)
                    refine hK.out _ _ (below_step hHeld hb) (fun hHeld => ?_)
                    clear hown hb hK K
                    try simp only [Act.put, List.getElem_toArray, List.getElem_cons_zero, List.getElem_cons_succ, List.setIfInBounds_toArray, List.set_cons_zero, List.set_cons_succ]
                    refine wpAnyH_ready (rs := [16]) (by kernel_rfl) (by simp) ?_
                    refine AllReadyH.cons rfl (fun K hK => ?_) AllReadyH.nil
                    rw [if_pos (by rfl)]
                    refine wp_append_own _ _ _ 22 rfl w6.heap.size 39 i0 (.agg #[.string ByteArray.empty, .int .u64 0, .int .u64 0, .int .u64 0, .int .u64 0, .int .i64 0, .string ByteArray.empty, .string ByteArray.empty]) 8 88 Try.underlying22 HIN.out.1 HIN.out.2.1 HIN.out.2.2.1 HIN.out.2.2.2 rfl (by decide) _ l.length (cells39 l) rfl HV.out ⟨gn, 0, none⟩ 1 1 (rowA (⟨ch, sw L3, 1, (at' l p).f0, (at' l q).f0⟩ : S39)).toList rfl rfl ?c1 ?c2 ?c3 ?c4 ?c5 ?_
                    case c1 => exact fun j u hu => (cell_at (x := (⟨ch, sw L3, 1, (at' l p).f0, (at' l q).f0⟩ : S39)) HN.out.1 j u hu)
                    case c2 => exact one39_row _
                    case c3 => have := HL.out.2.2.2.2; show l.length + 1 ≤ 9223372036854775807; omega
                    case c4 => have := HL.out.2.2.2.2; omega
                    case c5 => exact hHeld.size
                    intro v' X9 hown hgr _
                    have hb9 : Below w6.heap.size w6 X9 := hHeld.grown hgr hHeld.size (fun k e => own_base HV.out k e)
                    rw [cells39_snoc] at hown
                    refine hK.out _ _ hb9 (fun hHeld => ?_)
                    clear hK K hgr
                    try simp only [Act.put, List.getElem_toArray, List.getElem_cons_zero, List.getElem_cons_succ, List.setIfInBounds_toArray, List.set_cons_zero, List.set_cons_succ]
                    refine wpAnyH_take (i := 17) (v := v') rfl (by kernel_rfl) (by kernel_rfl) (by kernel_rfl) (fun _ _ _ h => absurd h.1 (by simp)) (.inl ⟨by rfl, fun _ _ => by go_simp⟩) hHeld ?_
                    try simp only [Act.put, List.getElem_toArray, List.getElem_cons_zero, List.getElem_cons_succ, List.setIfInBounds_toArray, List.set_cons_zero, List.set_cons_succ]
                    refine wpAnyH_done (by kernel_rfl) ?_ _
                    refine ⟨rfl, v', Av, cv, gn, ?_, hHeld, hown⟩
                    rw [ws_four L3 HSL3.out]
                  case hnext =>
                    rintro _ w7 ⟨v, Av, cv, gn, rfl, hb7, hown⟩
                    try simp only [Act.put, List.getElem_toArray, List.getElem_cons_zero, List.getElem_cons_succ, List.setIfInBounds_toArray, List.set_cons_zero, List.set_cons_succ]
                    rcases hown.2 with ⟨_, hz⟩ | ⟨go, cap, cur, rfl, hgo, _⟩
                    · exact absurd hz (by omega)
                    have HG7 := Aside0.mk (And.intro (Holds.below HG6.out.1 hb7) (Holds.below HG6.out.2.1 hb7))
                    have ng14 : g14 ≠ go := ne_types' (show Box w7 g14 25 _ from HG7.out.1) (own_box hown) (by decide)
                    have ng16 : g16 ≠ go := ne_types' (show Box w7 g16 25 _ from HG7.out.2) (own_box hown) (by decide)
                    have HW7 := Aside0.mk (below_step HW6.out hb7)
                    have hpl : p < (l ++ [(⟨ch, sw L3, 1, (at' l p).f0, (at' l q).f0⟩ : S39)]).length := by rw [List.length_append]; omega
                    have hql : q < ((l ++ [(⟨ch, sw L3, 1, (at' l p).f0, (at' l q).f0⟩ : S39)]).set p (putA (at39 (l ++ [(⟨ch, sw L3, 1, (at' l p).f0, (at' l q).f0⟩ : S39)]) p) L1)).length := by rw [List.length_set, List.length_append]; omega
                    have HGO := Aside0.mk (Nat.le_trans HW6.out.size hgo)
                    clear hb7
                    go_wp2_with fail
                    refine wp_put (fun a0 a' w' => a' = ((((((((((a0.put (some 116) (.slice (some ⟨go, 0, none⟩) (l.length + 1) cap)).put (some 117) (.int .i64 (p : Nat))).put (some 118) (.slice (some ⟨go, 0, none⟩) (l.length + 1) cap)).put (some 119) (.int .i64 (q : Nat))).put (some 120) (.agg (ws L1))).put (some 121) (.agg (ws L2))).put (some 122) (.pointer (some ⟨go, p * 8, none⟩))).put (some 123) (.pointer (some ⟨go, p * 8 + 1, none⟩))).put (some 124) (.pointer (some ⟨go, q * 8, none⟩))).put (some 125) (.pointer (some ⟨go, q * 8 + 1, none⟩))) ∧ But go w7 w' ∧ w'.ownsRow w6.heap.size 39 8 (.slice (some ⟨go, 0, none⟩) (l.length + 1) cap) (l.length + 1) (cells39 (((l ++ [(⟨ch, sw L3, 1, (at' l p).f0, (at' l q).f0⟩ : S39)]).set p (putA (at39 (l ++ [(⟨ch, sw L3, 1, (at' l p).f0, (at' l q).f0⟩ : S39)]) p) L1)).set q (putA (at39 ((l ++ [(⟨ch, sw L3, 1, (at' l p).f0, (at' l q).f0⟩ : S39)]).set p (putA (at39 (l ++ [(⟨ch, sw L3, 1, (at' l p).f0, (at' l q).f0⟩ : S39)]) p) L1)) q) L2)))) ?hreg ?hnext
                    case hreg =>
                      refine wp_region_held_drew (S := fun X => But go w7 X) (by kernel_rfl) (But.refl go w7).drew (fun hHeld => ?_)
                      have HO := Aside0.mk (World.ownsRow.drew hown)
                      generalize w7.drew = W0 at *
                      try simp only [Act.put, List.getElem_toArray, List.getElem_cons_zero, List.getElem_cons_succ, List.setIfInBounds_toArray, List.set_cons_zero, List.set_cons_succ]
                      refine wpAnyH_take (i := 0) (v := .slice (some ⟨go, 0, none⟩) (l.length + 1) cap) rfl (by kernel_rfl) (by kernel_rfl) (by kernel_rfl) (fun _ _ _ h => absurd h.1 (by simp)) (.inl ⟨by rfl, fun _ _ => by go_simp⟩) hHeld ?_
                      try simp only [Act.put, List.getElem_toArray, List.getElem_cons_zero, List.getElem_cons_succ, List.setIfInBounds_toArray, List.set_cons_zero, List.set_cons_succ]
                      refine wpAnyH_take (i := 1) (v := .int .i64 (p : Nat)) rfl (by kernel_rfl) (by kernel_rfl) (by kernel_rfl) (fun _ _ _ h => absurd h.1 (by simp)) (.inl ⟨by rfl, fun _ _ => by go_simp⟩) hHeld ?_
                      try simp only [Act.put, List.getElem_toArray, List.getElem_cons_zero, List.getElem_cons_succ, List.setIfInBounds_toArray, List.set_cons_zero, List.set_cons_succ]
                      refine wpAnyH_take (i := 2) (v := .slice (some ⟨go, 0, none⟩) (l.length + 1) cap) rfl (by kernel_rfl) (by kernel_rfl) (by kernel_rfl) (fun _ _ _ h => absurd h.1 (by simp)) (.inl ⟨by rfl, fun _ _ => by go_simp⟩) hHeld ?_
                      try simp only [Act.put, List.getElem_toArray, List.getElem_cons_zero, List.getElem_cons_succ, List.setIfInBounds_toArray, List.set_cons_zero, List.set_cons_succ]
                      refine wpAnyH_take (i := 3) (v := .int .i64 (q : Nat)) rfl (by kernel_rfl) (by kernel_rfl) (by kernel_rfl) (fun _ _ _ h => absurd h.1 (by simp)) (.inl ⟨by rfl, fun _ _ => by go_simp⟩) hHeld ?_
                      try simp only [Act.put, List.getElem_toArray, List.getElem_cons_zero, List.getElem_cons_succ, List.setIfInBounds_toArray, List.set_cons_zero, List.set_cons_succ]
                      refine wpAnyH_take (i := 4) (v := .agg (wl L1).toArray) rfl (by kernel_rfl) (by kernel_rfl) (by kernel_rfl) (fun _ _ _ h => absurd h.1 (by simp)) (yieldsIf_load_mid rfl 25 _ rfl g14 0 rfl (wl L1) _ (fun X' hS => range_of (show Holds X' g14 25 L1 from hS.box (show Box w7 g14 25 _ from HG7.out.1) ng14)) Try.underlying25 rfl (by rw [Hi25.out, wl, List.length_map, HSL1.out])) hHeld ?_
                      try simp only [Act.put, List.getElem_toArray, List.getElem_cons_zero, List.getElem_cons_succ, List.setIfInBounds_toArray, List.set_cons_zero, List.set_cons_succ]
                      refine wpAnyH_take (i := 5) (v := .agg (wl L2).toArray) rfl (by kernel_rfl) (by kernel_rfl) (by kernel_rfl) (fun _ _ _ h => absurd h.1 (by simp)) (yieldsIf_load_mid rfl 25 _ rfl g16 0 rfl (wl L2) _ (fun X' hS => range_of (show Holds X' g16 25 L2 from hS.box (show Box w7 g16 25 _ from HG7.out.2) ng16)) Try.underlying25 rfl (by rw [Hi25.out, wl, List.length_map, HSL2.out])) hHeld ?_
                      try simp only [Act.put, List.getElem_toArray, List.getElem_cons_zero, List.getElem_cons_succ, List.setIfInBounds_toArray, List.set_cons_zero, List.set_cons_succ]
                      rw [wl_eq, wl_eq]
                      refine wpAnyH_take (i := 6) (v := .pointer (some ⟨go, p * 8, none⟩)) rfl (by kernel_rfl) (by kernel_rfl) (by kernel_rfl) (fun _ _ _ h => absurd h.1 (by simp)) (.inl ⟨by rfl, fun _ _ => by go_simp; intro hh; exact absurd hh (by omega)⟩) hHeld ?_
                      try simp only [Act.put, List.getElem_toArray, List.getElem_cons_zero, List.getElem_cons_succ, List.setIfInBounds_toArray, List.set_cons_zero, List.set_cons_succ]
                      refine wpAnyH_take (i := 7) (v := .pointer (some ⟨go, p * 8 + 1, none⟩)) rfl (by kernel_rfl) (by kernel_rfl) (by kernel_rfl) (fun _ _ _ h => absurd h.1 (by simp)) (.inl ⟨by rfl, fun _ _ => by go_simp⟩) hHeld ?_
                      try simp only [Act.put, List.getElem_toArray, List.getElem_cons_zero, List.getElem_cons_succ, List.setIfInBounds_toArray, List.set_cons_zero, List.set_cons_succ]
                      have P := own_put4 HO.out p hpl L1
                      obtain ⟨⟨e1a, e1b⟩, ⟨e2a, e2b⟩, ⟨e3a, e3b⟩, ⟨e4a, e4b⟩, ho⟩ := P
                      have HOn := Aside0.mk ho
                      clear ho
                      have hwf := ws_four L1 HSL1.out
                      refine wpAnyH_ready (rs := [8]) (by kernel_rfl) (by simp) ?_
                      refine AllReadyH.cons rfl (fun K hK => ?_) AllReadyH.nil
                      go_simp
                      refine hK.out _ _ (hHeld.trans (but_set4 _ go (p * 8 + 1) _ _ _ _)) (fun hHeld => ?_)
                      clear hK K e1a e1b e2a e2b e3a e3b e4a e4b hwf HO
                      have HO := HOn
                      clear HOn
                      generalize (((W0.setCell _ _).setCell _ _).setCell _ _).setCell _ _ = Y1 at *
                      try simp only [Act.put, List.getElem_toArray, List.getElem_cons_zero, List.getElem_cons_succ, List.setIfInBounds_toArray, List.set_cons_zero, List.set_cons_succ]
                      refine wpAnyH_take (i := 9) (v := .pointer (some ⟨go, q * 8, none⟩)) rfl (by kernel_rfl) (by kernel_rfl) (by kernel_rfl) (fun _ _ _ h => absurd h.1 (by simp)) (.inl ⟨by rfl, fun _ _ => by go_simp; intro hh; exact absurd hh (by omega)⟩) hHeld ?_
                      try simp only [Act.put, List.getElem_toArray, List.getElem_cons_zero, List.getElem_cons_succ, List.setIfInBounds_toArray, List.set_cons_zero, List.set_cons_succ]
                      refine wpAnyH_take (i := 10) (v := .pointer (some ⟨go, q * 8 + 1, none⟩)) rfl (by kernel_rfl) (by kernel_rfl) (by kernel_rfl) (fun _ _ _ h => absurd h.1 (by simp)) (.inl ⟨by rfl, fun _ _ => by go_simp⟩) hHeld ?_
                      try simp only [Act.put, List.getElem_toArray, List.getElem_cons_zero, List.getElem_cons_succ, List.setIfInBounds_toArray, List.set_cons_zero, List.set_cons_succ]
                      have P := own_put4 HO.out q hql L2
                      obtain ⟨⟨e1a, e1b⟩, ⟨e2a, e2b⟩, ⟨e3a, e3b⟩, ⟨e4a, e4b⟩, ho⟩ := P
                      have HOn := Aside0.mk ho
                      clear ho
                      have hwf := ws_four L2 HSL2.out
                      refine wpAnyH_ready (rs := [11]) (by kernel_rfl) (by simp) ?_
                      refine AllReadyH.cons rfl (fun K hK => ?_) AllReadyH.nil
                      go_simp
                      refine hK.out _ _ (hHeld.trans (but_set4 _ go (q * 8 + 1) _ _ _ _)) (fun hHeld => ?_)
                      clear hK K e1a e1b e2a e2b e3a e3b e4a e4b hwf HO
                      have HO := HOn
                      clear HOn
                      generalize (((Y1.setCell _ _).setCell _ _).setCell _ _).setCell _ _ = Y2 at *
                      try simp only [Act.put, List.getElem_toArray, List.getElem_cons_zero, List.getElem_cons_succ, List.setIfInBounds_toArray, List.set_cons_zero, List.set_cons_succ]
                      refine wpAnyH_done (by kernel_rfl) ?_ _
                      refine ⟨rfl, ?_, hHeld, HO.out⟩
                      rw [ws_four L1 HSL1.out, ws_four L2 HSL2.out]
                    case hnext =>
                      rintro _ w8 ⟨rfl, hb8, hown8⟩
                      try simp only [Act.put, List.getElem_toArray, List.getElem_cons_zero, List.getElem_cons_succ, List.setIfInBounds_toArray, List.set_cons_zero, List.set_cons_succ]
                      go_wp2_with fail
                      refine bodyPost_ret (v := .tuple #[.slice (some ⟨go, 0, none⟩) (l.length + 1) cap, .int .i64 0]) (by simp [results, Try.results11, go_sem]) rfl ⟨fun h => absurd HE.out h, fun _ => ⟨_, rfl, ?_, But.below HW7.out hb8 HGO.out (Nat.le_refl _)⟩⟩
                      have hpq := HPQ.out
                      have a1 : at39 (l ++ [(⟨ch, sw L3, 1, (at' l p).f0, (at' l q).f0⟩ : S39)]) p = at' l p := at39_app l _ p hp
                      have a2 : at39 ((l ++ [(⟨ch, sw L3, 1, (at' l p).f0, (at' l q).f0⟩ : S39)]).set p (putA (at39 (l ++ [(⟨ch, sw L3, 1, (at' l p).f0, (at' l q).f0⟩ : S39)]) p) L1)) q = at' l q := (at39_set _ _ p q hpq).trans (at39_app l _ q hq)
                      rw [a2, a1, List.set_append_left _ _ hp, List.set_append_left _ _ (by rw [List.length_set]; exact hq)] at hown8
                      rw [HEQ.out.2, HEQ.out.1]
                      exact own_weaken hown8 HW6.out.size
            · have HE := Aside0.mk (show bindE l ch p q a b = 2 by rw [bindE, if_neg hne, if_pos (.inr (.inr s3))])
              clear t1 t2 t3 hne
              go_enter Try.func11, Try.ntmps11
              go_wp2_with fail
              refine (there_any (some ad) c l p _ HC.out HL.out.2.2.2.1).mono ?_
              rintro e w1 ⟨rfl, ⟨nd, hw1⟩⟩
              rw [d1]
              have HC1 := Aside0.mk (show Kd.C k39 w1 (some ad) l.length l by rw [hw1]; exact Kd.C_drewN HC.out _)
              have HW1 := Aside0.mk (show Below w.heap.size w w1 by rw [hw1]; exact pw_below_drewN HT.out.2.2 _)
              have HG1 := Aside0.mk (show Holds w1 w.heap.size 25 a ∧ Holds w1 (w.heap.size + 1) 25 b by rw [hw1]; exact ⟨HT.out.1, HT.out.2.1⟩)
              clear hw1
              go_wp2_with fail
              refine (there_any (some ad) c l q _ HC1.out HL.out.2.2.2.1).mono ?_
              rintro e w2 ⟨rfl, ⟨nd2, hw2⟩⟩
              rw [d2]
              have HC2 := Aside0.mk (show Kd.C k39 w2 (some ad) l.length l by rw [hw2]; exact Kd.C_drewN HC1.out _)
              have HW2 := Aside0.mk (show Below w.heap.size w w2 by rw [hw2]; exact pw_below_drewN HW1.out _)
              have HG2 := Aside0.mk (show Holds w2 w.heap.size 25 a ∧ Holds w2 (w.heap.size + 1) 25 b by rw [hw2]; exact HG1.out)
              clear hw2 HC1 HW1 HG1
              obtain ⟨ad1, ea1, e0, e1, e2, e3, e4, e5, e6, e7⟩ := at_T39 HC2.out (p : Int) (by omega) (by omega)
              obtain ⟨ad2, ea2, f0, f1, f2, f3, f4, f5, f6, f7⟩ := at_T39 HC2.out (q : Int) (by omega) (by omega)
              obtain rfl := Option.some.inj ea1
              obtain rfl := Option.some.inj ea2
              clear ea1 ea2 e0 e1 e2 e3 e4 e6 e7 f0 f1 f2 f3 f4 f6 f7
              simp only [Int.toNat_natCast] at e5 f5
              change _ = some (Value.int .i64 (at' l p).f2) at e5
              change _ = some (Value.int .i64 (at' l q).f2) at f5
              generalize (at' l p).f2 = kp at *
              generalize (at' l q).f2 = kq at *
              have i1 : decide ((p : Int) < l.length) = true := decide_eq_true (by omega)
              have i2 : decide ((q : Int) < l.length) = true := decide_eq_true (by omega)
              have sb : (kq != 0) = true := bne_iff_ne.2 s3
              subst s2
              go_wp2_with fail
              exact bodyPost_ret (v := .tuple #[.slice (some ad) l.length c, .int .i64 2]) (by simp [results, Try.results11, go_sem]) rfl ⟨fun _ => ⟨by rw [HE.out], HW2.out⟩, fun h => absurd (HE.out.symm.trans h) (by decide)⟩
          · have HE := Aside0.mk (show bindE l ch p q a b = 2 by rw [bindE, if_neg hne, if_pos (.inr (.inl s2))])
            clear t1 t2 t3 hne
            go_enter Try.func11, Try.ntmps11
            go_wp2_with fail
            refine (there_any (some ad) c l p _ HC.out HL.out.2.2.2.1).mono ?_
            rintro e w1 ⟨rfl, ⟨nd, hw1⟩⟩
            rw [d1]
            have HC1 := Aside0.mk (show Kd.C k39 w1 (some ad) l.length l by rw [hw1]; exact Kd.C_drewN HC.out _)
            have HW1 := Aside0.mk (show Below w.heap.size w w1 by rw [hw1]; exact pw_below_drewN HT.out.2.2 _)
            have HG1 := Aside0.mk (show Holds w1 w.heap.size 25 a ∧ Holds w1 (w.heap.size + 1) 25 b by rw [hw1]; exact ⟨HT.out.1, HT.out.2.1⟩)
            clear hw1
            go_wp2_with fail
            refine (there_any (some ad) c l q _ HC1.out HL.out.2.2.2.1).mono ?_
            rintro e w2 ⟨rfl, ⟨nd2, hw2⟩⟩
            rw [d2]
            have HC2 := Aside0.mk (show Kd.C k39 w2 (some ad) l.length l by rw [hw2]; exact Kd.C_drewN HC1.out _)
            have HW2 := Aside0.mk (show Below w.heap.size w w2 by rw [hw2]; exact pw_below_drewN HW1.out _)
            have HG2 := Aside0.mk (show Holds w2 w.heap.size 25 a ∧ Holds w2 (w.heap.size + 1) 25 b by rw [hw2]; exact HG1.out)
            clear hw2 HC1 HW1 HG1
            obtain ⟨ad1, ea1, e0, e1, e2, e3, e4, e5, e6, e7⟩ := at_T39 HC2.out (p : Int) (by omega) (by omega)
            obtain ⟨ad2, ea2, f0, f1, f2, f3, f4, f5, f6, f7⟩ := at_T39 HC2.out (q : Int) (by omega) (by omega)
            obtain rfl := Option.some.inj ea1
            obtain rfl := Option.some.inj ea2
            clear ea1 ea2 e0 e1 e2 e3 e4 e6 e7 f0 f1 f2 f3 f4 f6 f7
            simp only [Int.toNat_natCast] at e5 f5
            change _ = some (Value.int .i64 (at' l p).f2) at e5
            change _ = some (Value.int .i64 (at' l q).f2) at f5
            generalize (at' l p).f2 = kp at *
            generalize (at' l q).f2 = kq at *
            have i1 : decide ((p : Int) < l.length) = true := decide_eq_true (by omega)
            have i2 : decide ((q : Int) < l.length) = true := decide_eq_true (by omega)
            have sb : (kp != 0) = true := bne_iff_ne.2 s2
            go_wp2_with fail
            exact bodyPost_ret (v := .tuple #[.slice (some ad) l.length c, .int .i64 2]) (by simp [results, Try.results11, go_sem]) rfl ⟨fun _ => ⟨by rw [HE.out], HW2.out⟩, fun h => absurd (HE.out.symm.trans h) (by decide)⟩
        · have HE := Aside0.mk (show bindE l ch p q a b = 2 by rw [bindE, if_neg hne, if_pos (.inl s1)])
          clear t1 t2 t3 hne
          go_enter Try.func11, Try.ntmps11
          go_wp2_with fail
          refine (there_any (some ad) c l p _ HC.out HL.out.2.2.2.1).mono ?_
          rintro e w1 ⟨rfl, ⟨nd, hw1⟩⟩
          rw [d1]
          have HC1 := Aside0.mk (show Kd.C k39 w1 (some ad) l.length l by rw [hw1]; exact Kd.C_drewN HC.out _)
          have HW1 := Aside0.mk (show Below w.heap.size w w1 by rw [hw1]; exact pw_below_drewN HT.out.2.2 _)
          have HG1 := Aside0.mk (show Holds w1 w.heap.size 25 a ∧ Holds w1 (w.heap.size + 1) 25 b by rw [hw1]; exact ⟨HT.out.1, HT.out.2.1⟩)
          clear hw1
          go_wp2_with fail
          refine (there_any (some ad) c l q _ HC1.out HL.out.2.2.2.1).mono ?_
          rintro e w2 ⟨rfl, ⟨nd2, hw2⟩⟩
          rw [d2]
          have HC2 := Aside0.mk (show Kd.C k39 w2 (some ad) l.length l by rw [hw2]; exact Kd.C_drewN HC1.out _)
          have HW2 := Aside0.mk (show Below w.heap.size w w2 by rw [hw2]; exact pw_below_drewN HW1.out _)
          have HG2 := Aside0.mk (show Holds w2 w.heap.size 25 a ∧ Holds w2 (w.heap.size + 1) 25 b by rw [hw2]; exact HG1.out)
          clear hw2 HC1 HW1 HG1
          go_wp2_with fail
          exact bodyPost_ret (v := .tuple #[.slice (some ad) l.length c, .int .i64 2]) (by simp [results, Try.results11, go_sem]) rfl ⟨fun _ => ⟨by rw [HE.out], HW2.out⟩, fun h => absurd (HE.out.symm.trans h) (by decide)⟩
    · have d2 := decide_eq_false t2
      have HE := Aside0.mk (show bindE l ch i j a b = 3 by rw [bindE, if_pos (.inr (.inl t2))])
      clear t1 t2
      go_enter Try.func11, Try.ntmps11
      go_wp2_with fail
      refine (there_any A c l i _ HC.out HL.out.2.2.2.1).mono ?_
      rintro e w1 ⟨rfl, ⟨nd, hw1⟩⟩
      rw [d1]
      have HC1 := Aside0.mk (show Kd.C k39 w1 A l.length l by rw [hw1]; exact Kd.C_drewN HC.out _)
      have HW1 := Aside0.mk (show Below w.heap.size w w1 by rw [hw1]; exact pw_below_drewN HT.out.2.2 _)
      have HG1 := Aside0.mk (show Holds w1 w.heap.size 25 a ∧ Holds w1 (w.heap.size + 1) 25 b by rw [hw1]; exact ⟨HT.out.1, HT.out.2.1⟩)
      clear hw1
      go_wp2_with fail
      refine (there_any A c l j _ HC1.out HL.out.2.2.2.1).mono ?_
      rintro e w2 ⟨rfl, ⟨nd2, hw2⟩⟩
      rw [d2]
      have HC2 := Aside0.mk (show Kd.C k39 w2 A l.length l by rw [hw2]; exact Kd.C_drewN HC1.out _)
      have HW2 := Aside0.mk (show Below w.heap.size w w2 by rw [hw2]; exact pw_below_drewN HW1.out _)
      have HG2 := Aside0.mk (show Holds w2 w.heap.size 25 a ∧ Holds w2 (w.heap.size + 1) 25 b by rw [hw2]; exact HG1.out)
      clear hw2 HC1 HW1 HG1
      go_wp2_with fail
      exact bodyPost_ret (v := .tuple #[.slice A l.length c, .int .i64 3]) (by simp [results, Try.results11, go_sem]) rfl ⟨fun _ => ⟨by rw [HE.out], HW2.out⟩, fun h => absurd (HE.out.symm.trans h) (by decide)⟩
  · have d1 := decide_eq_false t1
    have HE := Aside0.mk (show bindE l ch i j a b = 3 by rw [bindE, if_pos (.inl t1)])
    clear t1
    go_enter Try.func11, Try.ntmps11
    go_wp2_with fail
    refine (there_any A c l i _ HC.out HL.out.2.2.2.1).mono ?_
    rintro e w1 ⟨rfl, ⟨nd, hw1⟩⟩
    rw [d1]
    have HC1 := Aside0.mk (show Kd.C k39 w1 A l.length l by rw [hw1]; exact Kd.C_drewN HC.out _)
    have HW1 := Aside0.mk (show Below w.heap.size w w1 by rw [hw1]; exact pw_below_drewN HT.out.2.2 _)
    have HG1 := Aside0.mk (show Holds w1 w.heap.size 25 a ∧ Holds w1 (w.heap.size + 1) 25 b by rw [hw1]; exact ⟨HT.out.1, HT.out.2.1⟩)
    clear hw1
    go_wp2_with fail
    exact bodyPost_ret (v := .tuple #[.slice A l.length c, .int .i64 3]) (by simp [results, Try.results11, go_sem]) rfl ⟨fun _ => ⟨by rw [HE.out], HW1.out⟩, fun h => absurd (HE.out.symm.trans h) (by decide)⟩
end Go.Proofs.Ytlkecihibmndbaa.P
