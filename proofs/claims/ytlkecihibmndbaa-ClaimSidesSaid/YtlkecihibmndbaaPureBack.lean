import Derived.Test.YtlkecihibmndbaaPureC
import Derived.Test.YtlkecihibmndbaaPtrucelaw18ClaimBack
namespace Go.Proofs.Ytlkecihibmndbaa.P
set_option linter.unusedVariables false
set_option linter.unusedSimpArgs false
set_option linter.unusedSectionVars false
open Go.RowKit Go.Proofs.YtlkecihibmndbaaW.PrintWords
/-! What was bound, and went back by the same shares, is as before. -/
def share (a : List W64) : S39 := ⟨⟨#[]⟩, sw a, 0, ⟨#[]⟩, ⟨#[]⟩⟩
theorem am_share (a : List W64) (ha : a.length = 4) : am (share a) = a := by
  show wl4 _ _ _ _ = _
  exact wl4_sw a ha
section
variable {l : List S39} {ch : ByteArray} {p q : Nat} {a b : List W64} (hl : okL l) (ha : a.length = 4) (hb : b.length = 4) (hf : BFine l ch p q a b)
/-- The front of what binding tells. -/
def frontL (l : List S39) (p q : Nat) (a b : List W64) : List S39 := (l.set p (putA (at39 l p) (subk (am (at39 l p)) a 4).1)).set q (putA (at39 l q) (subk (am (at39 l q)) b 4).1)
def boundA (l : List S39) (ch : ByteArray) (p q : Nat) (a b : List W64) : S39 := ⟨ch, sw (addk a b 4).1, 1, (at39 l p).f0, (at39 l q).f0⟩
theorem bind_front (l : List S39) (ch : ByteArray) (p q : Nat) (a b : List W64) : bindL l ch p q a b = frontL l p q a b ++ [boundA l ch p q a b] := rfl
theorem front_len (l : List S39) (p q : Nat) (a b : List W64) : (frontL l p q a b).length = l.length := by simp [frontL]
include hf in
theorem front_at (j : Nat) : at39 (frontL l p q a b) j = if j = p then putA (at39 l p) (subk (am (at39 l p)) a 4).1 else if j = q then putA (at39 l q) (subk (am (at39 l q)) b 4).1 else at39 l j := by
  have hne := hf.ne
  by_cases h1 : j = q
  · subst h1
    rw [if_neg (fun e => hne e.symm), if_pos rfl, at39_get (by rw [front_len]; exact hf.hq)]
    simp [frontL]
  · rw [frontL, at39_set _ _ q j (fun e => h1 e.symm)]
    by_cases h2 : j = p
    · subst h2
      rw [if_pos rfl, at39_get (by rw [List.length_set]; exact hf.hp)]
      simp
    · rw [if_neg h2, if_neg h1, at39_set _ _ p j (fun e => h2 e.symm)]
theorem last_at (l r : List S39) (x : S39) (h : r = l ++ [x]) : at39 r l.length = x := by subst h; simp [at39]
theorem del_last (l : List S39) (x : S39) : delL (l ++ [x]) l.length = l := by simp [delL]
include hf in
theorem front_plain (d : ByteArray) (j : Nat) (hj : j < l.length) : plainB d (at39 (frontL l p q a b) j) = plainB d (at39 l j) := by
  rw [front_at hf]
  split
  · rename_i e; subst e; rfl
  · split
    · rename_i e; subst e; rfl
    · rfl
/-- No plain one has an earlier one's address. -/
def Apart (l : List S39) : Prop := ∀ i j, i < j → j < l.length → (at39 l i).f2 = 0 → (at39 l j).f2 = 0 → (at39 l j).f0.toList ≠ (at39 l i).f0.toList
theorem first_of {o : List S39} {p : Nat} {d : ByteArray} (hp : p < o.length) (h : plainB d (at39 o p) = true) (hn : ∀ j, j < p → plainB d (at39 o j) = false) : plainI o d = (p : Int) := firstI_at _ _ _ hp hn h
theorem plainB_iff (d : ByteArray) (x : S39) : plainB d x = true ↔ x.f2 = 0 ∧ x.f0.toList = d.toList := by simp [plainB]
theorem back_self (x : S39) (hx : okA x) (a : List W64) (ha : a.length = 4) (h : (subk (am x) a 4).2 ≠ 1) :
    (addk (subk (am x) a 4).1 a 4).2 ≠ 1 ∧ (addk (subk (am x) a 4).1 a 4).1 = am x := by
  have hl : (subk (am x) a 4).1.length = 4 := by rw [subk_len]; rfl
  obtain ⟨h1, h2⟩ := sub_fine (am_len x) ha h
  have hx := val_lt (am x)
  have ho : (addk (subk (am x) a 4).1 a 4).2 ≠ 1 := by
    rw [add_over _ _ hl ha, if_pos (by omega)]
    decide
  exact ⟨ho, val_inj _ _ (by rw [addk_len, hl]) (am_len x) (by rw [add_fine hl ha ho, h2]; omega)⟩
include hl ha hb hf in
theorem back_bound (hap : Apart l) : recE (bindL l ch p q a b) (l.length : Int) [share a, share b] = 0 ∧ gv (bindL l ch p q a b) [share a, share b] l.length 2 = l := by
  have hp := hf.hp
  have hq := hf.hq
  have hne := hf.ne
  have hfl := front_len l p q a b
  obtain ⟨u, hu⟩ : ∃ u, u = bindL l ch p q a b := ⟨_, rfl⟩
  have hu' := hu.trans (bind_front l ch p q a b)
  have hul : u.length = l.length + 1 := by rw [hu', List.length_append, hfl]; rfl
  have hat : at39 u l.length = boundA l ch p q a b := by rw [← hfl]; exact last_at _ _ _ hu'
  have hin : ∀ j, j < l.length → at39 u j = at39 (frontL l p q a b) j := fun j hj => by rw [hu', at39_app _ _ _ (by omega)]
  have kp : plainB (at39 l p).f0 (at39 l p) = true := (plainB_iff _ _).2 ⟨hf.kp, rfl⟩
  have kq : plainB (at39 l q).f0 (at39 l q) = true := (plainB_iff _ _).2 ⟨hf.kq, rfl⟩
  have pl : 0 ≤ plainI u (at39 l p).f0 := plainI_ge (p := p) (by omega) (by rw [hin p hp, front_plain hf _ p hp]; exact kp)
  have pr : 0 ≤ plainI u (at39 l q).f0 := plainI_ge (p := q) (by omega) (by rw [hin q hq, front_plain hf _ q hq]; exact kq)
  have rough : ¬ 0 ≤ firstI roughB [share a, share b] 0 := by
    rw [firstI_none roughB [share a, share b] (fun j hj => by
      have h01 : j = 0 ∨ j = 1 := by simp at hj; omega
      rcases h01 with rfl | rfl <;> rfl)]
    omega
  have a0 : am (at39 [share a, share b] 0) = a := am_share a ha
  have a1 : am (at39 [share a, share b] 1) = b := am_share b hb
  have asum : am (boundA l ch p q a b) = (addk a b 4).1 := wl4_sw _ (by rw [addk_len, ha])
  have ha' : at' u (l.length : Int) = boundA l ch p q a b := by rw [at', Int.toNat_natCast]; exact hat
  have hbe : boundE u (l.length : Int) [share a, share b] = 0 := by
    rw [boundE, if_neg (fun h => h (show isThere _ _ from by unfold isThere; omega)), ha', if_neg, if_neg, if_neg]
    · rintro (h | h)
      · have : plainI u (at39 l p).f0 < 0 := h; omega
      · have : plainI u (at39 l q).f0 < 0 := h; omega
    · rw [a0, a1, asum]
      rintro (h | h)
      · exact hf.ov h
      · exact h rfl
    · rintro (h | h | h)
      · exact h rfl
      · exact h rfl
      · exact rough h
  have g0 : gv u [share a, share b] l.length 0 = frontL l p q a b := by
    show delL u l.length = _
    have := del_last (frontL l p q a b) (boundA l ch p q a b)
    rw [hfl, ← hu'] at this
    exact this
  have s0 : sideT (at39 u l.length) 0 = (at39 l p).f0 := by rw [hat]; rfl
  have s1 : sideT (at39 u l.length) 1 = (at39 l q).f0 := by rw [hat]; rfl
  have noearly : ∀ r, r < l.length → (at39 l r).f2 = 0 → ∀ j, j < r → plainB (at39 l r).f0 (at39 l j) = false := fun r hr h0 j hj => by
    rw [Bool.eq_false_iff]
    intro h
    obtain ⟨e1, e2⟩ := (plainB_iff _ _).1 h
    exact hap j r hj hr e1 h0 e2.symm
  have p0 : gp u [share a, share b] l.length 0 = p := by
    rw [gp, g0, s0, first_of (p := p) (by omega) (by rw [front_plain hf _ p hp]; exact kp) (fun j hj => by rw [front_plain hf _ j (by omega)]; exact noearly p hp hf.kp j hj)]
    rfl
  have fp : at39 (frontL l p q a b) p = putA (at39 l p) (subk (am (at39 l p)) a 4).1 := by rw [front_at hf, if_pos rfl]
  have fq : at39 (frontL l p q a b) q = putA (at39 l q) (subk (am (at39 l q)) b 4).1 := by rw [front_at hf, if_neg (fun e => hne e.symm), if_pos rfl]
  have bp := back_self (at39 l p) (hl _ (at39_mem hp)) a ha hf.up
  have bq := back_self (at39 l q) (hl _ (at39_mem hq)) b hb hf.uq
  have w0 : gsum u [share a, share b] l.length 0 = addk (subk (am (at39 l p)) a 4).1 a 4 := by
    rw [gsum, p0, g0, fp, am_putA _ _ (by rw [subk_len]; rfl), a0]
  obtain ⟨o1, ho1⟩ : ∃ o1, o1 = gv u [share a, share b] l.length 1 := ⟨_, rfl⟩
  have g1 : o1 = giveL (frontL l p q a b) p (am (at39 l p)) := by
    rw [ho1]
    show gv u [share a, share b] l.length (0 + 1) = _
    rw [gv_succ, p0, g0, w0, bp.2]
  have at1 : ∀ j, at39 o1 j = if j = q then putA (at39 l q) (subk (am (at39 l q)) b 4).1 else at39 l j := fun j => by
    rw [g1, giveL_at _ _ _ (by omega), fp]
    by_cases h : j = p
    · subst h
      rw [if_pos rfl, if_neg hne]
      exact putA_self _ (hl _ (at39_mem hp))
    · rw [if_neg h, front_at hf, if_neg h]
  have len1 : o1.length = l.length := by rw [g1, giveL_len, hfl]
  have pl1 : ∀ d j, plainB d (at39 o1 j) = plainB d (at39 l j) := fun d j => by
    rw [at1]
    split
    · rename_i e; subst e; rfl
    · rfl
  have p1 : gp u [share a, share b] l.length 1 = q := by
    rw [gp, ← ho1, s1, first_of (p := q) (by omega) (by rw [pl1]; exact kq) (fun j hj => by rw [pl1]; exact noearly q hq hf.kq j hj)]
    rfl
  have w1 : gsum u [share a, share b] l.length 1 = addk (subk (am (at39 l q)) b 4).1 b 4 := by
    rw [gsum, p1, ← ho1, at1, if_pos rfl, am_putA _ _ (by rw [subk_len]; rfl), a1]
  rw [← hu]
  refine ⟨?_, ?_⟩
  · rw [recE, if_neg (fun h => h hbe), Int.toNat_natCast, w0, w1, if_neg]
    rintro (h | h)
    · exact bp.1 h
    · exact bq.1 h
  · show gv u [share a, share b] l.length (1 + 1) = _
    rw [gv_succ, p1, w1, bq.2, ← ho1]
    apply List.ext_getElem
    · rw [giveL_len, len1]
    · intro j h1 h2
      rw [← at39_get h1, ← at39_get h2, giveL_at _ _ _ (by omega), at1, if_pos rfl, at1]
      by_cases h : j = q
      · subst h
        rw [if_pos rfl]
        exact putA_self _ (hl _ (at39_mem hq))
      · rw [if_neg h, if_neg h]
end
section
variable {l : List S39} {ch : ByteArray} {p q : Nat} {a b : List W64} (hl : okL l) (ha : a.length = 4) (hb : b.length = 4) (hf : BFine l ch p q a b)
include hl ha hb hf in
theorem back_end (hap : Apart l) (k : Nat) (hk : 100 < k) (m : Int) (i : Int) (hi : ¬ i < m) :
    trucelaw18_ClaimBack.l0 (k + 1) l (bindL l ch p q a b) l m i (sw a).f0 (sw a).f1 (sw a).f2 (sw a).f3 (sw b).f0 (sw b).f1 (sw b).f2 (sw b).f3 = some true := by
  have h8 := hf.few
  have hlen : (bindL l ch p q a b).length = l.length + 1 := by simp [bindL_eq]
  have hw : wrap64 (((bindL l ch p q a b).length : Int) - 1) = (l.length : Int) := by rw [hlen]; unfold wrap64; omega
  have B := back_bound hl ha hb hf hap
  have hok : okL [share a, share b] := fun x hx => by
    simp at hx
    rcases hx with rfl | rfl <;> exact ok4_sw _
  rw [trucelaw18_ClaimBack.l0, if_neg hi, hw]
  show (claim_Reclaim.f (bindL l ch p q a b) (l.length : Int) [share a, share b]).bind _ = _
  rw [rec_val _ (okL_bind hl _ _ _ _ _) (by omega) _ _ hok (by simp), Option.bind_some, B.1]
  dsimp only
  rw [if_pos rfl, if_pos rfl, Int.toNat_natCast, B.2, same_refl l (by omega) k (by omega), Option.bind_some, if_pos rfl, awake_true]
  rfl
/-- The places that were asked have no earlier one's address. -/
def ApartTo (l : List S39) (i : Nat) : Prop := ∀ s t, s < t → t < i → (at39 l s).f2 = 0 → (at39 l t).f2 = 0 → (at39 l t).f0.toList ≠ (at39 l s).f0.toList
include hl ha hb hf in
theorem back_l1 (i : Nat) (hi : i < l.length) (hap : ApartTo l i)
    (ih : ∀ k, 101 + 20 * (l.length - (i + 1)) < k → ApartTo l (i + 1) → trucelaw18_ClaimBack.l0 k l (bindL l ch p q a b) l (l.length : Int) ((i + 1 : Nat) : Int) (sw a).f0 (sw a).f1 (sw a).f2 (sw a).f3 (sw b).f0 (sw b).f1 (sw b).f2 (sw b).f3 = some true) :
    ∀ (d j k : Nat), i - j ≤ d → j ≤ i → 101 + 20 * (l.length - (i + 1)) + d + 1 < k →
      (∀ s, s < j → (at39 l s).f2 = 0 → (at39 l i).f2 = 0 → (at39 l i).f0.toList ≠ (at39 l s).f0.toList) →
      trucelaw18_ClaimBack.l1 k l (bindL l ch p q a b) l (l.length : Int) (i : Int) (i : Int) (j : Int) (sw a).f0 (sw a).f1 (sw a).f2 (sw a).f3 (sw b).f0 (sw b).f1 (sw b).f2 (sw b).f3
        (at39 l i).f0 (at39 l i).f1.f0 (at39 l i).f1.f1 (at39 l i).f1.f2 (at39 l i).f1.f3 (at39 l i).f2 (at39 l i).f3 (at39 l i).f4 = some true := by
  have h8 := hf.few
  intro d
  induction d with
  | zero =>
    intro j k hd hj hk hz
    obtain ⟨k, rfl⟩ : ∃ m, k = m + 1 := ⟨k - 1, by omega⟩
    obtain rfl : j = i := by omega
    rw [trucelaw18_ClaimBack.l1, if_neg (by omega), wrap_nat1 _ (by omega)]
    refine ih k (by omega) (fun s t hst ht h1 h2 => ?_)
    by_cases e : t = j
    · subst e; exact hz s hst h1 h2
    · exact hap s t hst (by omega) h1 h2
  | succ d ihd =>
    intro j k hd hj hk hz
    by_cases h : j < i
    · obtain ⟨k, rfl⟩ : ∃ m, k = m + 1 := ⟨k - 1, by omega⟩
      have next : ((at39 l j).f2 = 0 → (at39 l i).f2 = 0 → (at39 l i).f0.toList ≠ (at39 l j).f0.toList) → trucelaw18_ClaimBack.l1 k l (bindL l ch p q a b) l (l.length : Int) (i : Int) (i : Int) (wrap64 ((j : Int) + 1)) (sw a).f0 (sw a).f1 (sw a).f2 (sw a).f3 (sw b).f0 (sw b).f1 (sw b).f2 (sw b).f3
        (at39 l i).f0 (at39 l i).f1.f0 (at39 l i).f1.f1 (at39 l i).f1.f2 (at39 l i).f1.f3 (at39 l i).f2 (at39 l i).f3 (at39 l i).f4 = some true := fun hn => by
        rw [wrap_nat1 _ (by omega)]
        refine ihd (j + 1) k (by omega) (by omega) (by omega) (fun s hs => ?_)
        by_cases e : s = j
        · subst e; exact hn
        · exact hz s (by omega)
      rw [trucelaw18_ClaimBack.l1, if_pos (by omega)]
      by_cases c1 : (at39 l i).f2 = 0
      · rw [if_pos c1, if_pos (by omega), if_pos (by omega), rd39_nat]
        by_cases c2 : (at39 l j).f2 = 0
        · rw [if_pos c2]
          by_cases c3 : (at39 l i).f0.toList = (at39 l j).f0.toList
          · rw [if_pos c3, awake_true]; rfl
          · rw [if_neg c3]; exact next (fun _ _ => c3)
        · rw [if_neg c2]; exact next (fun h => absurd h c2)
      · rw [if_neg c1]; exact next (fun _ h => absurd h c1)
    · exact ihd j k (by omega) hj (by omega) hz
include hl ha hb hf in
theorem back_l0 : ∀ (d i k : Nat), l.length - i ≤ d → i ≤ l.length → 101 + 20 * (l.length - i) < k → ApartTo l i →
    trucelaw18_ClaimBack.l0 k l (bindL l ch p q a b) l (l.length : Int) (i : Int) (sw a).f0 (sw a).f1 (sw a).f2 (sw a).f3 (sw b).f0 (sw b).f1 (sw b).f2 (sw b).f3 = some true := by
  have h8 := hf.few
  intro d
  induction d with
  | zero =>
    intro i k hd hi hk hap
    obtain ⟨k, rfl⟩ : ∃ m, k = m + 1 := ⟨k - 1, by omega⟩
    obtain rfl : i = l.length := by omega
    exact back_end hl ha hb hf (fun s t hst ht h1 h2 => hap s t hst ht h1 h2) k (by omega) _ _ (Int.lt_irrefl _)
  | succ d ih =>
    intro i k hd hi hk hap
    by_cases h : i < l.length
    · obtain ⟨k, rfl⟩ : ∃ m, k = m + 1 := ⟨k - 1, by omega⟩
      have := back_l1 hl ha hb hf i h hap (fun k hk ha => ih (i + 1) k (by omega) (by omega) hk ha) i 0 k (by omega) (by omega) (by omega) (fun s hs => absurd hs (by omega))
      rw [trucelaw18_ClaimBack.l0, if_pos (by omega), if_pos (by omega), if_pos (by omega), rd39_nat]
      exact this
    · exact ih i k (by omega) hi hk hap
end
theorem back_true (l : List S39) (hl : okL l) (ch : ByteArray) (i j a0 a1 a2 a3 b0 b1 b2 b3 : Int) (ha : ok4 a0 a1 a2 a3) (hb : ok4 b0 b1 b2 b3) :
    ∃ k, trucelaw18_ClaimBack.f k l ch i j a0 a1 a2 a3 b0 b1 b2 b3 = some true := by
  refine ⟨1000, ?_⟩
  rw [trucelaw18_ClaimBack.f]
  by_cases h60 : l.length ≤ 60
  · rw [few_true l h60, Option.bind_some, if_pos rfl, bind_val l hl h60 ch i j _ _ _ _ _ _ _ _ ha hb, Option.bind_some]
    by_cases hE : bindE l ch i j (wl4 a0 a1 a2 a3) (wl4 b0 b1 b2 b3) = 0
    · rw [if_pos hE, if_pos hE]
      obtain ⟨p, q, rfl, rfl, hf⟩ := bfine_of hE
      have h8 := hf.few
      have := back_l0 hl (wl4_len a0 a1 a2 a3) (wl4_len b0 b1 b2 b3) hf l.length 0 1000 (by omega) (by omega) (by omega) (fun s t hst ht => absurd ht (by omega))
      rw [sw_wl4 _ _ _ _ ha, sw_wl4 _ _ _ _ hb] at this
      exact this
    · rw [if_neg hE, awake_true]; rfl
  · rw [few_false l h60, Option.bind_some, if_neg (by simp), awake_true]; rfl
#print axioms back_true
end Go.Proofs.Ytlkecihibmndbaa.P
