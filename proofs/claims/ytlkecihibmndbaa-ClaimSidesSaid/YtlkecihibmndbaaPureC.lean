import Derived.Test.YtlkecihibmndbaaGBind
import Derived.Test.YtlkecihibmndbaaGReclaim
import Derived.Test.YtlkecihibmndbaaPtrucelaw18few
import Derived.Test.YtlkecihibmndbaaPtrucelaw18awake
import Derived.Test.YtlkecihibmndbaaPtrucelaw18total
import Derived.Test.YtlkecihibmndbaaPtruceref17Same
namespace Go.Proofs.Ytlkecihibmndbaa.P
set_option linter.unusedVariables false
set_option linter.unusedSimpArgs false
open Go.RowKit Go.Proofs.YtlkecihibmndbaaW.PrintWords
/-! Plain laws of bound money: the example, the sum of all amounts. -/
theorem wrap_nat1 (i : Nat) (h : i < 1000000) : wrap64 ((i : Int) + 1) = ((i + 1 : Nat) : Int) := by unfold wrap64; omega
theorem rd39_nat (l : List S39) (i : Nat) : rd_T39 l (i : Int) = at39 l i := by simp [rd_T39, at39]
set_option maxRecDepth 100000 in
theorem awake_true : trucelaw18_awake.f = some true := by decide +kernel
theorem few_true (l : List S39) (h : l.length ≤ 60) : trucelaw18_few.f l = some true := by
  rw [trucelaw18_few.f, decide_eq_true (by omega)]
theorem few_false (l : List S39) (h : ¬ l.length ≤ 60) : trucelaw18_few.f l = some false := by
  rw [trucelaw18_few.f, decide_eq_false (by omega)]
theorem addF_sw (A : List W64) (hA : A.length = 4) (a : S39) (h : okA a) : truceref01_Add.f (sw A).f0 (sw A).f1 (sw A).f2 (sw A).f3 a.f1.f0 a.f1.f1 a.f1.f2 a.f1.f3 =
    some ((sw (addk A (am a) 4).1).f0, (sw (addk A (am a) 4).1).f1, (sw (addk A (am a) 4).1).f2, (sw (addk A (am a) 4).1).f3, decide ((addk A (am a) 4).2 > 0)) := by
  unfold truceref01_Add.f addF
  rw [if_pos ⟨ok4_sw A, h⟩, wl4_sw A hA]
  rfl
theorem sw_wl4 (a0 a1 a2 a3 : Int) (h : ok4 a0 a1 a2 a3) : sw (wl4 a0 a1 a2 a3) = ⟨a0, a1, a2, a3⟩ := sw_am ⟨ByteArray.empty, ⟨a0, a1, a2, a3⟩, 0, ByteArray.empty, ByteArray.empty⟩ h
def tot (l : List S39) : Nat := (l.map fun a => val (am a)).sum
theorem tot_app (a b : List S39) : tot (a ++ b) = tot a + tot b := by unfold tot; rw [List.map_append, List.sum_append]
theorem tot_one (x : S39) : tot [x] = val (am x) := by unfold tot; rw [List.map_cons, List.map_nil, List.sum_cons, List.sum_nil, Nat.add_zero]
theorem tot_cons (x : S39) (l : List S39) : tot (x :: l) = val (am x) + tot l := by unfold tot; rw [List.map_cons, List.sum_cons]
theorem tot_set {l : List S39} {p : Nat} (hp : p < l.length) (y : S39) : tot (l.set p y) + val (am (at39 l p)) = tot l + val (am y) := by
  have hs := split39 l p hp
  have hset : l.set p y = l.take p ++ y :: l.drop (p + 1) := by rw [List.set_eq_take_append_cons_drop, if_pos hp]
  rw [hset]
  conv => rhs; rw [hs]
  rw [tot_app, tot_app, tot_cons, tot_cons]
  omega
theorem tot_del {l : List S39} {k : Nat} (hk : k < l.length) : tot (delL l k) + val (am (at39 l k)) = tot l := by
  have hs := split39 l k hk
  conv => rhs; rw [hs]
  rw [delL, tot_app, tot_app, tot_cons]
  omega
theorem val_putA (a : S39) (L : List W64) (hL : L.length = 4) : val (am (putA a L)) = val L := by rw [am_putA a L hL]
theorem tot_give {o : List S39} {p : Nat} (hp : p < o.length) (s : List W64) (hs : s.length = 4) : tot (giveL o p s) + val (am (at39 o p)) = tot o + val s := by
  rw [giveL, tot_set hp, val_putA _ _ hs]
def totW (l : List S39) : Nat → List W64
  | 0 => zero4
  | k + 1 => (addk (totW l k) (am (at39 l k)) 4).1
theorem totW_len (l : List S39) (k : Nat) : (totW l k).length = 4 := by
  induction k with
  | zero => rfl
  | succ k ih => rw [totW, addk_len, ih]
theorem totW_val (l : List S39) (k : Nat) (hk : k ≤ l.length) : val (totW l k) = tot (l.take k) % 115792089237316195423570985008687907853269984665640564039457584007913129639936 := by
  induction k with
  | zero => rw [totW, val_zero4, List.take_zero]; exact (Nat.zero_mod _).symm
  | succ k ih =>
    have h := add_val (totW l k) (am (at39 l k)) (totW_len l k) (am_len _)
    have hlt := val_lt (addk (totW l k) (am (at39 l k)) 4).1
    have e : l.take (k + 1) = l.take k ++ [at39 l k] := by rw [List.take_succ_eq_append_getElem (by omega), at39_get (by omega)]
    rw [totW, e, tot_app, tot_one]
    have ih := ih (by omega)
    generalize val (addk (totW l k) (am (at39 l k)) 4).1 = x at *
    generalize (addk (totW l k) (am (at39 l k)) 4).2 = c at *
    generalize val (totW l k) = y at *
    generalize val (am (at39 l k)) = z at *
    generalize tot (l.take k) = t at *
    omega
theorem total_l0 {l : List S39} (hl : okL l) (h60 : l.length ≤ 1000) : ∀ (d i k : Nat), l.length - i ≤ d → i ≤ l.length → d < k →
    trucelaw18_total.l0 k l (l.length : Int) (i : Int) (sw (totW l i)).f0 (sw (totW l i)).f1 (sw (totW l i)).f2 (sw (totW l i)).f3 = some ((sw (totW l l.length)).f0, (sw (totW l l.length)).f1, (sw (totW l l.length)).f2, (sw (totW l l.length)).f3) := by
  intro d
  induction d with
  | zero =>
    intro i k hd hi hk
    obtain ⟨k, rfl⟩ : ∃ j, k = j + 1 := ⟨k - 1, by omega⟩
    obtain rfl : i = l.length := by omega
    rw [trucelaw18_total.l0, if_neg (by omega)]
  | succ d ih =>
    intro i k hd hi hk
    by_cases h : i < l.length
    · obtain ⟨k, rfl⟩ : ∃ j, k = j + 1 := ⟨k - 1, by omega⟩
      rw [trucelaw18_total.l0, if_pos (by omega), if_pos (by omega), if_pos (by omega), rd39_nat, addF_sw _ (totW_len l i) _ (hl _ (at39_mem h)), Option.bind_some, wrap_nat1 i (by omega)]
      exact ih (i + 1) k (by omega) (by omega) (by omega)
    · exact ih i k (by omega) hi (by omega)
theorem total_val {l : List S39} (hl : okL l) (h60 : l.length ≤ 1000) (k : Nat) (hk : l.length < k) :
    trucelaw18_total.f k l = some ((sw (totW l l.length)).f0, (sw (totW l l.length)).f1, (sw (totW l l.length)).f2, (sw (totW l l.length)).f3) := total_l0 hl h60 l.length 0 k (by omega) (by omega) hk
theorem totW_eq {l r : List S39} (h : tot l = tot r) : totW l l.length = totW r r.length :=
  val_inj _ _ (totW_len _ _) (totW_len _ _) (by rw [totW_val _ _ (Nat.le_refl _), totW_val _ _ (Nat.le_refl _), List.take_length, List.take_length, h])
theorem same_l0 (l : List S39) (hl : l.length ≤ 1000) : ∀ (d i k : Nat), l.length - i ≤ d → i ≤ l.length → d < k → truceref17_Same.l0 k l l (i : Int) = some true := by
  intro d
  induction d with
  | zero =>
    intro i k hd hi hk
    obtain ⟨k, rfl⟩ : ∃ j, k = j + 1 := ⟨k - 1, by omega⟩
    rw [truceref17_Same.l0, if_neg (by omega)]
  | succ d ih =>
    intro i k hd hi hk
    obtain ⟨k, rfl⟩ : ∃ j, k = j + 1 := ⟨k - 1, by omega⟩
    rw [truceref17_Same.l0]
    by_cases h : i < l.length
    · rw [if_pos (by omega), if_pos (by omega), if_pos (by omega), if_neg (by simp), wrap_nat1 i (by omega)]
      exact ih (i + 1) k (by omega) (by omega) (by omega)
    · rw [if_neg (by omega)]
theorem same_refl (l : List S39) (hl : l.length ≤ 1000) (k : Nat) (hk : l.length < k) : truceref17_Same.f k l l = some true := by
  rw [truceref17_Same.f, if_pos rfl]
  exact same_l0 l hl l.length 0 k (by omega) (by omega) hk
/-! What binding and going back keep. -/
section
variable {l : List S39} (hl : okL l)
include hl in
theorem okL_bind (ch : ByteArray) (i j : Int) (a b : List W64) : okL (bindL l ch i j a b) := fun x hx => by
  rw [bindL, List.mem_append] at hx
  rcases hx with hx | hx
  · rcases List.mem_or_eq_of_mem_set hx with hx | rfl
    · rcases List.mem_or_eq_of_mem_set hx with hx | rfl
      · exact hl x hx
      · exact okA_putA _ _
    · exact okA_putA _ _
  · rw [List.mem_singleton] at hx
    subst hx
    exact ⟨ok1_vw _, ok1_vw _, ok1_vw _, ok1_vw _⟩
end
/-- What binding asked. -/
structure BFine (l : List S39) (ch : ByteArray) (p q : Nat) (a b : List W64) : Prop where
  hp : p < l.length
  hq : q < l.length
  ne : p ≠ q
  ch32 : ch.size = 32
  kp : (at39 l p).f2 = 0
  kq : (at39 l q).f2 = 0
  up : (subk (am (at39 l p)) a 4).2 ≠ 1
  uq : (subk (am (at39 l q)) b 4).2 ≠ 1
  ov : (addk a b 4).2 ≠ 1
  few : l.length < 8
theorem bfine_of {l : List S39} {ch : ByteArray} {i j : Int} {a b : List W64} (h : bindE l ch i j a b = 0) : ∃ p q : Nat, i = (p : Int) ∧ j = (q : Int) ∧ BFine l ch p q a b := by
  unfold bindE at h
  split at h
  · cases h
  rename_i h1
  split at h
  · cases h
  rename_i h2
  split at h
  · cases h
  rename_i h3
  split at h
  · cases h
  rename_i h4
  split at h
  · cases h
  rename_i h5
  simp only [not_or, ne_eq, Classical.not_not] at h1 h2 h3
  have hi := h1.1
  have hj := h1.2.1
  unfold isThere at hi hj
  exact ⟨i.toNat, j.toNat, by omega, by omega, by omega, by omega, fun e => h1.2.2 (by omega), h2.1, h2.2.1, h2.2.2, h3.1, h3.2, h4, by omega⟩
theorem bindL_eq (l : List S39) (ch : ByteArray) (p q : Nat) (a b : List W64) : bindL l ch p q a b = ((l.set p (putA (at39 l p) (subk (am (at39 l p)) a 4).1)).set q (putA (at39 l q) (subk (am (at39 l q)) b 4).1)) ++ [⟨ch, sw (addk a b 4).1, 1, (at39 l p).f0, (at39 l q).f0⟩] := rfl
theorem sub_fine {A B : List W64} (hA : A.length = 4) (hB : B.length = 4) (h : (subk A B 4).2 ≠ 1) : val B ≤ val A ∧ val (subk A B 4).1 = val A - val B := by
  have hu := sub_under A B hA hB
  have hle : val B ≤ val A := by
    by_cases hh : val A < val B
    · rw [if_pos hh] at hu; exact absurd hu h
    · omega
  exact ⟨hle, sub_val_le hA hB hle⟩
theorem add_fine {A B : List W64} (hA : A.length = 4) (hB : B.length = 4) (h : (addk A B 4).2 ≠ 1) : val (addk A B 4).1 = val A + val B := by
  have hv := add_val A B hA hB
  have hc := addk_c A B 4
  have : (addk A B 4).2 = 0 := by omega
  rw [this, Nat.zero_mul, Nat.add_zero] at hv
  exact hv
theorem tot_bind {l : List S39} {ch : ByteArray} {p q : Nat} {a b : List W64} (ha : a.length = 4) (hb : b.length = 4) (h : BFine l ch p q a b) : tot (bindL l ch p q a b) = tot l := by
  have s1 := sub_fine (am_len (at39 l p)) ha h.up
  have s2 := sub_fine (am_len (at39 l q)) hb h.uq
  have s3 := add_fine ha hb h.ov
  have t1 := tot_set h.hp (putA (at39 l p) (subk (am (at39 l p)) a 4).1)
  have t2 := tot_set (l := l.set p (putA (at39 l p) (subk (am (at39 l p)) a 4).1)) (p := q) (by rw [List.length_set]; exact h.hq) (putA (at39 l q) (subk (am (at39 l q)) b 4).1)
  rw [at39_set _ _ _ _ h.ne, val_putA _ _ (by rw [subk_len]; rfl)] at t2
  rw [val_putA _ _ (by rw [subk_len]; rfl)] at t1
  have hn : val (am (⟨ch, sw (addk a b 4).1, 1, (at39 l p).f0, (at39 l q).f0⟩ : S39)) = val (addk a b 4).1 := by
    show val (wl4 _ _ _ _) = _
    rw [wl4_sw _ (by rw [addk_len, ha])]
  rw [bindL_eq, tot_app, tot_one, hn]
  omega
theorem tot_gv {l m : List S39} {k : Nat} (h : Fine l m k) (h0 : (gsum l m k 0).2 ≠ 1) (h1 : (gsum l m k 1).2 ≠ 1) : tot (gv l m k 2) = tot l := by
  have a0 := (h.at 0).1
  have a1 := (h.at 1).1
  have l0 := gv_len (m := m) h.hk 0
  have l1 := gv_len (m := m) h.hk 1
  have t0 := tot_give (o := gv l m k 0) (p := gp l m k 0) (by omega) (gsum l m k 0).1 (by rw [gsum, addk_len]; rfl)
  have t1 := tot_give (o := gv l m k 1) (p := gp l m k 1) (by omega) (gsum l m k 1).1 (by rw [gsum, addk_len]; rfl)
  rw [← gv_succ] at t0 t1
  have v0 := add_fine (A := am (at39 (gv l m k 0) (gp l m k 0))) (B := am (at39 m 0)) rfl rfl h0
  have v1 := add_fine (A := am (at39 (gv l m k 1) (gp l m k 1))) (B := am (at39 m 1)) rfl rfl h1
  have vs := add_fine (A := am (at39 m 0)) (B := am (at39 m 1)) rfl rfl h.sum.1
  rw [h.sum.2] at vs
  have td := tot_del h.hk
  have e0 : gv l m k 0 = delL l k := rfl
  have g0 : val (gsum l m k 0).1 = _ := v0
  have g1 : val (gsum l m k 1).1 = _ := v1
  rw [← e0] at td
  show tot (gv l m k (1 + 1)) = _
  simp only [Nat.zero_add] at t0
  omega
theorem tot_rec {l m : List S39} {k : Int} (h : recE l k m = 0) : tot (gv l m k.toNat 2) = tot l ∧ (gv l m k.toNat 2).length + 1 = l.length := by
  unfold recE at h
  split at h
  · rename_i h1; exact absurd h h1
  rename_i h1
  split at h
  · cases h
  rename_i h2
  obtain ⟨q, rfl, hf⟩ := fine_of (Classical.not_not.1 h1)
  rw [Int.toNat_natCast] at h2 ⊢
  have := hf.hk
  exact ⟨tot_gv hf (fun e => h2 (.inl e)) (fun e => h2 (.inr e)), by rw [gv_len hf.hk]; omega⟩
theorem bind_val (l : List S39) (hl : okL l) (h60 : l.length ≤ 60) (ch : ByteArray) (i j a0 a1 a2 a3 b0 b1 b2 b3 : Int) (ha : ok4 a0 a1 a2 a3) (hb : ok4 b0 b1 b2 b3) :
    claim_Bind.f l ch i j a0 a1 a2 a3 b0 b1 b2 b3 = some (if bindE l ch i j (wl4 a0 a1 a2 a3) (wl4 b0 b1 b2 b3) = 0 then bindL l ch i j (wl4 a0 a1 a2 a3) (wl4 b0 b1 b2 b3) else l, bindE l ch i j (wl4 a0 a1 a2 a3) (wl4 b0 b1 b2 b3)) := by
  rw [claim_Bind.f, if_pos ⟨ha, hb, hl, by omega⟩]
theorem rec_val (l : List S39) (hl : okL l) (h60 : l.length ≤ 1000) (k : Int) (m : List S39) (hm : okL m) (hm60 : m.length ≤ 1000) : claim_Reclaim.f l k m = some (if recE l k m = 0 then gv l m k.toNat 2 else l, recE l k m) := by
  rw [claim_Reclaim.f, if_pos ⟨hl, h60, hm, hm60⟩]
end Go.Proofs.Ytlkecihibmndbaa.P
