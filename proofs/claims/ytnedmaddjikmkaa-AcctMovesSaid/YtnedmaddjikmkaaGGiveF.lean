import Derived.Test.YtnedmaddjikmkaaGSetF
import Derived.Test.YtnedmaddjikmkaaPtruceref16Get
import Derived.Test.YtnedmaddjikmkaaPtruceref16with
import Derived.Test.YtnedmaddjikmkaaPacctwrong
import Derived.Deep.MidRow
import Derived.Test.YtnedmaddjikmkaaPacctSum
import Derived.Test.YtnedmaddjikmkaaPtruceref16Sum
namespace Go.Proofs.Ytnedmaddjikmkaa.P
set_option linter.unusedVariables false
set_option linter.unusedSimpArgs false
open Go.RowKit Go.Proofs.YtnedmaddjikmkaaW.PrintWords
/-! The document's Get is acct's. -/
theorem wrap_nat1 (i : Nat) (h : i < 1000000) : wrap64 ((i : Int) + 1) = ((i + 1 : Nat) : Int) := by unfold wrap64; omega
theorem rd39_nat (l : List S39) (i : Nat) : rd_T39 l (i : Int) = at39 l i := by simp [rd_T39, at39]
theorem list_eq {a b : ByteArray} : a.toList = b.toList ↔ a = b := ⟨fun h => ba_eq (by rwa [ByteArray.toList_eq, ByteArray.toList_eq] at h), fun h => by rw [h]⟩
theorem ordA_zero {x : S39} {b0 b1 : ByteArray} : ordA x b0 b1 = 0 ↔ x.f0 = b0 ∧ x.f1 = b1 := ordK_zero
/-- Behind the place none is equal. -/
theorem behind {l : List S39} (h : Up l) {b0 b1 : ByteArray} {k i : Nat} (hp : Place l b0 b1 k) (hk : k < i) (hi : i < l.length) : ordA (at39 l i) b0 b1 ≠ 0 := fun hz => by
  obtain ⟨e0, e1⟩ := ordA_zero.1 hz
  have h1 := h.lt hk hi
  have h2 := hp.hi k (Nat.le_refl _) (by omega)
  rw [e0, e1] at h1
  omega
theorem ahead {l : List S39} {b0 b1 : ByteArray} {k i : Nat} (hp : Place l b0 b1 k) (hi : i < k) : ordA (at39 l i) b0 b1 ≠ 0 := fun hz => by
  have := hp.lo i hi
  omega
theorem get_l0 {l : List S39} (hup : Up l) (hl1 : l.length ≤ 100000) (b0 b1 : ByteArray) : ∀ (d i k : Nat), l.length - i ≤ d → i ≤ l.length → d < k → (∀ j, j < i → ordA (at39 l j) b0 b1 ≠ 0) →
    truceref16_Get.l0 k l b0 b1 (i : Int) = some ((getA l b0 b1 (placeK l b0 b1)).f0, (getA l b0 b1 (placeK l b0 b1)).f1, (getA l b0 b1 (placeK l b0 b1)).f2, (getA l b0 b1 (placeK l b0 b1)).f3) := by
  have hp := placeK_ok hup b0 b1
  intro d
  induction d with
  | zero =>
    intro i k hd hi hk hz
    obtain ⟨k, rfl⟩ : ∃ j, k = j + 1 := ⟨k - 1, by omega⟩
    obtain rfl : i = l.length := by omega
    rw [truceref16_Get.l0, if_neg (by omega)]
    have hf : isAt l b0 b1 (placeK l b0 b1) = false := by
      by_cases hlt : placeK l b0 b1 < l.length
      · simp [isAt, hz _ hlt]
      · simp [isAt, hlt]
    rw [getA, hf, if_neg (by simp)]
    rfl
  | succ d ih =>
    intro i k hd hi hk hz
    by_cases h : i < l.length
    · obtain ⟨k, rfl⟩ : ∃ j, k = j + 1 := ⟨k - 1, by omega⟩
      have next : ordA (at39 l i) b0 b1 ≠ 0 → truceref16_Get.l0 k l b0 b1 (wrap64 ((i : Int) + 1)) = some ((getA l b0 b1 (placeK l b0 b1)).f0, (getA l b0 b1 (placeK l b0 b1)).f1, (getA l b0 b1 (placeK l b0 b1)).f2, (getA l b0 b1 (placeK l b0 b1)).f3) := fun hne => by
        rw [wrap_nat1 i (by omega)]
        refine ih (i + 1) k (by omega) (by omega) (by omega) (fun j hj => ?_)
        by_cases hji : j = i
        · subst hji; exact hne
        · exact hz j (by omega)
      rw [truceref16_Get.l0, if_pos (by omega), if_pos (by omega), rd39_nat]
      by_cases c1 : (at39 l i).f0.toList = b0.toList
      · rw [if_pos c1]
        by_cases c2 : (at39 l i).f1.toList = b1.toList
        · rw [if_pos c2]
          have hzz : ordA (at39 l i) b0 b1 = 0 := ordA_zero.2 ⟨list_eq.1 c1, list_eq.1 c2⟩
          have e : placeK l b0 b1 = i := by
            by_cases h1 : i < placeK l b0 b1
            · exact absurd hzz (ahead hp h1)
            · by_cases h2 : placeK l b0 b1 < i
              · exact absurd hzz (behind hup hp h2 h)
              · omega
          have hf : isAt l b0 b1 i = true := by simp [isAt, h, hzz]
          rw [e, getA, if_pos hf]
        · rw [if_neg c2]; exact next (fun hzz => c2 (list_eq.2 (ordA_zero.1 hzz).2))
      · rw [if_neg c1]; exact next (fun hzz => c1 (list_eq.2 (ordA_zero.1 hzz).1))
    · exact ih i k (by omega) hi (by omega) hz
theorem rget_val {l : List S39} (hup : Up l) (hl1 : l.length ≤ 100000) (b0 b1 : ByteArray) (k : Nat) (hk : l.length < k) : truceref16_Get.f k l b0 b1 = acct_Get.f l b0 b1 := by
  rw [acct_Get.f, if_pos ⟨hup, hl1⟩]
  exact get_l0 hup hl1 b0 b1 l.length 0 k (by omega) (by omega) (by omega) (fun j hj => absurd hj (by omega))
theorem before_val (x : S39) (b0 b1 : ByteArray) : truceref16_before.f x.f0 x.f1 x.f2.f0 x.f2.f1 x.f2.f2 x.f2.f3 b0 b1 = some (decide (ordA x b0 b1 < 0)) := by
  unfold truceref16_before.f ordA ordK
  rw [cb_less, cb_less, ByteArray.toList_eq, ByteArray.toList_eq, ByteArray.toList_eq, ByteArray.toList_eq]
  show (if decide (cmpB x.f0 b0 < 0) = true then some true else if x.f0.data.toList = b0.data.toList then some (decide (cmpB x.f1 b1 < 0)) else some false) = _
  by_cases h0 : cmpB x.f0 b0 = 0
  · have e := cmpB_zero.1 h0
    rw [if_neg (by simp; omega), if_pos (by rw [e]), if_neg (fun hn => hn h0)]
  · rw [if_pos h0]
    by_cases h1 : cmpB x.f0 b0 < 0
    · rw [if_pos (by simpa using h1)]; simp [h1]
    · rw [if_neg (by simpa using h1), if_neg (fun e => h0 (cmpB_zero.2 (ba_eq e)))]; simp [h1]
/-! What stays when one is set. -/
def keepB (b0 b1 : ByteArray) (x : S39) : Bool := decide (ordA x b0 b1 ≠ 0)
theorem keep_behind {l : List S39} (hup : Up l) (b0 b1 : ByteArray) : (l.drop (placeK l b0 b1)).filter (keepB b0 b1) = if isAt l b0 b1 (placeK l b0 b1) = true then l.drop (placeK l b0 b1 + 1) else l.drop (placeK l b0 b1) := by
  have hp := placeK_ok hup b0 b1
  generalize placeK l b0 b1 = K at *
  have hb : (l.drop (K + 1)).filter (keepB b0 b1) = l.drop (K + 1) := List.filter_eq_self.2 (fun x hx => by
    obtain ⟨j, hj, rfl⟩ := List.getElem_of_mem hx
    rw [List.length_drop] at hj
    have := behind hup hp (i := K + 1 + j) (by omega) (by omega)
    rw [at39_get (by omega)] at this
    simp only [keepB, List.getElem_drop]
    simpa using this)
  by_cases hlt : K < l.length
  · have hd : l.drop K = at39 l K :: l.drop (K + 1) := by rw [at39_get hlt]; exact List.drop_eq_getElem_cons hlt
    by_cases hz : ordA (at39 l K) b0 b1 = 0
    · rw [if_pos (by simp [isAt, hlt, hz]), hd, List.filter_cons, hb]; simp [keepB, hz]
    · rw [if_neg (by simp [isAt, hz]), hd, List.filter_cons, hb]; simp [keepB, hz]
  · rw [if_neg (by simp [isAt, hlt]), List.drop_eq_nil_of_le (by omega)]; rfl
theorem keep_ahead {l : List S39} (hup : Up l) (b0 b1 : ByteArray) : (l.take (placeK l b0 b1)).filter (keepB b0 b1) = l.take (placeK l b0 b1) := by
  have hp := placeK_ok hup b0 b1
  generalize placeK l b0 b1 = K at *
  refine List.filter_eq_self.2 (fun x hx => ?_)
  obtain ⟨j, hj, rfl⟩ := List.getElem_of_mem hx
  rw [List.length_take] at hj
  have := ahead hp (i := j) (by omega)
  rw [at39_get (by omega)] at this
  simp only [keepB, List.getElem_take]
  simpa using this
theorem with_put {l : List S39} (hl1 : l.length ≤ 100000) (b0 b1 : ByteArray) (a : S25) : ∀ (d i k : Nat) (acc : List S39), l.length - i ≤ d → i ≤ l.length → acc.length ≤ 1000000 + i → 2 * d + 1 < k →
    truceref16_with.l0 k l acc true (i : Int) b0 b1 a.f0 a.f1 a.f2 a.f3 = some (acc ++ (l.drop i).filter (keepB b0 b1)) := by
  intro d
  induction d with
  | zero =>
    intro i k acc hd hi ha hk
    obtain ⟨k, rfl⟩ : ∃ j, k = j + 1 := ⟨k - 1, by omega⟩
    obtain rfl : i = l.length := by omega
    rw [truceref16_with.l0, if_neg (by omega), if_pos rfl, List.drop_eq_nil_of_le (Nat.le_refl _)]
    simp
  | succ d ih =>
    intro i k acc hd hi ha hk
    by_cases h : i < l.length
    · obtain ⟨k, rfl⟩ : ∃ j, k = j + 2 := ⟨k - 2, by omega⟩
      have hdr : l.drop i = at39 l i :: l.drop (i + 1) := by rw [at39_get h]; exact List.drop_eq_getElem_cons h
      rw [truceref16_with.l0, if_pos (by omega), if_pos rfl, truceref16_with.j1, if_neg (by simp), if_pos (by omega), if_pos (by omega), rd39_nat, wrap_nat1 i (by omega)]
      have next : ordA (at39 l i) b0 b1 ≠ 0 → truceref16_with.l0 k l (acc ++ [at39 l i]) true ((i + 1 : Nat) : Int) b0 b1 a.f0 a.f1 a.f2 a.f3 = some (acc ++ (l.drop i).filter (keepB b0 b1)) := fun hne => by
        rw [ih (i + 1) k (acc ++ [at39 l i]) (by omega) (by omega) (by simp; omega) (by omega), hdr, List.filter_cons, if_pos (by simpa [keepB] using hne)]
        simp
      by_cases c1 : (at39 l i).f0.toList = b0.toList
      · rw [if_pos c1]
        by_cases c2 : (at39 l i).f1.toList = b1.toList
        · rw [if_pos c2, ih (i + 1) k acc (by omega) (by omega) (by omega) (by omega), hdr, List.filter_cons]
          have hzz : ordA (at39 l i) b0 b1 = 0 := ordA_zero.2 ⟨list_eq.1 c1, list_eq.1 c2⟩
          simp [keepB, hzz]
        · rw [if_neg c2, if_pos (by omega)]; exact next (fun hzz => c2 (list_eq.2 (ordA_zero.1 hzz).2))
      · rw [if_neg c1, if_pos (by omega)]; exact next (fun hzz => c1 (list_eq.2 (ordA_zero.1 hzz).1))
    · exact ih i k acc (by omega) hi ha (by omega)
theorem with_not {l : List S39} (hup : Up l) (hl1 : l.length ≤ 100000) (b0 b1 : ByteArray) (a : S25) : ∀ (d i k : Nat), placeK l b0 b1 - i ≤ d → i ≤ placeK l b0 b1 → 2 * d + 2 * l.length + 5 < k →
    truceref16_with.l0 k l (l.take i) false (i : Int) b0 b1 a.f0 a.f1 a.f2 a.f3 = some (l.take (placeK l b0 b1) ++ (⟨b0, b1, a⟩ : S39) :: (l.drop (placeK l b0 b1)).filter (keepB b0 b1)) := by
  have hp := placeK_ok hup b0 b1
  intro d
  induction d with
  | zero =>
    intro i k hd hi hk
    have e : i = placeK l b0 b1 := by omega
    have hle := hp.le
    by_cases h : i < l.length
    · obtain ⟨k, rfl⟩ : ∃ j, k = j + 2 := ⟨k - 2, by omega⟩
      have hdr : l.drop i = at39 l i :: l.drop (i + 1) := by rw [at39_get h]; exact List.drop_eq_getElem_cons h
      have hnb : ¬ ordA (at39 l i) b0 b1 < 0 := by have := hp.hi i (by omega) h; omega
      have hput := fun acc h3 => with_put hl1 b0 b1 a l.length (i + 1) k acc (by omega) (by omega) h3 (by omega)
      rw [truceref16_with.l0, if_pos (by omega), if_neg (by simp), if_pos (by omega), rd39_nat, before_val, Option.bind_some, decide_eq_false hnb, truceref16_with.j1, if_pos (show (!false) = true from rfl), if_pos (by simp; omega), Option.bind_some, if_pos (by omega), if_pos (by omega), rd39_nat, wrap_nat1 i (by omega), ← e]
      by_cases c1 : (at39 l i).f0.toList = b0.toList
      · rw [if_pos c1]
        by_cases c2 : (at39 l i).f1.toList = b1.toList
        · rw [if_pos c2, hput _ (by simp; omega), hdr, List.filter_cons]
          have hzz : ordA (at39 l i) b0 b1 = 0 := ordA_zero.2 ⟨list_eq.1 c1, list_eq.1 c2⟩
          simp [keepB, hzz]
        · rw [if_neg c2, if_pos (by simp; omega), hput _ (by simp; omega), hdr, List.filter_cons, if_pos (by simp [keepB]; exact fun hzz => c2 (list_eq.2 (ordA_zero.1 hzz).2))]; simp
      · rw [if_neg c1, if_pos (by simp; omega), hput _ (by simp; omega), hdr, List.filter_cons, if_pos (by simp [keepB]; exact fun hzz => c1 (list_eq.2 (ordA_zero.1 hzz).1))]; simp
    · obtain ⟨k, rfl⟩ : ∃ j, k = j + 1 := ⟨k - 1, by omega⟩
      rw [truceref16_with.l0, if_neg (by omega), if_neg (by simp), if_pos (by simp; omega), ← e, List.drop_eq_nil_of_le (by omega)]
      rfl
  | succ d ih =>
    intro i k hd hi hk
    by_cases h : i < placeK l b0 b1
    · have hle := hp.le
      obtain ⟨k, rfl⟩ : ∃ j, k = j + 2 := ⟨k - 2, by omega⟩
      have hb : ordA (at39 l i) b0 b1 < 0 := hp.lo i h
      have htk : l.take i ++ [at39 l i] = l.take (i + 1) := by rw [at39_get (by omega)]; exact (List.take_succ_eq_append_getElem (by omega)).symm
      have next := ih (i + 1) k (by omega) (by omega) (by omega)
      rw [← htk] at next
      rw [truceref16_with.l0, if_pos (by omega), if_neg (by simp), if_pos (by omega), rd39_nat, before_val, Option.bind_some, decide_eq_true hb, truceref16_with.j1, if_neg (by simp), if_pos (by omega), if_pos (by omega), rd39_nat, wrap_nat1 i (by omega)]
      by_cases c1 : (at39 l i).f0.toList = b0.toList
      · rw [if_pos c1]
        by_cases c2 : (at39 l i).f1.toList = b1.toList
        · have hzz : ordA (at39 l i) b0 b1 = 0 := ordA_zero.2 ⟨list_eq.1 c1, list_eq.1 c2⟩
          omega
        · rw [if_neg c2, if_pos (by simp; omega)]; exact next
      · rw [if_neg c1, if_pos (by simp; omega)]; exact next
    · exact ih i k (by omega) hi (by omega)
/-- The document's accounts with an amount are acct's. -/
theorem with_val {l : List S39} (hup : Up l) (hl1 : l.length ≤ 1000) (b0 b1 : ByteArray) (a : S25) (k : Nat) (hk : 4 * l.length + 6 < k) : truceref16_with.f k l b0 b1 a.f0 a.f1 a.f2 a.f3 = some (setA l ⟨b0, b1, a⟩ (placeK l b0 b1)) := by
  have hle := (placeK_ok hup b0 b1).le
  have hka := keep_ahead hup b0 b1
  have hkb := keep_behind hup b0 b1
  unfold truceref16_with.f
  by_cases hz : a = z25
  · have hflag : (a.f0 == 0 && (a.f1 == 0 && (a.f2 == 0 && (a.f3 == 0)))) = true := by subst hz; rfl
    rw [hflag]
    have := with_put (l := l) (by omega) b0 b1 a l.length 0 k [] (by omega) (by omega) (by simp) (by omega)
    rw [List.nil_append, List.drop_zero] at this
    refine this.trans (congrArg some ?_)
    conv => lhs; rw [← List.take_append_drop (placeK l b0 b1) l]
    rw [List.filter_append, hka, hkb, setA]
    show _ = if isAt l b0 b1 (placeK l b0 b1) = true then (if a = z25 then _ else _) else (if a = z25 then _ else _)
    rw [if_pos hz, if_pos hz]
    split
    · rfl
    · exact List.take_append_drop _ _
  · rw [none_flag a hz]
    have := with_not hup (by omega) b0 b1 a (placeK l b0 b1) 0 k (by omega) (by omega) (by omega)
    rw [List.take_zero] at this
    refine this.trans (congrArg some ?_)
    rw [hkb, setA]
    show _ = if isAt l b0 b1 (placeK l b0 b1) = true then (if a = z25 then _ else l.set (placeK l b0 b1) ⟨b0, b1, a⟩) else (if a = z25 then _ else insL l (placeK l b0 b1) ⟨b0, b1, a⟩)
    rw [if_neg hz, if_neg hz]
    split
    · rename_i hf
      have hlt : placeK l b0 b1 < l.length := by
        simp only [isAt, Bool.and_eq_true, decide_eq_true_eq] at hf
        exact hf.1
      rw [List.set_eq_take_append_cons_drop, if_pos hlt]
    · rfl
end Go.Proofs.Ytnedmaddjikmkaa.P

namespace Go.Proofs.Ytnedmaddjikmkaa.P
set_option linter.unusedVariables false
set_option linter.unusedSimpArgs false
open Go.RowKit Go.Shelf Go.Proofs.YtnedmaddjikmkaaW.PrintWords
attribute [local go_sem] Oper.semAt_some
/-! acct.Take. -/
def w4 (x : S25) : List W64 := wl4 x.f0 x.f1 x.f2 x.f3
def sw (L : List W64) : S25 := ⟨vw (gw L 0), vw (gw L 1), vw (gw L 2), vw (gw L 3)⟩
def okL (l : List S39) : Prop := ∀ a ∈ l, ok4 a.f2.f0 a.f2.f1 a.f2.f2 a.f2.f3
instance (l : List S39) : Decidable (okL l) := inferInstanceAs (Decidable (∀ a ∈ l, ok4 _ _ _ _))
theorem getA_ok {l : List S39} (hl : okL l) (b0 b1 : ByteArray) (k : Nat) : ws (w4 (getA l b0 b1 k)) = a4 (getA l b0 b1 k) := by
  unfold getA
  split
  · rename_i h
    have hk : k < l.length := by
      simp only [isAt, Bool.and_eq_true, decide_eq_true_eq] at h
      exact h.1
    obtain ⟨h0, h1, h2, h3⟩ := hl _ (at39_mem hk)
    exact ws_wl4 _ _ _ _ ⟨h0, h1, h2, h3⟩
  · rfl
theorem get_ws (l : List S39) (hup : Up l) (hl : okL l) (b0 b1 : ByteArray) (A : Option Addr) (c : Nat) (w : World) (hC : Kd.C k39 w A l.length l) (hlen : l.length ≤ c) (hl1 : l.length ≤ 100000) :
    Calls Try.prog 21 #[.slice A l.length c, .string b0, .string b1] w fun e w' => e = .returned (.agg (ws (w4 (getA l b0 b1 (placeK l b0 b1))))) ∧ Below w.heap.size w w' := by
  refine (get_any l hup b0 b1 A c w hC hlen hl1).mono ?_
  rintro e w' ⟨k, hp, rfl, hb⟩
  rw [Place.one hp (placeK_ok hup b0 b1), getA_ok hl]
  exact ⟨rfl, hb⟩
theorem set_k (l : List S39) (hup : Up l) (t : S39) (A : Option Addr) (c : Nat) (w : World) (hC : Kd.C k39 w A l.length l) (hlen : l.length ≤ c) (hl1 : l.length ≤ 1000) :
    Calls Try.prog 25 #[.slice A l.length c, .agg (rowA t)] w fun e w' => ∃ v, e = .returned v ∧ w'.ownsRow w.heap.size 39 6 v (setA l t (placeK l t.f0 t.f1)).length (cells39 (setA l t (placeK l t.f0 t.f1))) ∧ Below w.heap.size w w' := by
  refine (set_any l hup t A c w hC hlen hl1).mono ?_
  rintro e w' ⟨k, v, hp, rfl, ho, hb⟩
  rw [Place.one hp (placeK_ok hup t.f0 t.f1)] at ho
  exact ⟨v, rfl, ho, hb⟩
def isWrong (who asset : ByteArray) : Bool := who.size != 20 || asset.size != 20
theorem wrong_any (who asset : ByteArray) (w : World) : Calls Try.prog 23 #[.string who, .string asset] w fun e w' => e = .returned (.bool (isWrong who asset)) ∧ Drawn0 w w' := by
  refine acct_wrong.calls who asset _ w ?_
  unfold acct_wrong.f isWrong
  by_cases h : who.size = 20
  · rw [if_pos (by omega)]; congr 1
    by_cases h2 : asset.size = 20
    · simp [h, h2]
    · have : ((asset.size : Int) != 20) = true := bne_iff_ne.2 (by omega)
      rw [this]; simp [h, h2]
  · rw [if_neg (by omega)]; simp [h]
/-- What is left behind a taking. -/
def takeS (l : List S39) (who asset : ByteArray) (n : List W64) : List W64 × Nat := subk (w4 (getA l who asset (placeK l who asset))) n 4
def takeE (l : List S39) (who asset : ByteArray) (n : List W64) : Int := if isWrong who asset = true then 2 else if (takeS l who asset n).2 = 1 then 16 else 0
def takeL (l : List S39) (who asset : ByteArray) (n : List W64) : List S39 := setA l ⟨who, asset, sw (takeS l who asset n).1⟩ (placeK l who asset)
set_option maxRecDepth 100000 in
set_option maxHeartbeats 4000000 in
theorem take_any (l : List S39) (hup : Up l) (hl : okL l) (A : Option Addr) (c : Nat) (who asset : ByteArray) (n : List W64) (hn : n.length = 4) (w : World) (hC : Kd.C k39 w A l.length l) (hlen : l.length ≤ c) (hl1 : l.length ≤ 1000) :
    Calls Try.prog 12 #[.slice A l.length c, .string who, .string asset, .agg (ws n)] w fun e w' =>
      (takeE l who asset n ≠ 0 → e = .returned (.tuple #[.slice A l.length c, .int .i64 (takeE l who asset n)]) ∧ Below w.heap.size w w') ∧
      (takeE l who asset n = 0 → ∃ v, e = .returned (.tuple #[v, .int .i64 0]) ∧ w'.ownsRow w.heap.size 39 6 v (takeL l who asset n).length (cells39 (takeL l who asset n)) ∧ Below w.heap.size w w') := by
  have hu25 := Try.underlying25
  have HT := Aside0.mk (And.intro (show Holds (w.alloc (.cells (ws n) 25)) w.heap.size 25 n from blk_new w _) (below_alloc (Below.refl w.heap.size w) (.cells (ws n) 25)))
  have Hi25 := Aside0.mk (show (Try.prog.info? 25).map (·.size) = some 4 by kernel_rfl)
  have HC := Aside0.mk hC
  have HL := Aside0.mk (And.intro hn (And.intro hlen hl1))
  clear hC hn hlen hl1
  have HE0 := Aside0.mk (show takeE l who asset n = if isWrong who asset = true then 2 else if (takeS l who asset n).2 = 1 then 16 else 0 from rfl)
  have HTL := Aside0.mk (show takeL l who asset n = setA l ⟨who, asset, sw (takeS l who asset n).1⟩ (placeK l who asset) from rfl)
  have HSL3 := Aside0.mk (show (takeS l who asset n).1.length = 4 by rw [takeS, subk_len]; rfl)
  have HSB3 := Aside0.mk (fun W => sub_any (w4 (getA l who asset (placeK l who asset))) n rfl HL.out.1 W)
  change Aside0 (∀ W, Calls Try.prog 27 #[.agg (ws (w4 (getA l who asset (placeK l who asset)))), .agg (ws n)] W fun e w' => e = .returned (.tuple #[.agg (ws (takeS l who asset n).1), .bool (decide ((takeS l who asset n).2 = 1))]) ∧ Below W.heap.size W w') at HSB3
  have HGE := Aside0.mk (fun (X : World) (hX : Kd.C k39 X A l.length l) => get_ws l hup hl who asset A c X hX HL.out.2.1 (by have := HL.out.2.2; omega))
  generalize takeE l who asset n = E at *
  generalize takeL l who asset n = TL at *
  generalize takeS l who asset n = S3 at *
  obtain ⟨L3, u3⟩ := S3
  simp only at HE0 HTL HSL3 HSB3
  generalize w4 (getA l who asset (placeK l who asset)) = G at *
  cases hw : isWrong who asset
  · rw [hw, if_neg (by simp)] at HE0
    go_enter Try.func12, Try.ntmps12
    go_wp2_with fail
    refine (wrong_any who asset _).mono ?_
    rintro e w1 ⟨rfl, ⟨nd, hw1⟩⟩
    rw [hw]
    have HW1 := Aside0.mk (show Below w.heap.size w w1 by rw [hw1]; exact pw_below_drewN HT.out.2 _)
    have HG1 := Aside0.mk (show Holds w1 w.heap.size 25 n by rw [hw1]; exact HT.out.1)
    clear hw1
    have HGET := Aside0.mk (fun (X : World) (hX : Below w1.heap.size w1 X) => HGE.out X (Kd.C_below HC.out (below_step HW1.out hX)))
    go_wp2_with fail
    refine wp_put (fun a0 a' w' => ∃ gn, a' = (((((((((((a0.put (some 17) (.slice A l.length c)).put (some 18) (.string who)).put (some 19) (.string asset)).put (some 20) (.agg (ws G))).put (some 21) (.agg (ws n))).put (some 22) (.tuple #[.agg (ws L3), .bool (decide (u3 = 1))])).put (some 16) (.tuple #[.agg (ws L3), .bool (decide (u3 = 1))])).put (some 23) (.agg (ws L3))).put (some 24) (.bool (decide (u3 = 1)))).put (some 10) (.pointer (some ⟨gn, 0, none⟩))).put (some 11) (.bool (decide (u3 = 1)))) ∧ Below w1.heap.size w1 w' ∧ w1.heap.size ≤ gn ∧ Holds w' gn 25 L3) ?hreg ?hnext
    case hreg =>
      refine wp_region_held_drew (S := fun X => Below w1.heap.size w1 X) (by kernel_rfl) (below_drew1 (Below.refl _ _)) (fun hHeld => ?_)
      generalize w1.drew = W0 at *
      try simp only [Act.put, List.getElem_toArray, List.getElem_cons_zero, List.getElem_cons_succ, List.setIfInBounds_toArray, List.set_cons_zero, List.set_cons_succ]
      refine wpAnyH_take (i := 0) (v := .slice A l.length c) rfl (by kernel_rfl) (by kernel_rfl) (by kernel_rfl) (fun _ _ _ h => absurd h.1 (by simp)) (.inl ⟨by rfl, fun _ _ => by go_simp⟩) hHeld ?_
      try simp only [Act.put, List.getElem_toArray, List.getElem_cons_zero, List.getElem_cons_succ, List.setIfInBounds_toArray, List.set_cons_zero, List.set_cons_succ]
      refine wpAnyH_take (i := 1) (v := .string who) rfl (by kernel_rfl) (by kernel_rfl) (by kernel_rfl) (fun _ _ _ h => absurd h.1 (by simp)) (.inl ⟨by rfl, fun _ _ => by go_simp⟩) hHeld ?_
      try simp only [Act.put, List.getElem_toArray, List.getElem_cons_zero, List.getElem_cons_succ, List.setIfInBounds_toArray, List.set_cons_zero, List.set_cons_succ]
      refine wpAnyH_take (i := 2) (v := .string asset) rfl (by kernel_rfl) (by kernel_rfl) (by kernel_rfl) (fun _ _ _ h => absurd h.1 (by simp)) (.inl ⟨by rfl, fun _ _ => by go_simp⟩) hHeld ?_
      try simp only [Act.put, List.getElem_toArray, List.getElem_cons_zero, List.getElem_cons_succ, List.setIfInBounds_toArray, List.set_cons_zero, List.set_cons_succ]
      refine wpAnyH_take (i := 4) (v := .agg (wl n).toArray) rfl (by kernel_rfl) (by kernel_rfl) (by kernel_rfl) (fun _ _ _ h => absurd h.1 (by simp)) (yieldsIf_load_mid rfl 25 _ rfl w.heap.size 0 rfl (wl n) _ (fun X' hS => range_of (Holds.below HG1.out hS)) Try.underlying25 rfl (by rw [Hi25.out, wl, List.length_map, HL.out.1])) hHeld ?_
      try simp only [Act.put, List.getElem_toArray, List.getElem_cons_zero, List.getElem_cons_succ, List.setIfInBounds_toArray, List.set_cons_zero, List.set_cons_succ]
      rw [wl_eq]
      refine wpAnyH_ready (rs := [3, 9]) (by kernel_rfl) (by simp) ?_
      refine AllReadyH.cons rfl (fun K hK => ?_) ?_
      · go_simp
        refine (HGET.out _ hHeld).mono ?_
        rintro e X1 ⟨rfl, hb⟩
        refine hK.out _ _ (below_step hHeld hb) (fun hHeld => ?_)
        clear hb hK K
        try simp only [Act.put, List.getElem_toArray, List.getElem_cons_zero, List.getElem_cons_succ, List.setIfInBounds_toArray, List.set_cons_zero, List.set_cons_succ]
        refine wpAnyH_ready (rs := [5, 9]) (by kernel_rfl) (by simp) ?_
        refine AllReadyH.cons rfl (fun K hK => ?_) ?_
        · go_simp
          refine (HSB3.out _).mono ?_
          rintro e X2 ⟨rfl, hb⟩
          refine hK.out _ _ (below_step hHeld hb) (fun hHeld => ?_)
          clear hb hK K
          try simp only [Act.put, List.getElem_toArray, List.getElem_cons_zero, List.getElem_cons_succ, List.setIfInBounds_toArray, List.set_cons_zero, List.set_cons_succ]
          refine wpAnyH_take (i := 6) (v := .tuple #[.agg (ws L3), .bool (decide (u3 = 1))]) rfl (by kernel_rfl) (by kernel_rfl) (by kernel_rfl) (fun _ _ _ h => absurd h.1 (by simp)) (.inl ⟨by rfl, fun _ _ => by go_simp⟩) hHeld ?_
          try simp only [Act.put, List.getElem_toArray, List.getElem_cons_zero, List.getElem_cons_succ, List.setIfInBounds_toArray, List.set_cons_zero, List.set_cons_succ]
          refine wpAnyH_take (i := 7) (v := .agg (ws L3)) rfl (by kernel_rfl) (by kernel_rfl) (by kernel_rfl) (fun _ _ _ h => absurd h.1 (by simp)) (.inl ⟨by rfl, fun _ _ => by go_simp⟩) hHeld ?_
          try simp only [Act.put, List.getElem_toArray, List.getElem_cons_zero, List.getElem_cons_succ, List.setIfInBounds_toArray, List.set_cons_zero, List.set_cons_succ]
          refine wpAnyH_take (i := 8) (v := .bool (decide (u3 = 1))) rfl (by kernel_rfl) (by kernel_rfl) (by kernel_rfl) (fun _ _ _ h => absurd h.1 (by simp)) (.inl ⟨by rfl, fun _ _ => by go_simp⟩) hHeld ?_
          try simp only [Act.put, List.getElem_toArray, List.getElem_cons_zero, List.getElem_cons_succ, List.setIfInBounds_toArray, List.set_cons_zero, List.set_cons_succ]
          refine wpAnyH_ready (rs := [9]) (by kernel_rfl) (by simp) ?_
          refine AllReadyH.cons rfl (fun K hK => ?_) AllReadyH.nil
          go_simp
          have hb := below_alloc (Below.refl X2.heap.size X2) (.cells #[Value.int .u64 0, .int .u64 0, .int .u64 0, .int .u64 0] 25)
          have H14 := Aside0.mk (And.intro (show Holds (X2.alloc (.cells #[Value.int .u64 0, .int .u64 0, .int .u64 0, .int .u64 0] 25)) X2.heap.size 25 (List.replicate 4 0) from blk_new X2 _) hHeld.size)
          refine hK.out _ _ (below_step hHeld hb) (fun hHeld => ?_)
          clear hb hK K
          generalize X2.alloc _ = X3 at *
          generalize X2.heap.size = g14 at *
          try simp only [Act.put, List.getElem_toArray, List.getElem_cons_zero, List.getElem_cons_succ, List.setIfInBounds_toArray, List.set_cons_zero, List.set_cons_succ]
          have hx := H14.out.1
          have z0 := hx.cell 0 (by simp)
          have y0 := hx.free 0
          have z1 := hx.cell 1 (by simp)
          have y1 := hx.free 1
          have z2 := hx.cell 2 (by simp)
          have y2 := hx.free 2
          have z3 := hx.cell 3 (by simp)
          have y3 := hx.free 3
          clear hx
          have hwf := ws_four L3 HSL3.out
          refine wpAnyH_ready (rs := [10]) (by kernel_rfl) (by simp) ?_
          refine AllReadyH.cons rfl (fun K hK => ?_) AllReadyH.nil
          go_simp
          have n14 := H14.out.2
          refine hK.out _ _ (below_set (below_set (below_set (below_set hHeld n14) n14) n14) n14) (fun hHeld => ?_)
          clear hK K z0 z1 z2 z3 y0 y1 y2 y3 hwf
          have H14' := Aside0.mk (set_four (L := List.replicate 4 0) (H := L3) rfl HSL3.out H14.out.1)
          try simp only [Act.put, List.getElem_toArray, List.getElem_cons_zero, List.getElem_cons_succ, List.setIfInBounds_toArray, List.set_cons_zero, List.set_cons_succ]
          refine wpAnyH_take (i := 11) (v := .bool (decide (u3 = 1))) rfl (by kernel_rfl) (by kernel_rfl) (by kernel_rfl) (fun _ _ _ h => absurd h.1 (by simp)) (.inl ⟨by rfl, fun _ _ => by go_simp⟩) hHeld ?_
          try simp only [Act.put, List.getElem_toArray, List.getElem_cons_zero, List.getElem_cons_succ, List.setIfInBounds_toArray, List.set_cons_zero, List.set_cons_succ]
          refine wpAnyH_done (by kernel_rfl) ?_ _
          refine ⟨rfl, g14, ?_, hHeld, n14, H14'.out⟩
          rw [ws_four L3 HSL3.out]
          try rfl
        refine AllReadyH.cons rfl (fun K hK => ?_) AllReadyH.nil
        go_simp
        have hb := below_alloc (Below.refl X1.heap.size X1) (.cells #[Value.int .u64 0, .int .u64 0, .int .u64 0, .int .u64 0] 25)
        have H14 := Aside0.mk (And.intro (show Holds (X1.alloc (.cells #[Value.int .u64 0, .int .u64 0, .int .u64 0, .int .u64 0] 25)) X1.heap.size 25 (List.replicate 4 0) from blk_new X1 _) hHeld.size)
        refine hK.out _ _ (below_step hHeld hb) (fun hHeld => ?_)
        clear hb hK K
        generalize X1.alloc _ = X4 at *
        generalize X1.heap.size = g14 at *
        try simp only [Act.put, List.getElem_toArray, List.getElem_cons_zero, List.getElem_cons_succ, List.setIfInBounds_toArray, List.set_cons_zero, List.set_cons_succ]
        refine wpAnyH_ready (rs := [5]) (by kernel_rfl) (by simp) ?_
        refine AllReadyH.cons rfl (fun K hK => ?_) AllReadyH.nil
        go_simp
        refine (HSB3.out _).mono ?_
        rintro e X5 ⟨rfl, hb⟩
        replace H14 := Aside0.mk (And.intro (Holds.below H14.out.1 hb) H14.out.2)
        refine hK.out _ _ (below_step hHeld hb) (fun hHeld => ?_)
        clear hb hK K
        try simp only [Act.put, List.getElem_toArray, List.getElem_cons_zero, List.getElem_cons_succ, List.setIfInBounds_toArray, List.set_cons_zero, List.set_cons_succ]
        refine wpAnyH_take (i := 6) (v := .tuple #[.agg (ws L3), .bool (decide (u3 = 1))]) rfl (by kernel_rfl) (by kernel_rfl) (by kernel_rfl) (fun _ _ _ h => absurd h.1 (by simp)) (.inl ⟨by rfl, fun _ _ => by go_simp⟩) hHeld ?_
        try simp only [Act.put, List.getElem_toArray, List.getElem_cons_zero, List.getElem_cons_succ, List.setIfInBounds_toArray, List.set_cons_zero, List.set_cons_succ]
        refine wpAnyH_take (i := 7) (v := .agg (ws L3)) rfl (by kernel_rfl) (by kernel_rfl) (by kernel_rfl) (fun _ _ _ h => absurd h.1 (by simp)) (.inl ⟨by rfl, fun _ _ => by go_simp⟩) hHeld ?_
        try simp only [Act.put, List.getElem_toArray, List.getElem_cons_zero, List.getElem_cons_succ, List.setIfInBounds_toArray, List.set_cons_zero, List.set_cons_succ]
        refine wpAnyH_take (i := 8) (v := .bool (decide (u3 = 1))) rfl (by kernel_rfl) (by kernel_rfl) (by kernel_rfl) (fun _ _ _ h => absurd h.1 (by simp)) (.inl ⟨by rfl, fun _ _ => by go_simp⟩) hHeld ?_
        try simp only [Act.put, List.getElem_toArray, List.getElem_cons_zero, List.getElem_cons_succ, List.setIfInBounds_toArray, List.set_cons_zero, List.set_cons_succ]
        have hx := H14.out.1
        have z0 := hx.cell 0 (by simp)
        have y0 := hx.free 0
        have z1 := hx.cell 1 (by simp)
        have y1 := hx.free 1
        have z2 := hx.cell 2 (by simp)
        have y2 := hx.free 2
        have z3 := hx.cell 3 (by simp)
        have y3 := hx.free 3
        clear hx
        have hwf := ws_four L3 HSL3.out
        refine wpAnyH_ready (rs := [10]) (by kernel_rfl) (by simp) ?_
        refine AllReadyH.cons rfl (fun K hK => ?_) AllReadyH.nil
        go_simp
        have n14 := H14.out.2
        refine hK.out _ _ (below_set (below_set (below_set (below_set hHeld n14) n14) n14) n14) (fun hHeld => ?_)
        clear hK K z0 z1 z2 z3 y0 y1 y2 y3 hwf
        have H14' := Aside0.mk (set_four (L := List.replicate 4 0) (H := L3) rfl HSL3.out H14.out.1)
        try simp only [Act.put, List.getElem_toArray, List.getElem_cons_zero, List.getElem_cons_succ, List.setIfInBounds_toArray, List.set_cons_zero, List.set_cons_succ]
        refine wpAnyH_take (i := 11) (v := .bool (decide (u3 = 1))) rfl (by kernel_rfl) (by kernel_rfl) (by kernel_rfl) (fun _ _ _ h => absurd h.1 (by simp)) (.inl ⟨by rfl, fun _ _ => by go_simp⟩) hHeld ?_
        try simp only [Act.put, List.getElem_toArray, List.getElem_cons_zero, List.getElem_cons_succ, List.setIfInBounds_toArray, List.set_cons_zero, List.set_cons_succ]
        refine wpAnyH_done (by kernel_rfl) ?_ _
        refine ⟨rfl, g14, ?_, hHeld, n14, H14'.out⟩
        rw [ws_four L3 HSL3.out]
        try rfl
      refine AllReadyH.cons rfl (fun K hK => ?_) AllReadyH.nil
      go_simp
      have hb := below_alloc (Below.refl W0.heap.size W0) (.cells #[Value.int .u64 0, .int .u64 0, .int .u64 0, .int .u64 0] 25)
      have H14 := Aside0.mk (And.intro (show Holds (W0.alloc (.cells #[Value.int .u64 0, .int .u64 0, .int .u64 0, .int .u64 0] 25)) W0.heap.size 25 (List.replicate 4 0) from blk_new W0 _) hHeld.size)
      refine hK.out _ _ (below_step hHeld hb) (fun hHeld => ?_)
      clear hb hK K
      generalize W0.alloc _ = X6 at *
      generalize W0.heap.size = g14 at *
      try simp only [Act.put, List.getElem_toArray, List.getElem_cons_zero, List.getElem_cons_succ, List.setIfInBounds_toArray, List.set_cons_zero, List.set_cons_succ]
      refine wpAnyH_ready (rs := [3]) (by kernel_rfl) (by simp) ?_
      refine AllReadyH.cons rfl (fun K hK => ?_) AllReadyH.nil
      go_simp
      refine (HGET.out _ hHeld).mono ?_
      rintro e X7 ⟨rfl, hb⟩
      replace H14 := Aside0.mk (And.intro (Holds.below H14.out.1 hb) H14.out.2)
      refine hK.out _ _ (below_step hHeld hb) (fun hHeld => ?_)
      clear hb hK K
      try simp only [Act.put, List.getElem_toArray, List.getElem_cons_zero, List.getElem_cons_succ, List.setIfInBounds_toArray, List.set_cons_zero, List.set_cons_succ]
      refine wpAnyH_ready (rs := [5]) (by kernel_rfl) (by simp) ?_
      refine AllReadyH.cons rfl (fun K hK => ?_) AllReadyH.nil
      go_simp
      refine (HSB3.out _).mono ?_
      rintro e X8 ⟨rfl, hb⟩
      replace H14 := Aside0.mk (And.intro (Holds.below H14.out.1 hb) H14.out.2)
      refine hK.out _ _ (below_step hHeld hb) (fun hHeld => ?_)
      clear hb hK K
      try simp only [Act.put, List.getElem_toArray, List.getElem_cons_zero, List.getElem_cons_succ, List.setIfInBounds_toArray, List.set_cons_zero, List.set_cons_succ]
      refine wpAnyH_take (i := 6) (v := .tuple #[.agg (ws L3), .bool (decide (u3 = 1))]) rfl (by kernel_rfl) (by kernel_rfl) (by kernel_rfl) (fun _ _ _ h => absurd h.1 (by simp)) (.inl ⟨by rfl, fun _ _ => by go_simp⟩) hHeld ?_
      try simp only [Act.put, List.getElem_toArray, List.getElem_cons_zero, List.getElem_cons_succ, List.setIfInBounds_toArray, List.set_cons_zero, List.set_cons_succ]
      refine wpAnyH_take (i := 7) (v := .agg (ws L3)) rfl (by kernel_rfl) (by kernel_rfl) (by kernel_rfl) (fun _ _ _ h => absurd h.1 (by simp)) (.inl ⟨by rfl, fun _ _ => by go_simp⟩) hHeld ?_
      try simp only [Act.put, List.getElem_toArray, List.getElem_cons_zero, List.getElem_cons_succ, List.setIfInBounds_toArray, List.set_cons_zero, List.set_cons_succ]
      refine wpAnyH_take (i := 8) (v := .bool (decide (u3 = 1))) rfl (by kernel_rfl) (by kernel_rfl) (by kernel_rfl) (fun _ _ _ h => absurd h.1 (by simp)) (.inl ⟨by rfl, fun _ _ => by go_simp⟩) hHeld ?_
      try simp only [Act.put, List.getElem_toArray, List.getElem_cons_zero, List.getElem_cons_succ, List.setIfInBounds_toArray, List.set_cons_zero, List.set_cons_succ]
      have hx := H14.out.1
      have z0 := hx.cell 0 (by simp)
      have y0 := hx.free 0
      have z1 := hx.cell 1 (by simp)
      have y1 := hx.free 1
      have z2 := hx.cell 2 (by simp)
      have y2 := hx.free 2
      have z3 := hx.cell 3 (by simp)
      have y3 := hx.free 3
      clear hx
      have hwf := ws_four L3 HSL3.out
      refine wpAnyH_ready (rs := [10]) (by kernel_rfl) (by simp) ?_
      refine AllReadyH.cons rfl (fun K hK => ?_) AllReadyH.nil
      go_simp
      have n14 := H14.out.2
      refine hK.out _ _ (below_set (below_set (below_set (below_set hHeld n14) n14) n14) n14) (fun hHeld => ?_)
      clear hK K z0 z1 z2 z3 y0 y1 y2 y3 hwf
      have H14' := Aside0.mk (set_four (L := List.replicate 4 0) (H := L3) rfl HSL3.out H14.out.1)
      try simp only [Act.put, List.getElem_toArray, List.getElem_cons_zero, List.getElem_cons_succ, List.setIfInBounds_toArray, List.set_cons_zero, List.set_cons_succ]
      refine wpAnyH_take (i := 11) (v := .bool (decide (u3 = 1))) rfl (by kernel_rfl) (by kernel_rfl) (by kernel_rfl) (fun _ _ _ h => absurd h.1 (by simp)) (.inl ⟨by rfl, fun _ _ => by go_simp⟩) hHeld ?_
      try simp only [Act.put, List.getElem_toArray, List.getElem_cons_zero, List.getElem_cons_succ, List.setIfInBounds_toArray, List.set_cons_zero, List.set_cons_succ]
      refine wpAnyH_done (by kernel_rfl) ?_ _
      refine ⟨rfl, g14, ?_, hHeld, n14, H14'.out⟩
      rw [ws_four L3 HSL3.out]
      try rfl
    case hnext =>
      rintro _ w2 ⟨g10, rfl, hb2, n10, h10⟩
      try simp only [Act.put, List.getElem_toArray, List.getElem_cons_zero, List.getElem_cons_succ, List.setIfInBounds_toArray, List.set_cons_zero, List.set_cons_succ]
      have HW2 := Aside0.mk (below_step HW1.out hb2)
      have H10 := Aside0.mk h10
      clear hb2 n10 h10 HW1 HG1 HGET
      by_cases v1 : u3 = 1
      · have k1 := decide_eq_true v1
        have HE := Aside0.mk (HE0.out.trans (if_pos v1))
        go_wp2_with fail
        exact bodyPost_ret (v := .tuple #[.slice A l.length c, .int .i64 16]) (by simp [results, Try.results12, go_sem]) rfl ⟨fun _ => ⟨by rw [HE.out], HW2.out⟩, fun h => absurd (HE.out.symm.trans h) (by decide)⟩
      · have k1 := decide_eq_false v1
        have HE := Aside0.mk (HE0.out.trans (if_neg v1))
        have z0 := H10.out.cell 0 (by rw [HSL3.out]; omega)
        have z1 := H10.out.cell 1 (by rw [HSL3.out]; omega)
        have z2 := H10.out.cell 2 (by rw [HSL3.out]; omega)
        have z3 := H10.out.cell 3 (by rw [HSL3.out]; omega)
        go_wp2_with fail
        refine (set_k l hup ⟨who, asset, sw L3⟩ A c w2 (Kd.C_below HC.out HW2.out) HL.out.2.1 HL.out.2.2).mono ?_
        rintro e w3 ⟨v, rfl, ho, hb⟩
        have HW3 := Aside0.mk (below_step HW2.out hb)
        have HO := Aside0.mk (own_weaken ho HW2.out.size)
        clear ho hb z0 z1 z2 z3
        go_wp2_with fail
        refine bodyPost_ret (v := .tuple #[v, .int .i64 0]) (by simp [results, Try.results12, go_sem]) rfl ⟨fun h => absurd HE.out h, fun _ => ⟨v, rfl, ?_, HW3.out⟩⟩
        rw [HTL.out]
        exact HO.out
  · rw [hw, if_pos rfl] at HE0
    go_enter Try.func12, Try.ntmps12
    go_wp2_with fail
    refine (wrong_any who asset _).mono ?_
    rintro e w1 ⟨rfl, ⟨nd, hw1⟩⟩
    rw [hw]
    have HW1 := Aside0.mk (show Below w.heap.size w w1 by rw [hw1]; exact pw_below_drewN HT.out.2 _)
    clear hw1
    go_wp2_with fail
    exact bodyPost_ret (v := .tuple #[.slice A l.length c, .int .i64 2]) (by simp [results, Try.results12, go_sem]) rfl ⟨fun _ => ⟨by rw [HE0.out], HW1.out⟩, fun h => absurd (HE0.out.symm.trans h) (by decide)⟩
end Go.Proofs.Ytnedmaddjikmkaa.P

namespace Go.Proofs.Ytnedmaddjikmkaa.P
set_option linter.unusedVariables false
set_option linter.unusedSimpArgs false
open Go.RowKit Go.Proofs.YtnedmaddjikmkaaW.PrintWords
/-! How much there is of an asset: acct's sum is the document's. -/
theorem wl4_sw (L : List W64) (hL : L.length = 4) : wl4 (sw L).f0 (sw L).f1 (sw L).f2 (sw L).f3 = L := by
  obtain ⟨x0, x1, x2, x3, rfl⟩ := four L hL
  show [BitVec.ofInt 64 (vw x0), BitVec.ofInt 64 (vw x1), BitVec.ofInt 64 (vw x2), BitVec.ofInt 64 (vw x3)] = _
  rw [of_vw, of_vw, of_vw, of_vw]
theorem ok4_sw (L : List W64) : ok4 (sw L).f0 (sw L).f1 (sw L).f2 (sw L).f3 := ⟨ok1_vw _, ok1_vw _, ok1_vw _, ok1_vw _⟩
theorem addF_sw (A : List W64) (hA : A.length = 4) (x : S25) (h : ok4 x.f0 x.f1 x.f2 x.f3) : addF (sw A).f0 (sw A).f1 (sw A).f2 (sw A).f3 x.f0 x.f1 x.f2 x.f3 =
    some ((sw (addk A (w4 x) 4).1).f0, (sw (addk A (w4 x) 4).1).f1, (sw (addk A (w4 x) 4).1).f2, (sw (addk A (w4 x) 4).1).f3, decide ((addk A (w4 x) 4).2 > 0)) := by
  unfold addF
  rw [if_pos ⟨ok4_sw A, h⟩, wl4_sw A hA]
  rfl
/-- The sum of an asset, from a sum on; none: more than can be. -/
def sumT (asset : ByteArray) : List S39 → List W64 → Option (List W64)
  | [], s => some s
  | x :: l, s => if x.f1 = asset then (if (addk s (w4 x.f2) 4).2 > 0 then none else sumT asset l (addk s (w4 x.f2) 4).1) else sumT asset l s
def tell : Option (List W64) → Int × Int × Int × Int × Bool
  | none => (0, 0, 0, 0, false)
  | some s => ((sw s).f0, (sw s).f1, (sw s).f2, (sw s).f3, true)
def zero4 : List W64 := List.replicate 4 0
theorem drop_at {l : List S39} {i : Nat} (h : i < l.length) : l.drop i = at39 l i :: l.drop (i + 1) := by rw [at39_get h]; exact List.drop_eq_getElem_cons h
theorem asum_l0 {l : List S39} (hl : okL l) (hl1 : l.length ≤ 100000) (asset : ByteArray) : ∀ (d i k : Nat) (s : List W64), l.length - i ≤ d → i ≤ l.length → s.length = 4 → d < k →
    acct_Sum.l0 k asset l (l.length : Int) (i : Int) (sw s).f0 (sw s).f1 (sw s).f2 (sw s).f3 = some (tell (sumT asset (l.drop i) s)) := by
  intro d
  induction d with
  | zero =>
    intro i k s hd hi hs hk
    obtain ⟨k, rfl⟩ : ∃ j, k = j + 1 := ⟨k - 1, by omega⟩
    obtain rfl : i = l.length := by omega
    rw [acct_Sum.l0, if_neg (by omega), List.drop_eq_nil_of_le (Nat.le_refl _)]
    rfl
  | succ d ih =>
    intro i k s hd hi hs hk
    by_cases h : i < l.length
    · obtain ⟨k, rfl⟩ : ∃ j, k = j + 1 := ⟨k - 1, by omega⟩
      rw [acct_Sum.l0, if_pos (by omega), if_pos (by omega), if_pos (by omega), rd39_nat, wrap_nat1 i (by omega), drop_at h, sumT]
      by_cases c1 : (at39 l i).f1 = asset
      · rw [if_pos (by rw [c1]), if_pos c1, show num_Add.f = addF from rfl, addF_sw s hs _ (hl _ (at39_mem h)), Option.bind_some]
        by_cases c2 : (addk s (w4 (at39 l i).f2) 4).2 > 0
        · rw [if_pos (by simpa using c2), if_pos c2]; rfl
        · rw [if_neg (by simpa using c2), if_neg c2]
          exact ih (i + 1) k _ (by omega) (by omega) (by rw [addk_len, hs]) (by omega)
      · rw [if_neg (fun e => c1 (list_eq.1 e)), if_neg c1]
        exact ih (i + 1) k s (by omega) (by omega) hs (by omega)
    · exact ih i k s (by omega) hi hs (by omega)
theorem rsum_l0 {l : List S39} (hl : okL l) (hl1 : l.length ≤ 100000) (asset : ByteArray) : ∀ (d i k : Nat) (s : List W64), l.length - i ≤ d → i ≤ l.length → s.length = 4 → d < k →
    truceref16_Sum.l0 k l asset (i : Int) (sw s).f0 (sw s).f1 (sw s).f2 (sw s).f3 = some (tell (sumT asset (l.drop i) s)) := by
  intro d
  induction d with
  | zero =>
    intro i k s hd hi hs hk
    obtain ⟨k, rfl⟩ : ∃ j, k = j + 1 := ⟨k - 1, by omega⟩
    obtain rfl : i = l.length := by omega
    rw [truceref16_Sum.l0, if_neg (by omega), List.drop_eq_nil_of_le (Nat.le_refl _)]
    rfl
  | succ d ih =>
    intro i k s hd hi hs hk
    by_cases h : i < l.length
    · obtain ⟨k, rfl⟩ : ∃ j, k = j + 1 := ⟨k - 1, by omega⟩
      rw [truceref16_Sum.l0, if_pos (by omega), if_pos (by omega), rd39_nat, wrap_nat1 i (by omega), drop_at h, sumT]
      by_cases c1 : (at39 l i).f1 = asset
      · rw [if_pos (by rw [c1]), if_pos c1, show truceref01_Add.f = addF from rfl, addF_sw s hs _ (hl _ (at39_mem h)), Option.bind_some]
        by_cases c2 : (addk s (w4 (at39 l i).f2) 4).2 > 0
        · rw [if_pos (by simpa using c2), if_pos c2]; rfl
        · rw [if_neg (by simpa using c2), if_neg c2]
          exact ih (i + 1) k _ (by omega) (by omega) (by rw [addk_len, hs]) (by omega)
      · rw [if_neg (fun e => c1 (list_eq.1 e)), if_neg c1]
        exact ih (i + 1) k s (by omega) (by omega) hs (by omega)
    · exact ih i k s (by omega) hi hs (by omega)
theorem asum_val {l : List S39} (hl : okL l) (hl1 : l.length ≤ 100000) (asset : ByteArray) (k : Nat) (hk : l.length < k) : acct_Sum.f k l asset = some (tell (sumT asset l zero4)) :=
  asum_l0 hl hl1 asset l.length 0 k zero4 (by omega) (by omega) rfl hk
theorem rsum_val {l : List S39} (hl : okL l) (hl1 : l.length ≤ 100000) (asset : ByteArray) (k : Nat) (hk : l.length < k) : truceref16_Sum.f k l asset = some (tell (sumT asset l zero4)) :=
  rsum_l0 hl hl1 asset l.length 0 k zero4 (by omega) (by omega) rfl hk
end Go.Proofs.Ytnedmaddjikmkaa.P

namespace Go.Proofs.Ytnedmaddjikmkaa.P
set_option linter.unusedVariables false
set_option linter.unusedSimpArgs false
open Go.RowKit Go.Shelf Go.Proofs.YtnedmaddjikmkaaW.PrintWords
attribute [local go_sem] Oper.semAt_some
/-! The document's Take. -/
theorem cells_of_reps {w : World} {base : Nat} {ok : Nat → Prop} : ∀ (l : List S39) (cs : List Value), Reps (k39.M w base ok) 6 l cs → cs = cells39 l
  | [], cs, h => by
    have := h.1
    simp at this
    subst this
    rfl
  | x :: l, cs, h => by
    have e0 := k39_openM (h.2 0 x rfl)
    have ih := cells_of_reps l (cs.drop 6) ⟨by have := h.1; simp at this ⊢; omega, fun j p hp => by
      have := h.2 (j + 1) p hp
      rw [List.drop_drop, show 6 + j * 6 = (j + 1) * 6 by omega]
      exact this⟩
    have hs : cs = cs.take 6 ++ cs.drop 6 := (List.take_append_drop 6 cs).symm
    rw [hs, ih]
    rw [Nat.zero_mul, List.drop_zero] at e0
    rw [e0]
    rfl
theorem own_of_R {w : World} {base : Nat} {ok : Nat → Prop} {v : Value} {l : List S39} (h : Kd.R k39 39 w base ok v l) : w.ownsRow base 39 6 v l.length (cells39 l) := by
  obtain ⟨_, cs, ho, hr⟩ := h
  rw [← cells_of_reps l cs hr]
  exact ho
theorem rget_ws (l : List S39) (hup : Up l) (hl : okL l) (b0 b1 : ByteArray) (A : Option Addr) (c : Nat) (w : World) (hC : Kd.C k39 w A l.length l) (hlen : l.length ≤ c) (hl1 : l.length ≤ 100000) :
    Calls Try.prog 17 #[.slice A l.length c, .string b0, .string b1] w fun e w' => e = .returned (.agg (ws (w4 (getA l b0 b1 (placeK l b0 b1))))) ∧ Below w.heap.size w w' := by
  have T := truceref16_Get.calls (l.length + 1) A c l b0 b1 _ _ _ _ w hC hlen ((rget_val hup hl1 b0 b1 _ (Nat.lt_succ_self _)).trans (by rw [acct_Get.f, if_pos ⟨hup, hl1⟩]))
  rw [getA_ok hl]
  exact T
theorem rset_k (l : List S39) (hup : Up l) (t : S39) (A : Option Addr) (c : Nat) (w : World) (hC : Kd.C k39 w A l.length l) (hlen : l.length ≤ c) (hl1 : l.length ≤ 1000) :
    Calls Try.prog 26 #[.slice A l.length c, .agg (rowA t)] w fun e w' => ∃ v, e = .returned v ∧ w'.ownsRow w.heap.size 39 6 v (setA l t (placeK l t.f0 t.f1)).length (cells39 (setA l t (placeK l t.f0 t.f1))) ∧ Below w.heap.size w w' := by
  refine (truceref16_with.calls (4 * l.length + 7) A c l t.f0 t.f1 t.f2.f0 t.f2.f1 t.f2.f2 t.f2.f3 _ w hC hlen (with_val hup hl1 t.f0 t.f1 t.f2 _ (by omega))).mono ?_
  rintro e w' ⟨v, rfl, hr, hb⟩
  exact ⟨v, rfl, own_of_R hr, hb⟩
set_option maxRecDepth 100000 in
set_option maxHeartbeats 4000000 in
theorem rtake_any (l : List S39) (hup : Up l) (hl : okL l) (A : Option Addr) (c : Nat) (who asset : ByteArray) (n : List W64) (hn : n.length = 4) (w : World) (hC : Kd.C k39 w A l.length l) (hlen : l.length ≤ c) (hl1 : l.length ≤ 1000) :
    Calls Try.prog 13 #[.slice A l.length c, .string who, .string asset, .agg (ws n)] w fun e w' =>
      (takeE l who asset n ≠ 0 → e = .returned (.tuple #[.slice A l.length c, .int .i64 (takeE l who asset n)]) ∧ Below w.heap.size w w') ∧
      (takeE l who asset n = 0 → ∃ v, e = .returned (.tuple #[v, .int .i64 0]) ∧ w'.ownsRow w.heap.size 39 6 v (takeL l who asset n).length (cells39 (takeL l who asset n)) ∧ Below w.heap.size w w') := by
  have hu25 := Try.underlying25
  have HT := Aside0.mk (And.intro (show Holds (w.alloc (.cells (ws n) 25)) w.heap.size 25 n from blk_new w _) (below_alloc (Below.refl w.heap.size w) (.cells (ws n) 25)))
  have Hi25 := Aside0.mk (show (Try.prog.info? 25).map (·.size) = some 4 by kernel_rfl)
  have HC := Aside0.mk hC
  have HL := Aside0.mk (And.intro hn (And.intro hlen hl1))
  clear hC hn hlen hl1
  have HE0 := Aside0.mk (show takeE l who asset n = if isWrong who asset = true then 2 else if (takeS l who asset n).2 = 1 then 16 else 0 from rfl)
  have HTL := Aside0.mk (show takeL l who asset n = setA l ⟨who, asset, sw (takeS l who asset n).1⟩ (placeK l who asset) from rfl)
  have HSL3 := Aside0.mk (show (takeS l who asset n).1.length = 4 by rw [takeS, subk_len]; rfl)
  have HSB3 := Aside0.mk (fun W => rsub_any (w4 (getA l who asset (placeK l who asset))) n rfl HL.out.1 W)
  change Aside0 (∀ W, Calls Try.prog 18 #[.agg (ws (w4 (getA l who asset (placeK l who asset)))), .agg (ws n)] W fun e w' => e = .returned (.tuple #[.agg (ws (takeS l who asset n).1), .bool (decide ((takeS l who asset n).2 > 0))]) ∧ Below W.heap.size W w') at HSB3
  have HSU3 := Aside0.mk (show (takeS l who asset n).2 ≤ 1 from subk_c _ _ 4)
  have HGE := Aside0.mk (fun (X : World) (hX : Kd.C k39 X A l.length l) => rget_ws l hup hl who asset A c X hX HL.out.2.1 (by have := HL.out.2.2; omega))
  generalize takeE l who asset n = E at *
  generalize takeL l who asset n = TL at *
  generalize takeS l who asset n = S3 at *
  obtain ⟨L3, u3⟩ := S3
  simp only at HE0 HTL HSL3 HSB3 HSU3
  generalize w4 (getA l who asset (placeK l who asset)) = G at *
  cases hw : isWrong who asset
  · rw [hw, if_neg (by simp)] at HE0
    have hs : who.size = 20 ∧ asset.size = 20 := by simpa [isWrong] using hw
    have s1 : (who.size : Int) = 20 := by omega
    have s2 : (asset.size : Int) = 20 := by omega
    have HW1 := Aside0.mk HT.out.2
    have HG1 := Aside0.mk HT.out.1
    go_enter Try.func13, Try.ntmps13
    go_wp2_with fail
    generalize w.alloc (.cells (ws n) 25) = w1 at *
    have HGET := Aside0.mk (fun (X : World) (hX : Below w1.heap.size w1 X) => HGE.out X (Kd.C_below HC.out (below_step HW1.out hX)))
    refine wp_put (fun a0 a' w' => ∃ gn, a' = (((((((((((a0.put (some 22) (.slice A l.length c)).put (some 23) (.string who)).put (some 24) (.string asset)).put (some 25) (.agg (ws G))).put (some 26) (.agg (ws n))).put (some 27) (.tuple #[.agg (ws L3), .bool (decide (u3 > 0))])).put (some 21) (.tuple #[.agg (ws L3), .bool (decide (u3 > 0))])).put (some 28) (.agg (ws L3))).put (some 29) (.bool (decide (u3 > 0)))).put (some 10) (.pointer (some ⟨gn, 0, none⟩))).put (some 11) (.bool (decide (u3 > 0)))) ∧ Below w1.heap.size w1 w' ∧ w1.heap.size ≤ gn ∧ Holds w' gn 25 L3) ?hreg ?hnext
    case hreg =>
      refine wp_region_held_drew (S := fun X => Below w1.heap.size w1 X) (by kernel_rfl) (below_drew1 (Below.refl _ _)) (fun hHeld => ?_)
      generalize w1.drew = W0 at *
      try simp only [Act.put, List.getElem_toArray, List.getElem_cons_zero, List.getElem_cons_succ, List.setIfInBounds_toArray, List.set_cons_zero, List.set_cons_succ]
      refine wpAnyH_take (i := 0) (v := .slice A l.length c) rfl (by kernel_rfl) (by kernel_rfl) (by kernel_rfl) (fun _ _ _ h => absurd h.1 (by simp)) (.inl ⟨by rfl, fun _ _ => by go_simp⟩) hHeld ?_
      try simp only [Act.put, List.getElem_toArray, List.getElem_cons_zero, List.getElem_cons_succ, List.setIfInBounds_toArray, List.set_cons_zero, List.set_cons_succ]
      refine wpAnyH_take (i := 1) (v := .string who) rfl (by kernel_rfl) (by kernel_rfl) (by kernel_rfl) (fun _ _ _ h => absurd h.1 (by simp)) (.inl ⟨by rfl, fun _ _ => by go_simp⟩) hHeld ?_
      try simp only [Act.put, List.getElem_toArray, List.getElem_cons_zero, List.getElem_cons_succ, List.setIfInBounds_toArray, List.set_cons_zero, List.set_cons_succ]
      refine wpAnyH_take (i := 2) (v := .string asset) rfl (by kernel_rfl) (by kernel_rfl) (by kernel_rfl) (fun _ _ _ h => absurd h.1 (by simp)) (.inl ⟨by rfl, fun _ _ => by go_simp⟩) hHeld ?_
      try simp only [Act.put, List.getElem_toArray, List.getElem_cons_zero, List.getElem_cons_succ, List.setIfInBounds_toArray, List.set_cons_zero, List.set_cons_succ]
      refine wpAnyH_take (i := 4) (v := .agg (wl n).toArray) rfl (by kernel_rfl) (by kernel_rfl) (by kernel_rfl) (fun _ _ _ h => absurd h.1 (by simp)) (yieldsIf_load_mid rfl 25 _ rfl w.heap.size 0 rfl (wl n) _ (fun X' hS => range_of (Holds.below HG1.out hS)) Try.underlying25 rfl (by rw [Hi25.out, wl, List.length_map, HL.out.1])) hHeld ?_
      try simp only [Act.put, List.getElem_toArray, List.getElem_cons_zero, List.getElem_cons_succ, List.setIfInBounds_toArray, List.set_cons_zero, List.set_cons_succ]
      rw [wl_eq]
      refine wpAnyH_ready (rs := [3, 9]) (by kernel_rfl) (by simp) ?_
      refine AllReadyH.cons rfl (fun K hK => ?_) ?_
      · go_simp
        refine (HGET.out _ hHeld).mono ?_
        rintro e X1 ⟨rfl, hb⟩
        refine hK.out _ _ (below_step hHeld hb) (fun hHeld => ?_)
        clear hb hK K
        try simp only [Act.put, List.getElem_toArray, List.getElem_cons_zero, List.getElem_cons_succ, List.setIfInBounds_toArray, List.set_cons_zero, List.set_cons_succ]
        refine wpAnyH_ready (rs := [5, 9]) (by kernel_rfl) (by simp) ?_
        refine AllReadyH.cons rfl (fun K hK => ?_) ?_
        · go_simp
          refine (HSB3.out _).mono ?_
          rintro e X2 ⟨rfl, hb⟩
          refine hK.out _ _ (below_step hHeld hb) (fun hHeld => ?_)
          clear hb hK K
          try simp only [Act.put, List.getElem_toArray, List.getElem_cons_zero, List.getElem_cons_succ, List.setIfInBounds_toArray, List.set_cons_zero, List.set_cons_succ]
          refine wpAnyH_take (i := 6) (v := .tuple #[.agg (ws L3), .bool (decide (u3 > 0))]) rfl (by kernel_rfl) (by kernel_rfl) (by kernel_rfl) (fun _ _ _ h => absurd h.1 (by simp)) (.inl ⟨by rfl, fun _ _ => by go_simp⟩) hHeld ?_
          try simp only [Act.put, List.getElem_toArray, List.getElem_cons_zero, List.getElem_cons_succ, List.setIfInBounds_toArray, List.set_cons_zero, List.set_cons_succ]
          refine wpAnyH_take (i := 7) (v := .agg (ws L3)) rfl (by kernel_rfl) (by kernel_rfl) (by kernel_rfl) (fun _ _ _ h => absurd h.1 (by simp)) (.inl ⟨by rfl, fun _ _ => by go_simp⟩) hHeld ?_
          try simp only [Act.put, List.getElem_toArray, List.getElem_cons_zero, List.getElem_cons_succ, List.setIfInBounds_toArray, List.set_cons_zero, List.set_cons_succ]
          refine wpAnyH_take (i := 8) (v := .bool (decide (u3 > 0))) rfl (by kernel_rfl) (by kernel_rfl) (by kernel_rfl) (fun _ _ _ h => absurd h.1 (by simp)) (.inl ⟨by rfl, fun _ _ => by go_simp⟩) hHeld ?_
          try simp only [Act.put, List.getElem_toArray, List.getElem_cons_zero, List.getElem_cons_succ, List.setIfInBounds_toArray, List.set_cons_zero, List.set_cons_succ]
          refine wpAnyH_ready (rs := [9]) (by kernel_rfl) (by simp) ?_
          refine AllReadyH.cons rfl (fun K hK => ?_) AllReadyH.nil
          go_simp
          have hb := below_alloc (Below.refl X2.heap.size X2) (.cells #[Value.int .u64 0, .int .u64 0, .int .u64 0, .int .u64 0] 25)
          have H14 := Aside0.mk (And.intro (show Holds (X2.alloc (.cells #[Value.int .u64 0, .int .u64 0, .int .u64 0, .int .u64 0] 25)) X2.heap.size 25 (List.replicate 4 0) from blk_new X2 _) hHeld.size)
          refine hK.out _ _ (below_step hHeld hb) (fun hHeld => ?_)
          clear hb hK K
          generalize X2.alloc _ = X3 at *
          generalize X2.heap.size = g14 at *
          try simp only [Act.put, List.getElem_toArray, List.getElem_cons_zero, List.getElem_cons_succ, List.setIfInBounds_toArray, List.set_cons_zero, List.set_cons_succ]
          have hx := H14.out.1
          have z0 := hx.cell 0 (by simp)
          have y0 := hx.free 0
          have z1 := hx.cell 1 (by simp)
          have y1 := hx.free 1
          have z2 := hx.cell 2 (by simp)
          have y2 := hx.free 2
          have z3 := hx.cell 3 (by simp)
          have y3 := hx.free 3
          clear hx
          have hwf := ws_four L3 HSL3.out
          refine wpAnyH_ready (rs := [10]) (by kernel_rfl) (by simp) ?_
          refine AllReadyH.cons rfl (fun K hK => ?_) AllReadyH.nil
          go_simp
          have n14 := H14.out.2
          refine hK.out _ _ (below_set (below_set (below_set (below_set hHeld n14) n14) n14) n14) (fun hHeld => ?_)
          clear hK K z0 z1 z2 z3 y0 y1 y2 y3 hwf
          have H14' := Aside0.mk (set_four (L := List.replicate 4 0) (H := L3) rfl HSL3.out H14.out.1)
          try simp only [Act.put, List.getElem_toArray, List.getElem_cons_zero, List.getElem_cons_succ, List.setIfInBounds_toArray, List.set_cons_zero, List.set_cons_succ]
          refine wpAnyH_take (i := 11) (v := .bool (decide (u3 > 0))) rfl (by kernel_rfl) (by kernel_rfl) (by kernel_rfl) (fun _ _ _ h => absurd h.1 (by simp)) (.inl ⟨by rfl, fun _ _ => by go_simp⟩) hHeld ?_
          try simp only [Act.put, List.getElem_toArray, List.getElem_cons_zero, List.getElem_cons_succ, List.setIfInBounds_toArray, List.set_cons_zero, List.set_cons_succ]
          refine wpAnyH_done (by kernel_rfl) ?_ _
          refine ⟨rfl, g14, ?_, hHeld, n14, H14'.out⟩
          rw [ws_four L3 HSL3.out]
          try rfl
        refine AllReadyH.cons rfl (fun K hK => ?_) AllReadyH.nil
        go_simp
        have hb := below_alloc (Below.refl X1.heap.size X1) (.cells #[Value.int .u64 0, .int .u64 0, .int .u64 0, .int .u64 0] 25)
        have H14 := Aside0.mk (And.intro (show Holds (X1.alloc (.cells #[Value.int .u64 0, .int .u64 0, .int .u64 0, .int .u64 0] 25)) X1.heap.size 25 (List.replicate 4 0) from blk_new X1 _) hHeld.size)
        refine hK.out _ _ (below_step hHeld hb) (fun hHeld => ?_)
        clear hb hK K
        generalize X1.alloc _ = X4 at *
        generalize X1.heap.size = g14 at *
        try simp only [Act.put, List.getElem_toArray, List.getElem_cons_zero, List.getElem_cons_succ, List.setIfInBounds_toArray, List.set_cons_zero, List.set_cons_succ]
        refine wpAnyH_ready (rs := [5]) (by kernel_rfl) (by simp) ?_
        refine AllReadyH.cons rfl (fun K hK => ?_) AllReadyH.nil
        go_simp
        refine (HSB3.out _).mono ?_
        rintro e X5 ⟨rfl, hb⟩
        replace H14 := Aside0.mk (And.intro (Holds.below H14.out.1 hb) H14.out.2)
        refine hK.out _ _ (below_step hHeld hb) (fun hHeld => ?_)
        clear hb hK K
        try simp only [Act.put, List.getElem_toArray, List.getElem_cons_zero, List.getElem_cons_succ, List.setIfInBounds_toArray, List.set_cons_zero, List.set_cons_succ]
        refine wpAnyH_take (i := 6) (v := .tuple #[.agg (ws L3), .bool (decide (u3 > 0))]) rfl (by kernel_rfl) (by kernel_rfl) (by kernel_rfl) (fun _ _ _ h => absurd h.1 (by simp)) (.inl ⟨by rfl, fun _ _ => by go_simp⟩) hHeld ?_
        try simp only [Act.put, List.getElem_toArray, List.getElem_cons_zero, List.getElem_cons_succ, List.setIfInBounds_toArray, List.set_cons_zero, List.set_cons_succ]
        refine wpAnyH_take (i := 7) (v := .agg (ws L3)) rfl (by kernel_rfl) (by kernel_rfl) (by kernel_rfl) (fun _ _ _ h => absurd h.1 (by simp)) (.inl ⟨by rfl, fun _ _ => by go_simp⟩) hHeld ?_
        try simp only [Act.put, List.getElem_toArray, List.getElem_cons_zero, List.getElem_cons_succ, List.setIfInBounds_toArray, List.set_cons_zero, List.set_cons_succ]
        refine wpAnyH_take (i := 8) (v := .bool (decide (u3 > 0))) rfl (by kernel_rfl) (by kernel_rfl) (by kernel_rfl) (fun _ _ _ h => absurd h.1 (by simp)) (.inl ⟨by rfl, fun _ _ => by go_simp⟩) hHeld ?_
        try simp only [Act.put, List.getElem_toArray, List.getElem_cons_zero, List.getElem_cons_succ, List.setIfInBounds_toArray, List.set_cons_zero, List.set_cons_succ]
        have hx := H14.out.1
        have z0 := hx.cell 0 (by simp)
        have y0 := hx.free 0
        have z1 := hx.cell 1 (by simp)
        have y1 := hx.free 1
        have z2 := hx.cell 2 (by simp)
        have y2 := hx.free 2
        have z3 := hx.cell 3 (by simp)
        have y3 := hx.free 3
        clear hx
        have hwf := ws_four L3 HSL3.out
        refine wpAnyH_ready (rs := [10]) (by kernel_rfl) (by simp) ?_
        refine AllReadyH.cons rfl (fun K hK => ?_) AllReadyH.nil
        go_simp
        have n14 := H14.out.2
        refine hK.out _ _ (below_set (below_set (below_set (below_set hHeld n14) n14) n14) n14) (fun hHeld => ?_)
        clear hK K z0 z1 z2 z3 y0 y1 y2 y3 hwf
        have H14' := Aside0.mk (set_four (L := List.replicate 4 0) (H := L3) rfl HSL3.out H14.out.1)
        try simp only [Act.put, List.getElem_toArray, List.getElem_cons_zero, List.getElem_cons_succ, List.setIfInBounds_toArray, List.set_cons_zero, List.set_cons_succ]
        refine wpAnyH_take (i := 11) (v := .bool (decide (u3 > 0))) rfl (by kernel_rfl) (by kernel_rfl) (by kernel_rfl) (fun _ _ _ h => absurd h.1 (by simp)) (.inl ⟨by rfl, fun _ _ => by go_simp⟩) hHeld ?_
        try simp only [Act.put, List.getElem_toArray, List.getElem_cons_zero, List.getElem_cons_succ, List.setIfInBounds_toArray, List.set_cons_zero, List.set_cons_succ]
        refine wpAnyH_done (by kernel_rfl) ?_ _
        refine ⟨rfl, g14, ?_, hHeld, n14, H14'.out⟩
        rw [ws_four L3 HSL3.out]
        try rfl
      refine AllReadyH.cons rfl (fun K hK => ?_) AllReadyH.nil
      go_simp
      have hb := below_alloc (Below.refl W0.heap.size W0) (.cells #[Value.int .u64 0, .int .u64 0, .int .u64 0, .int .u64 0] 25)
      have H14 := Aside0.mk (And.intro (show Holds (W0.alloc (.cells #[Value.int .u64 0, .int .u64 0, .int .u64 0, .int .u64 0] 25)) W0.heap.size 25 (List.replicate 4 0) from blk_new W0 _) hHeld.size)
      refine hK.out _ _ (below_step hHeld hb) (fun hHeld => ?_)
      clear hb hK K
      generalize W0.alloc _ = X6 at *
      generalize W0.heap.size = g14 at *
      try simp only [Act.put, List.getElem_toArray, List.getElem_cons_zero, List.getElem_cons_succ, List.setIfInBounds_toArray, List.set_cons_zero, List.set_cons_succ]
      refine wpAnyH_ready (rs := [3]) (by kernel_rfl) (by simp) ?_
      refine AllReadyH.cons rfl (fun K hK => ?_) AllReadyH.nil
      go_simp
      refine (HGET.out _ hHeld).mono ?_
      rintro e X7 ⟨rfl, hb⟩
      replace H14 := Aside0.mk (And.intro (Holds.below H14.out.1 hb) H14.out.2)
      refine hK.out _ _ (below_step hHeld hb) (fun hHeld => ?_)
      clear hb hK K
      try simp only [Act.put, List.getElem_toArray, List.getElem_cons_zero, List.getElem_cons_succ, List.setIfInBounds_toArray, List.set_cons_zero, List.set_cons_succ]
      refine wpAnyH_ready (rs := [5]) (by kernel_rfl) (by simp) ?_
      refine AllReadyH.cons rfl (fun K hK => ?_) AllReadyH.nil
      go_simp
      refine (HSB3.out _).mono ?_
      rintro e X8 ⟨rfl, hb⟩
      replace H14 := Aside0.mk (And.intro (Holds.below H14.out.1 hb) H14.out.2)
      refine hK.out _ _ (below_step hHeld hb) (fun hHeld => ?_)
      clear hb hK K
      try simp only [Act.put, List.getElem_toArray, List.getElem_cons_zero, List.getElem_cons_succ, List.setIfInBounds_toArray, List.set_cons_zero, List.set_cons_succ]
      refine wpAnyH_take (i := 6) (v := .tuple #[.agg (ws L3), .bool (decide (u3 > 0))]) rfl (by kernel_rfl) (by kernel_rfl) (by kernel_rfl) (fun _ _ _ h => absurd h.1 (by simp)) (.inl ⟨by rfl, fun _ _ => by go_simp⟩) hHeld ?_
      try simp only [Act.put, List.getElem_toArray, List.getElem_cons_zero, List.getElem_cons_succ, List.setIfInBounds_toArray, List.set_cons_zero, List.set_cons_succ]
      refine wpAnyH_take (i := 7) (v := .agg (ws L3)) rfl (by kernel_rfl) (by kernel_rfl) (by kernel_rfl) (fun _ _ _ h => absurd h.1 (by simp)) (.inl ⟨by rfl, fun _ _ => by go_simp⟩) hHeld ?_
      try simp only [Act.put, List.getElem_toArray, List.getElem_cons_zero, List.getElem_cons_succ, List.setIfInBounds_toArray, List.set_cons_zero, List.set_cons_succ]
      refine wpAnyH_take (i := 8) (v := .bool (decide (u3 > 0))) rfl (by kernel_rfl) (by kernel_rfl) (by kernel_rfl) (fun _ _ _ h => absurd h.1 (by simp)) (.inl ⟨by rfl, fun _ _ => by go_simp⟩) hHeld ?_
      try simp only [Act.put, List.getElem_toArray, List.getElem_cons_zero, List.getElem_cons_succ, List.setIfInBounds_toArray, List.set_cons_zero, List.set_cons_succ]
      have hx := H14.out.1
      have z0 := hx.cell 0 (by simp)
      have y0 := hx.free 0
      have z1 := hx.cell 1 (by simp)
      have y1 := hx.free 1
      have z2 := hx.cell 2 (by simp)
      have y2 := hx.free 2
      have z3 := hx.cell 3 (by simp)
      have y3 := hx.free 3
      clear hx
      have hwf := ws_four L3 HSL3.out
      refine wpAnyH_ready (rs := [10]) (by kernel_rfl) (by simp) ?_
      refine AllReadyH.cons rfl (fun K hK => ?_) AllReadyH.nil
      go_simp
      have n14 := H14.out.2
      refine hK.out _ _ (below_set (below_set (below_set (below_set hHeld n14) n14) n14) n14) (fun hHeld => ?_)
      clear hK K z0 z1 z2 z3 y0 y1 y2 y3 hwf
      have H14' := Aside0.mk (set_four (L := List.replicate 4 0) (H := L3) rfl HSL3.out H14.out.1)
      try simp only [Act.put, List.getElem_toArray, List.getElem_cons_zero, List.getElem_cons_succ, List.setIfInBounds_toArray, List.set_cons_zero, List.set_cons_succ]
      refine wpAnyH_take (i := 11) (v := .bool (decide (u3 > 0))) rfl (by kernel_rfl) (by kernel_rfl) (by kernel_rfl) (fun _ _ _ h => absurd h.1 (by simp)) (.inl ⟨by rfl, fun _ _ => by go_simp⟩) hHeld ?_
      try simp only [Act.put, List.getElem_toArray, List.getElem_cons_zero, List.getElem_cons_succ, List.setIfInBounds_toArray, List.set_cons_zero, List.set_cons_succ]
      refine wpAnyH_done (by kernel_rfl) ?_ _
      refine ⟨rfl, g14, ?_, hHeld, n14, H14'.out⟩
      rw [ws_four L3 HSL3.out]
      try rfl
    case hnext =>
      rintro _ w2 ⟨g10, rfl, hb2, n10, h10⟩
      try simp only [Act.put, List.getElem_toArray, List.getElem_cons_zero, List.getElem_cons_succ, List.setIfInBounds_toArray, List.set_cons_zero, List.set_cons_succ]
      have HW2 := Aside0.mk (below_step HW1.out hb2)
      have H10 := Aside0.mk h10
      clear hb2 n10 h10 HW1 HG1 HGET
      by_cases v1 : u3 = 1
      · have k1 : decide (u3 > 0) = true := decide_eq_true (by omega)
        have v2 : u3 > 0 := by omega
        have HE := Aside0.mk (HE0.out.trans (if_pos v1))
        go_wp2_with fail
        exact bodyPost_ret (v := .tuple #[.slice A l.length c, .int .i64 16]) (by simp [results, Try.results13, go_sem]) rfl ⟨fun _ => ⟨by rw [HE.out], HW2.out⟩, fun h => absurd (HE.out.symm.trans h) (by decide)⟩
      · have k1 : decide (u3 > 0) = false := decide_eq_false (by have := HSU3.out; omega)
        have v2 : ¬ (u3 > 0) := by have := HSU3.out; omega
        have HE := Aside0.mk (HE0.out.trans (if_neg v1))
        have z0 := H10.out.cell 0 (by rw [HSL3.out]; omega)
        have z1 := H10.out.cell 1 (by rw [HSL3.out]; omega)
        have z2 := H10.out.cell 2 (by rw [HSL3.out]; omega)
        have z3 := H10.out.cell 3 (by rw [HSL3.out]; omega)
        go_wp2_with fail
        refine (rset_k l hup ⟨who, asset, sw L3⟩ A c w2 (Kd.C_below HC.out HW2.out) HL.out.2.1 HL.out.2.2).mono ?_
        rintro e w3 ⟨v, rfl, ho, hb⟩
        have HW3 := Aside0.mk (below_step HW2.out hb)
        have HO := Aside0.mk (own_weaken ho HW2.out.size)
        clear ho hb z0 z1 z2 z3
        go_wp2_with fail
        refine bodyPost_ret (v := .tuple #[v, .int .i64 0]) (by simp [results, Try.results13, go_sem]) rfl ⟨fun h => absurd HE.out h, fun _ => ⟨v, rfl, ?_, HW3.out⟩⟩
        rw [HTL.out]
        exact HO.out
  · rw [hw, if_pos rfl] at HE0
    by_cases s1 : who.size = 20
    · have s2 : ¬ (asset.size = 20) := by simpa [isWrong, s1] using hw
      have s3 : (who.size : Int) = 20 := by omega
      have s4 : ((asset.size : Int) != 20) = true := bne_iff_ne.2 (by omega)
      go_enter Try.func13, Try.ntmps13
      go_wp2_with fail
      exact bodyPost_ret (v := .tuple #[.slice A l.length c, .int .i64 2]) (by simp [results, Try.results13, go_sem]) rfl ⟨fun _ => ⟨by rw [HE0.out], HT.out.2⟩, fun h => absurd (HE0.out.symm.trans h) (by decide)⟩
    · have s4 : ((who.size : Int) != 20) = true := bne_iff_ne.2 (by omega)
      go_enter Try.func13, Try.ntmps13
      go_wp2_with fail
      exact bodyPost_ret (v := .tuple #[.slice A l.length c, .int .i64 2]) (by simp [results, Try.results13, go_sem]) rfl ⟨fun _ => ⟨by rw [HE0.out], HT.out.2⟩, fun h => absurd (HE0.out.symm.trans h) (by decide)⟩
end Go.Proofs.Ytnedmaddjikmkaa.P

namespace Go.Proofs.Ytnedmaddjikmkaa.P
set_option linter.unusedVariables false
set_option linter.unusedSimpArgs false
open Go.RowKit Go.Shelf Go.Proofs.YtnedmaddjikmkaaW.PrintWords
attribute [local go_sem] Oper.semAt_some
/-! acct.Give. -/
def sumV (l : List S39) (asset : ByteArray) : List W64 := (sumT asset l zero4).getD zero4
theorem sumT_len {asset : ByteArray} : ∀ (l : List S39) (s r : List W64), s.length = 4 → sumT asset l s = some r → r.length = 4
  | [], s, r, hs, h => by obtain rfl := Option.some.inj h; exact hs
  | x :: l, s, r, hs, h => by
    rw [sumT] at h
    split at h
    · split at h
      · cases h
      · exact sumT_len l _ r (by rw [addk_len, hs]) h
    · exact sumT_len l s r hs h
theorem sumV_len (l : List S39) (asset : ByteArray) : (sumV l asset).length = 4 := by
  unfold sumV
  cases h : sumT asset l zero4 with
  | none => rfl
  | some r => exact sumT_len l _ r rfl h
theorem asum_ws (l : List S39) (hl : okL l) (asset : ByteArray) (A : Option Addr) (c : Nat) (w : World) (hC : Kd.C k39 w A l.length l) (hlen : l.length ≤ c) (hl1 : l.length ≤ 100000) :
    Calls Try.prog 19 #[.slice A l.length c, .string asset] w fun e w' => ∃ ok, e = .returned (.tuple #[.agg (ws (sumV l asset)), .bool ok]) ∧ Below w.heap.size w w' := by
  have hv := asum_val hl hl1 asset _ (Nat.lt_succ_self _)
  have hs := ws_four _ (sumV_len l asset)
  cases h : sumT asset l zero4 with
  | none =>
    rw [h] at hv
    refine (acct_Sum.calls _ A c l asset _ _ _ _ _ w hC hlen hv).mono ?_
    rintro e w' ⟨rfl, hb⟩
    refine ⟨false, ?_, hb⟩
    have : sumV l asset = zero4 := by unfold sumV; rw [h]; rfl
    rw [this]
    rfl
  | some r =>
    rw [h] at hv
    refine (acct_Sum.calls _ A c l asset _ _ _ _ _ w hC hlen hv).mono ?_
    rintro e w' ⟨rfl, hb⟩
    refine ⟨true, ?_, hb⟩
    have : sumV l asset = r := by unfold sumV; rw [h]; rfl
    rw [hs, this]
    rfl
def giveS (l : List S39) (who asset : ByteArray) (n : List W64) : List W64 × Nat := addk (w4 (getA l who asset (placeK l who asset))) n 4
def giveL (l : List S39) (who asset : ByteArray) (n : List W64) : List S39 := setA l ⟨who, asset, sw (giveS l who asset n).1⟩ (placeK l who asset)
def giveE (l : List S39) (who asset : ByteArray) (n : List W64) : Int := if isWrong who asset = true then 2 else if (addk (sumV l asset) n 4).2 = 1 then 7 else if (giveL l who asset n).length > 1000 then 8 else 0
set_option maxRecDepth 100000 in
set_option maxHeartbeats 4000000 in
theorem give_any (l : List S39) (hup : Up l) (hl : okL l) (A : Option Addr) (c : Nat) (who asset : ByteArray) (n : List W64) (hn : n.length = 4) (w : World) (hC : Kd.C k39 w A l.length l) (hlen : l.length ≤ c) (hl1 : l.length ≤ 1000) :
    Calls Try.prog 10 #[.slice A l.length c, .string who, .string asset, .agg (ws n)] w fun e w' =>
      (giveE l who asset n ≠ 0 → e = .returned (.tuple #[.slice A l.length c, .int .i64 (giveE l who asset n)]) ∧ Below w.heap.size w w') ∧
      (giveE l who asset n = 0 → ∃ v, e = .returned (.tuple #[v, .int .i64 0]) ∧ w'.ownsRow w.heap.size 39 6 v (giveL l who asset n).length (cells39 (giveL l who asset n)) ∧ Below w.heap.size w w') := by
  have hu25 := Try.underlying25
  have HT := Aside0.mk (And.intro (show Holds (w.alloc (.cells (ws n) 25)) w.heap.size 25 n from blk_new w _) (below_alloc (Below.refl w.heap.size w) (.cells (ws n) 25)))
  have Hi25 := Aside0.mk (show (Try.prog.info? 25).map (·.size) = some 4 by kernel_rfl)
  have HC := Aside0.mk hC
  have HL := Aside0.mk (And.intro hn (And.intro hlen hl1))
  clear hC hn hlen hl1
  have HE0 := Aside0.mk (show giveE l who asset n = if isWrong who asset = true then 2 else if (addk (sumV l asset) n 4).2 = 1 then 7 else if (giveL l who asset n).length > 1000 then 8 else 0 from rfl)
  have HTL := Aside0.mk (show giveL l who asset n = setA l ⟨who, asset, sw (giveS l who asset n).1⟩ (placeK l who asset) from rfl)
  have HSL3 := Aside0.mk (show (giveS l who asset n).1.length = 4 by rw [giveS, addk_len]; rfl)
  have HSB3 := Aside0.mk (fun W => add_any (w4 (getA l who asset (placeK l who asset))) n rfl HL.out.1 W)
  change Aside0 (∀ W, Calls Try.prog 24 #[.agg (ws (w4 (getA l who asset (placeK l who asset)))), .agg (ws n)] W fun e w' => e = .returned (.tuple #[.agg (ws (giveS l who asset n).1), .bool (decide ((giveS l who asset n).2 = 1))]) ∧ Below W.heap.size W w') at HSB3
  have HGE := Aside0.mk (fun (X : World) (hX : Kd.C k39 X A l.length l) => get_ws l hup hl who asset A c X hX HL.out.2.1 (by have := HL.out.2.2; omega))
  have HSV := Aside0.mk (sumV_len l asset)
  have HSM := Aside0.mk (fun (X : World) (hX : Kd.C k39 X A l.length l) => asum_ws l hl asset A c X hX HL.out.2.1 (by have := HL.out.2.2; omega))
  have HSO := Aside0.mk (fun W => add_any (sumV l asset) n (sumV_len l asset) HL.out.1 W)
  have HS5 := Aside0.mk (show (addk (sumV l asset) n 4).1.length = 4 by rw [addk_len, sumV_len])
  generalize giveE l who asset n = E at *
  generalize giveL l who asset n = TL at *
  generalize giveS l who asset n = S3 at *
  obtain ⟨L3, u3⟩ := S3
  simp only at HE0 HTL HSL3 HSB3
  generalize addk (sumV l asset) n 4 = S5 at *
  obtain ⟨L5, u5⟩ := S5
  simp only at HE0 HSO HS5
  generalize sumV l asset = SV at *
  generalize w4 (getA l who asset (placeK l who asset)) = G at *
  cases hw : isWrong who asset
  · rw [hw, if_neg (by simp)] at HE0
    go_enter Try.func10, Try.ntmps10
    go_wp2_with fail
    refine (wrong_any who asset _).mono ?_
    rintro e w1 ⟨rfl, ⟨nd, hw1⟩⟩
    rw [hw]
    have HW1 := Aside0.mk (show Below w.heap.size w w1 by rw [hw1]; exact pw_below_drewN HT.out.2 _)
    have HG1 := Aside0.mk (show Holds w1 w.heap.size 25 n by rw [hw1]; exact HT.out.1)
    clear hw1
    go_wp2_with fail
    refine (HSM.out _ (Kd.C_below HC.out HW1.out)).mono ?_
    rintro e wa ⟨ok, rfl, hba⟩
    have hn10 := blk_new wa (.cells #[Value.int .u64 0, .int .u64 0, .int .u64 0, .int .u64 0] 25)
    go_wp2_with (refine store_ws rfl 25 _ _ rfl wa.heap.size rfl 25 (List.replicate 4 0) SV 4 rfl hn10 rfl HSV.out Hi25.out ?_)
    intro wb h10 hbl hf3 hs3
    clear hf3 hs3
    have hbb := below_step hba ((below_alloc (Below.refl wa.heap.size wa) (.cells #[Value.int .u64 0, .int .u64 0, .int .u64 0, .int .u64 0] 25)).trans (hbl _ (Nat.le_refl _)))
    have HWb := Aside0.mk (below_step HW1.out hbb)
    have HGb := Aside0.mk (And.intro (Holds.below HG1.out hbb) h10)
    clear h10 hbl hbb hba hn10 HW1 HG1
    generalize wa.heap.size = g10 at *
    go_wp2_with (first | (refine load_ws rfl 25 _ rfl g10 rfl 25 SV 4 _ HGb.out.2 HSV.out Try.underlying25 rfl Hi25.out ?_) | (refine load_ws rfl 25 _ rfl w.heap.size rfl 25 n 4 _ HGb.out.1 HL.out.1 Try.underlying25 rfl Hi25.out ?_))
    refine (HSO.out _).mono ?_
    rintro e wc ⟨rfl, hbc⟩
    have hn12 := blk_new wc (.cells #[Value.int .u64 0, .int .u64 0, .int .u64 0, .int .u64 0] 25)
    go_wp2_with (refine store_ws rfl 25 _ _ rfl wc.heap.size rfl 25 (List.replicate 4 0) L5 4 rfl hn12 rfl HS5.out Hi25.out ?_)
    intro w1 h12 hbl hf3 hs3
    clear hf3 hs3
    have hbb := below_step hbc ((below_alloc (Below.refl wc.heap.size wc) (.cells #[Value.int .u64 0, .int .u64 0, .int .u64 0, .int .u64 0] 25)).trans (hbl _ (Nat.le_refl _)))
    have HW1 := Aside0.mk (below_step HWb.out hbb)
    have HG1 := Aside0.mk (Holds.below HGb.out.1 hbb)
    clear h12 hbl hbb hbc hn12 HWb HGb
    generalize wc.heap.size = g12 at *
    have HGET := Aside0.mk (fun (X : World) (hX : Below w1.heap.size w1 X) => HGE.out X (Kd.C_below HC.out (below_step HW1.out hX)))
    by_cases v5 : u5 = 1
    · have k5 := decide_eq_true v5
      rw [if_pos v5] at HE0
      rw [k5]
      go_wp2_with fail
      exact bodyPost_ret (v := .tuple #[.slice A l.length c, .int .i64 7]) (by simp [results, Try.results10, go_sem]) rfl ⟨fun _ => ⟨by rw [HE0.out], HW1.out⟩, fun h => absurd (HE0.out.symm.trans h) (by decide)⟩
    have k5 := decide_eq_false v5
    rw [if_neg v5] at HE0
    rw [k5]
    go_wp2_with fail
    refine wp_put (fun a0 a' w' => ∃ gn, a' = (((((((((((a0.put (some 36) (.slice A l.length c)).put (some 37) (.string who)).put (some 38) (.string asset)).put (some 39) (.agg (ws G))).put (some 40) (.agg (ws n))).put (some 41) (.tuple #[.agg (ws L3), .bool (decide (u3 = 1))])).put (some 35) (.tuple #[.agg (ws L3), .bool (decide (u3 = 1))])).put (some 42) (.agg (ws L3))).put (some 43) (.bool (decide (u3 = 1)))).put (some 14) (.pointer (some ⟨gn, 0, none⟩))).put (some 15) (.bool (decide (u3 = 1)))) ∧ Below w1.heap.size w1 w' ∧ w1.heap.size ≤ gn ∧ Holds w' gn 25 L3) ?hreg ?hnext
    case hreg =>
      refine wp_region_held_drew (S := fun X => Below w1.heap.size w1 X) (by kernel_rfl) (below_drew1 (Below.refl _ _)) (fun hHeld => ?_)
      generalize w1.drew = W0 at *
      try simp only [Act.put, List.getElem_toArray, List.getElem_cons_zero, List.getElem_cons_succ, List.setIfInBounds_toArray, List.set_cons_zero, List.set_cons_succ]
      refine wpAnyH_take (i := 0) (v := .slice A l.length c) rfl (by kernel_rfl) (by kernel_rfl) (by kernel_rfl) (fun _ _ _ h => absurd h.1 (by simp)) (.inl ⟨by rfl, fun _ _ => by go_simp⟩) hHeld ?_
      try simp only [Act.put, List.getElem_toArray, List.getElem_cons_zero, List.getElem_cons_succ, List.setIfInBounds_toArray, List.set_cons_zero, List.set_cons_succ]
      refine wpAnyH_take (i := 1) (v := .string who) rfl (by kernel_rfl) (by kernel_rfl) (by kernel_rfl) (fun _ _ _ h => absurd h.1 (by simp)) (.inl ⟨by rfl, fun _ _ => by go_simp⟩) hHeld ?_
      try simp only [Act.put, List.getElem_toArray, List.getElem_cons_zero, List.getElem_cons_succ, List.setIfInBounds_toArray, List.set_cons_zero, List.set_cons_succ]
      refine wpAnyH_take (i := 2) (v := .string asset) rfl (by kernel_rfl) (by kernel_rfl) (by kernel_rfl) (fun _ _ _ h => absurd h.1 (by simp)) (.inl ⟨by rfl, fun _ _ => by go_simp⟩) hHeld ?_
      try simp only [Act.put, List.getElem_toArray, List.getElem_cons_zero, List.getElem_cons_succ, List.setIfInBounds_toArray, List.set_cons_zero, List.set_cons_succ]
      refine wpAnyH_take (i := 4) (v := .agg (wl n).toArray) rfl (by kernel_rfl) (by kernel_rfl) (by kernel_rfl) (fun _ _ _ h => absurd h.1 (by simp)) (yieldsIf_load_mid rfl 25 _ rfl w.heap.size 0 rfl (wl n) _ (fun X' hS => range_of (Holds.below HG1.out hS)) Try.underlying25 rfl (by rw [Hi25.out, wl, List.length_map, HL.out.1])) hHeld ?_
      try simp only [Act.put, List.getElem_toArray, List.getElem_cons_zero, List.getElem_cons_succ, List.setIfInBounds_toArray, List.set_cons_zero, List.set_cons_succ]
      rw [wl_eq]
      refine wpAnyH_ready (rs := [3, 9]) (by kernel_rfl) (by simp) ?_
      refine AllReadyH.cons rfl (fun K hK => ?_) ?_
      · go_simp
        refine (HGET.out _ hHeld).mono ?_
        rintro e X1 ⟨rfl, hb⟩
        refine hK.out _ _ (below_step hHeld hb) (fun hHeld => ?_)
        clear hb hK K
        try simp only [Act.put, List.getElem_toArray, List.getElem_cons_zero, List.getElem_cons_succ, List.setIfInBounds_toArray, List.set_cons_zero, List.set_cons_succ]
        refine wpAnyH_ready (rs := [5, 9]) (by kernel_rfl) (by simp) ?_
        refine AllReadyH.cons rfl (fun K hK => ?_) ?_
        · go_simp
          refine (HSB3.out _).mono ?_
          rintro e X2 ⟨rfl, hb⟩
          refine hK.out _ _ (below_step hHeld hb) (fun hHeld => ?_)
          clear hb hK K
          try simp only [Act.put, List.getElem_toArray, List.getElem_cons_zero, List.getElem_cons_succ, List.setIfInBounds_toArray, List.set_cons_zero, List.set_cons_succ]
          refine wpAnyH_take (i := 6) (v := .tuple #[.agg (ws L3), .bool (decide (u3 = 1))]) rfl (by kernel_rfl) (by kernel_rfl) (by kernel_rfl) (fun _ _ _ h => absurd h.1 (by simp)) (.inl ⟨by rfl, fun _ _ => by go_simp⟩) hHeld ?_
          try simp only [Act.put, List.getElem_toArray, List.getElem_cons_zero, List.getElem_cons_succ, List.setIfInBounds_toArray, List.set_cons_zero, List.set_cons_succ]
          refine wpAnyH_take (i := 7) (v := .agg (ws L3)) rfl (by kernel_rfl) (by kernel_rfl) (by kernel_rfl) (fun _ _ _ h => absurd h.1 (by simp)) (.inl ⟨by rfl, fun _ _ => by go_simp⟩) hHeld ?_
          try simp only [Act.put, List.getElem_toArray, List.getElem_cons_zero, List.getElem_cons_succ, List.setIfInBounds_toArray, List.set_cons_zero, List.set_cons_succ]
          refine wpAnyH_take (i := 8) (v := .bool (decide (u3 = 1))) rfl (by kernel_rfl) (by kernel_rfl) (by kernel_rfl) (fun _ _ _ h => absurd h.1 (by simp)) (.inl ⟨by rfl, fun _ _ => by go_simp⟩) hHeld ?_
          try simp only [Act.put, List.getElem_toArray, List.getElem_cons_zero, List.getElem_cons_succ, List.setIfInBounds_toArray, List.set_cons_zero, List.set_cons_succ]
          refine wpAnyH_ready (rs := [9]) (by kernel_rfl) (by simp) ?_
          refine AllReadyH.cons rfl (fun K hK => ?_) AllReadyH.nil
          go_simp
          have hb := below_alloc (Below.refl X2.heap.size X2) (.cells #[Value.int .u64 0, .int .u64 0, .int .u64 0, .int .u64 0] 25)
          have H14 := Aside0.mk (And.intro (show Holds (X2.alloc (.cells #[Value.int .u64 0, .int .u64 0, .int .u64 0, .int .u64 0] 25)) X2.heap.size 25 (List.replicate 4 0) from blk_new X2 _) hHeld.size)
          refine hK.out _ _ (below_step hHeld hb) (fun hHeld => ?_)
          clear hb hK K
          generalize X2.alloc _ = X3 at *
          generalize X2.heap.size = g14 at *
          try simp only [Act.put, List.getElem_toArray, List.getElem_cons_zero, List.getElem_cons_succ, List.setIfInBounds_toArray, List.set_cons_zero, List.set_cons_succ]
          have hx := H14.out.1
          have z0 := hx.cell 0 (by simp)
          have y0 := hx.free 0
          have z1 := hx.cell 1 (by simp)
          have y1 := hx.free 1
          have z2 := hx.cell 2 (by simp)
          have y2 := hx.free 2
          have z3 := hx.cell 3 (by simp)
          have y3 := hx.free 3
          clear hx
          have hwf := ws_four L3 HSL3.out
          refine wpAnyH_ready (rs := [10]) (by kernel_rfl) (by simp) ?_
          refine AllReadyH.cons rfl (fun K hK => ?_) AllReadyH.nil
          go_simp
          have n14 := H14.out.2
          refine hK.out _ _ (below_set (below_set (below_set (below_set hHeld n14) n14) n14) n14) (fun hHeld => ?_)
          clear hK K z0 z1 z2 z3 y0 y1 y2 y3 hwf
          have H14' := Aside0.mk (set_four (L := List.replicate 4 0) (H := L3) rfl HSL3.out H14.out.1)
          try simp only [Act.put, List.getElem_toArray, List.getElem_cons_zero, List.getElem_cons_succ, List.setIfInBounds_toArray, List.set_cons_zero, List.set_cons_succ]
          refine wpAnyH_take (i := 11) (v := .bool (decide (u3 = 1))) rfl (by kernel_rfl) (by kernel_rfl) (by kernel_rfl) (fun _ _ _ h => absurd h.1 (by simp)) (.inl ⟨by rfl, fun _ _ => by go_simp⟩) hHeld ?_
          try simp only [Act.put, List.getElem_toArray, List.getElem_cons_zero, List.getElem_cons_succ, List.setIfInBounds_toArray, List.set_cons_zero, List.set_cons_succ]
          refine wpAnyH_done (by kernel_rfl) ?_ _
          refine ⟨rfl, g14, ?_, hHeld, n14, H14'.out⟩
          rw [ws_four L3 HSL3.out]
          try rfl
        refine AllReadyH.cons rfl (fun K hK => ?_) AllReadyH.nil
        go_simp
        have hb := below_alloc (Below.refl X1.heap.size X1) (.cells #[Value.int .u64 0, .int .u64 0, .int .u64 0, .int .u64 0] 25)
        have H14 := Aside0.mk (And.intro (show Holds (X1.alloc (.cells #[Value.int .u64 0, .int .u64 0, .int .u64 0, .int .u64 0] 25)) X1.heap.size 25 (List.replicate 4 0) from blk_new X1 _) hHeld.size)
        refine hK.out _ _ (below_step hHeld hb) (fun hHeld => ?_)
        clear hb hK K
        generalize X1.alloc _ = X4 at *
        generalize X1.heap.size = g14 at *
        try simp only [Act.put, List.getElem_toArray, List.getElem_cons_zero, List.getElem_cons_succ, List.setIfInBounds_toArray, List.set_cons_zero, List.set_cons_succ]
        refine wpAnyH_ready (rs := [5]) (by kernel_rfl) (by simp) ?_
        refine AllReadyH.cons rfl (fun K hK => ?_) AllReadyH.nil
        go_simp
        refine (HSB3.out _).mono ?_
        rintro e X5 ⟨rfl, hb⟩
        replace H14 := Aside0.mk (And.intro (Holds.below H14.out.1 hb) H14.out.2)
        refine hK.out _ _ (below_step hHeld hb) (fun hHeld => ?_)
        clear hb hK K
        try simp only [Act.put, List.getElem_toArray, List.getElem_cons_zero, List.getElem_cons_succ, List.setIfInBounds_toArray, List.set_cons_zero, List.set_cons_succ]
        refine wpAnyH_take (i := 6) (v := .tuple #[.agg (ws L3), .bool (decide (u3 = 1))]) rfl (by kernel_rfl) (by kernel_rfl) (by kernel_rfl) (fun _ _ _ h => absurd h.1 (by simp)) (.inl ⟨by rfl, fun _ _ => by go_simp⟩) hHeld ?_
        try simp only [Act.put, List.getElem_toArray, List.getElem_cons_zero, List.getElem_cons_succ, List.setIfInBounds_toArray, List.set_cons_zero, List.set_cons_succ]
        refine wpAnyH_take (i := 7) (v := .agg (ws L3)) rfl (by kernel_rfl) (by kernel_rfl) (by kernel_rfl) (fun _ _ _ h => absurd h.1 (by simp)) (.inl ⟨by rfl, fun _ _ => by go_simp⟩) hHeld ?_
        try simp only [Act.put, List.getElem_toArray, List.getElem_cons_zero, List.getElem_cons_succ, List.setIfInBounds_toArray, List.set_cons_zero, List.set_cons_succ]
        refine wpAnyH_take (i := 8) (v := .bool (decide (u3 = 1))) rfl (by kernel_rfl) (by kernel_rfl) (by kernel_rfl) (fun _ _ _ h => absurd h.1 (by simp)) (.inl ⟨by rfl, fun _ _ => by go_simp⟩) hHeld ?_
        try simp only [Act.put, List.getElem_toArray, List.getElem_cons_zero, List.getElem_cons_succ, List.setIfInBounds_toArray, List.set_cons_zero, List.set_cons_succ]
        have hx := H14.out.1
        have z0 := hx.cell 0 (by simp)
        have y0 := hx.free 0
        have z1 := hx.cell 1 (by simp)
        have y1 := hx.free 1
        have z2 := hx.cell 2 (by simp)
        have y2 := hx.free 2
        have z3 := hx.cell 3 (by simp)
        have y3 := hx.free 3
        clear hx
        have hwf := ws_four L3 HSL3.out
        refine wpAnyH_ready (rs := [10]) (by kernel_rfl) (by simp) ?_
        refine AllReadyH.cons rfl (fun K hK => ?_) AllReadyH.nil
        go_simp
        have n14 := H14.out.2
        refine hK.out _ _ (below_set (below_set (below_set (below_set hHeld n14) n14) n14) n14) (fun hHeld => ?_)
        clear hK K z0 z1 z2 z3 y0 y1 y2 y3 hwf
        have H14' := Aside0.mk (set_four (L := List.replicate 4 0) (H := L3) rfl HSL3.out H14.out.1)
        try simp only [Act.put, List.getElem_toArray, List.getElem_cons_zero, List.getElem_cons_succ, List.setIfInBounds_toArray, List.set_cons_zero, List.set_cons_succ]
        refine wpAnyH_take (i := 11) (v := .bool (decide (u3 = 1))) rfl (by kernel_rfl) (by kernel_rfl) (by kernel_rfl) (fun _ _ _ h => absurd h.1 (by simp)) (.inl ⟨by rfl, fun _ _ => by go_simp⟩) hHeld ?_
        try simp only [Act.put, List.getElem_toArray, List.getElem_cons_zero, List.getElem_cons_succ, List.setIfInBounds_toArray, List.set_cons_zero, List.set_cons_succ]
        refine wpAnyH_done (by kernel_rfl) ?_ _
        refine ⟨rfl, g14, ?_, hHeld, n14, H14'.out⟩
        rw [ws_four L3 HSL3.out]
        try rfl
      refine AllReadyH.cons rfl (fun K hK => ?_) AllReadyH.nil
      go_simp
      have hb := below_alloc (Below.refl W0.heap.size W0) (.cells #[Value.int .u64 0, .int .u64 0, .int .u64 0, .int .u64 0] 25)
      have H14 := Aside0.mk (And.intro (show Holds (W0.alloc (.cells #[Value.int .u64 0, .int .u64 0, .int .u64 0, .int .u64 0] 25)) W0.heap.size 25 (List.replicate 4 0) from blk_new W0 _) hHeld.size)
      refine hK.out _ _ (below_step hHeld hb) (fun hHeld => ?_)
      clear hb hK K
      generalize W0.alloc _ = X6 at *
      generalize W0.heap.size = g14 at *
      try simp only [Act.put, List.getElem_toArray, List.getElem_cons_zero, List.getElem_cons_succ, List.setIfInBounds_toArray, List.set_cons_zero, List.set_cons_succ]
      refine wpAnyH_ready (rs := [3]) (by kernel_rfl) (by simp) ?_
      refine AllReadyH.cons rfl (fun K hK => ?_) AllReadyH.nil
      go_simp
      refine (HGET.out _ hHeld).mono ?_
      rintro e X7 ⟨rfl, hb⟩
      replace H14 := Aside0.mk (And.intro (Holds.below H14.out.1 hb) H14.out.2)
      refine hK.out _ _ (below_step hHeld hb) (fun hHeld => ?_)
      clear hb hK K
      try simp only [Act.put, List.getElem_toArray, List.getElem_cons_zero, List.getElem_cons_succ, List.setIfInBounds_toArray, List.set_cons_zero, List.set_cons_succ]
      refine wpAnyH_ready (rs := [5]) (by kernel_rfl) (by simp) ?_
      refine AllReadyH.cons rfl (fun K hK => ?_) AllReadyH.nil
      go_simp
      refine (HSB3.out _).mono ?_
      rintro e X8 ⟨rfl, hb⟩
      replace H14 := Aside0.mk (And.intro (Holds.below H14.out.1 hb) H14.out.2)
      refine hK.out _ _ (below_step hHeld hb) (fun hHeld => ?_)
      clear hb hK K
      try simp only [Act.put, List.getElem_toArray, List.getElem_cons_zero, List.getElem_cons_succ, List.setIfInBounds_toArray, List.set_cons_zero, List.set_cons_succ]
      refine wpAnyH_take (i := 6) (v := .tuple #[.agg (ws L3), .bool (decide (u3 = 1))]) rfl (by kernel_rfl) (by kernel_rfl) (by kernel_rfl) (fun _ _ _ h => absurd h.1 (by simp)) (.inl ⟨by rfl, fun _ _ => by go_simp⟩) hHeld ?_
      try simp only [Act.put, List.getElem_toArray, List.getElem_cons_zero, List.getElem_cons_succ, List.setIfInBounds_toArray, List.set_cons_zero, List.set_cons_succ]
      refine wpAnyH_take (i := 7) (v := .agg (ws L3)) rfl (by kernel_rfl) (by kernel_rfl) (by kernel_rfl) (fun _ _ _ h => absurd h.1 (by simp)) (.inl ⟨by rfl, fun _ _ => by go_simp⟩) hHeld ?_
      try simp only [Act.put, List.getElem_toArray, List.getElem_cons_zero, List.getElem_cons_succ, List.setIfInBounds_toArray, List.set_cons_zero, List.set_cons_succ]
      refine wpAnyH_take (i := 8) (v := .bool (decide (u3 = 1))) rfl (by kernel_rfl) (by kernel_rfl) (by kernel_rfl) (fun _ _ _ h => absurd h.1 (by simp)) (.inl ⟨by rfl, fun _ _ => by go_simp⟩) hHeld ?_
      try simp only [Act.put, List.getElem_toArray, List.getElem_cons_zero, List.getElem_cons_succ, List.setIfInBounds_toArray, List.set_cons_zero, List.set_cons_succ]
      have hx := H14.out.1
      have z0 := hx.cell 0 (by simp)
      have y0 := hx.free 0
      have z1 := hx.cell 1 (by simp)
      have y1 := hx.free 1
      have z2 := hx.cell 2 (by simp)
      have y2 := hx.free 2
      have z3 := hx.cell 3 (by simp)
      have y3 := hx.free 3
      clear hx
      have hwf := ws_four L3 HSL3.out
      refine wpAnyH_ready (rs := [10]) (by kernel_rfl) (by simp) ?_
      refine AllReadyH.cons rfl (fun K hK => ?_) AllReadyH.nil
      go_simp
      have n14 := H14.out.2
      refine hK.out _ _ (below_set (below_set (below_set (below_set hHeld n14) n14) n14) n14) (fun hHeld => ?_)
      clear hK K z0 z1 z2 z3 y0 y1 y2 y3 hwf
      have H14' := Aside0.mk (set_four (L := List.replicate 4 0) (H := L3) rfl HSL3.out H14.out.1)
      try simp only [Act.put, List.getElem_toArray, List.getElem_cons_zero, List.getElem_cons_succ, List.setIfInBounds_toArray, List.set_cons_zero, List.set_cons_succ]
      refine wpAnyH_take (i := 11) (v := .bool (decide (u3 = 1))) rfl (by kernel_rfl) (by kernel_rfl) (by kernel_rfl) (fun _ _ _ h => absurd h.1 (by simp)) (.inl ⟨by rfl, fun _ _ => by go_simp⟩) hHeld ?_
      try simp only [Act.put, List.getElem_toArray, List.getElem_cons_zero, List.getElem_cons_succ, List.setIfInBounds_toArray, List.set_cons_zero, List.set_cons_succ]
      refine wpAnyH_done (by kernel_rfl) ?_ _
      refine ⟨rfl, g14, ?_, hHeld, n14, H14'.out⟩
      rw [ws_four L3 HSL3.out]
      try rfl
    case hnext =>
      rintro _ w2 ⟨g10, rfl, hb2, n10, h10⟩
      try simp only [Act.put, List.getElem_toArray, List.getElem_cons_zero, List.getElem_cons_succ, List.setIfInBounds_toArray, List.set_cons_zero, List.set_cons_succ]
      have HW2 := Aside0.mk (below_step HW1.out hb2)
      have H10 := Aside0.mk h10
      clear hb2 n10 h10 HW1 HG1 HGET
      have z0 := H10.out.cell 0 (by rw [HSL3.out]; omega)
      have z1 := H10.out.cell 1 (by rw [HSL3.out]; omega)
      have z2 := H10.out.cell 2 (by rw [HSL3.out]; omega)
      have z3 := H10.out.cell 3 (by rw [HSL3.out]; omega)
      go_wp2_with fail
      refine (set_k l hup ⟨who, asset, sw L3⟩ A c w2 (Kd.C_below HC.out HW2.out) HL.out.2.1 HL.out.2.2).mono ?_
      rintro e w3 ⟨v, rfl, ho, hb⟩
      have HW3 := Aside0.mk (below_step HW2.out hb)
      rw [← HTL.out] at ho
      have HO := Aside0.mk (own_weaken ho HW2.out.size)
      clear ho hb z0 z1 z2 z3
      obtain ⟨Av, cv, rfl⟩ := own_slice HO.out
      by_cases v1 : TL.length > 1000
      · have k1 : decide ((1000 : Int) < (TL.length : Int)) = true := decide_eq_true (by omega)
        have HE := Aside0.mk (HE0.out.trans (if_pos v1))
        go_wp2_with fail
        exact bodyPost_ret (v := .tuple #[.slice A l.length c, .int .i64 8]) (by simp [results, Try.results10, go_sem]) rfl ⟨fun _ => ⟨by rw [HE.out], HW3.out⟩, fun h => absurd (HE.out.symm.trans h) (by decide)⟩
      · have k1 : decide ((1000 : Int) < (TL.length : Int)) = false := decide_eq_false (by omega)
        have HE := Aside0.mk (HE0.out.trans (if_neg v1))
        go_wp2_with fail
        exact bodyPost_ret (v := .tuple #[.slice Av TL.length cv, .int .i64 0]) (by simp [results, Try.results10, go_sem]) rfl ⟨fun h => absurd HE.out h, fun _ => ⟨_, rfl, HO.out, HW3.out⟩⟩
  · rw [hw, if_pos rfl] at HE0
    go_enter Try.func10, Try.ntmps10
    go_wp2_with fail
    refine (wrong_any who asset _).mono ?_
    rintro e w1 ⟨rfl, ⟨nd, hw1⟩⟩
    rw [hw]
    have HW1 := Aside0.mk (show Below w.heap.size w w1 by rw [hw1]; exact pw_below_drewN HT.out.2 _)
    clear hw1
    go_wp2_with fail
    exact bodyPost_ret (v := .tuple #[.slice A l.length c, .int .i64 2]) (by simp [results, Try.results10, go_sem]) rfl ⟨fun _ => ⟨by rw [HE0.out], HW1.out⟩, fun h => absurd (HE0.out.symm.trans h) (by decide)⟩
end Go.Proofs.Ytnedmaddjikmkaa.P

namespace Go.Proofs.Ytnedmaddjikmkaa.P
set_option linter.unusedVariables false
set_option linter.unusedSimpArgs false
open Go.RowKit Go.Shelf Go.Proofs.YtnedmaddjikmkaaW.PrintWords
attribute [local go_sem] Oper.semAt_some
/-! The document's Give. -/
theorem rsum_ws (l : List S39) (hl : okL l) (asset : ByteArray) (A : Option Addr) (c : Nat) (w : World) (hC : Kd.C k39 w A l.length l) (hlen : l.length ≤ c) (hl1 : l.length ≤ 100000) :
    Calls Try.prog 15 #[.slice A l.length c, .string asset] w fun e w' => ∃ ok, e = .returned (.tuple #[.agg (ws (sumV l asset)), .bool ok]) ∧ Below w.heap.size w w' := by
  have hv := rsum_val hl hl1 asset _ (Nat.lt_succ_self _)
  have hs := ws_four _ (sumV_len l asset)
  cases h : sumT asset l zero4 with
  | none =>
    rw [h] at hv
    refine (truceref16_Sum.calls _ A c l asset _ _ _ _ _ w hC hlen hv).mono ?_
    rintro e w' ⟨rfl, hb⟩
    refine ⟨false, ?_, hb⟩
    have : sumV l asset = zero4 := by unfold sumV; rw [h]; rfl
    rw [this]
    rfl
  | some r =>
    rw [h] at hv
    refine (truceref16_Sum.calls _ A c l asset _ _ _ _ _ w hC hlen hv).mono ?_
    rintro e w' ⟨rfl, hb⟩
    refine ⟨true, ?_, hb⟩
    have : sumV l asset = r := by unfold sumV; rw [h]; rfl
    rw [hs, this]
    rfl
set_option maxRecDepth 100000 in
set_option maxHeartbeats 4000000 in
theorem rgive_any (l : List S39) (hup : Up l) (hl : okL l) (A : Option Addr) (c : Nat) (who asset : ByteArray) (n : List W64) (hn : n.length = 4) (w : World) (hC : Kd.C k39 w A l.length l) (hlen : l.length ≤ c) (hl1 : l.length ≤ 1000) :
    Calls Try.prog 11 #[.slice A l.length c, .string who, .string asset, .agg (ws n)] w fun e w' =>
      (giveE l who asset n ≠ 0 → e = .returned (.tuple #[.slice A l.length c, .int .i64 (giveE l who asset n)]) ∧ Below w.heap.size w w') ∧
      (giveE l who asset n = 0 → ∃ v, e = .returned (.tuple #[v, .int .i64 0]) ∧ w'.ownsRow w.heap.size 39 6 v (giveL l who asset n).length (cells39 (giveL l who asset n)) ∧ Below w.heap.size w w') := by
  have hu25 := Try.underlying25
  have HT := Aside0.mk (And.intro (show Holds (w.alloc (.cells (ws n) 25)) w.heap.size 25 n from blk_new w _) (below_alloc (Below.refl w.heap.size w) (.cells (ws n) 25)))
  have Hi25 := Aside0.mk (show (Try.prog.info? 25).map (·.size) = some 4 by kernel_rfl)
  have HC := Aside0.mk hC
  have HL := Aside0.mk (And.intro hn (And.intro hlen hl1))
  clear hC hn hlen hl1
  have HE0 := Aside0.mk (show giveE l who asset n = if isWrong who asset = true then 2 else if (addk (sumV l asset) n 4).2 = 1 then 7 else if (giveL l who asset n).length > 1000 then 8 else 0 from rfl)
  have HTL := Aside0.mk (show giveL l who asset n = setA l ⟨who, asset, sw (giveS l who asset n).1⟩ (placeK l who asset) from rfl)
  have HSL3 := Aside0.mk (show (giveS l who asset n).1.length = 4 by rw [giveS, addk_len]; rfl)
  have HSB3 := Aside0.mk (fun W => radd_any (w4 (getA l who asset (placeK l who asset))) n rfl HL.out.1 W)
  change Aside0 (∀ W, Calls Try.prog 16 #[.agg (ws (w4 (getA l who asset (placeK l who asset)))), .agg (ws n)] W fun e w' => e = .returned (.tuple #[.agg (ws (giveS l who asset n).1), .bool (decide ((giveS l who asset n).2 > 0))]) ∧ Below W.heap.size W w') at HSB3
  have HGE := Aside0.mk (fun (X : World) (hX : Kd.C k39 X A l.length l) => rget_ws l hup hl who asset A c X hX HL.out.2.1 (by have := HL.out.2.2; omega))
  have HSV := Aside0.mk (sumV_len l asset)
  have HSM := Aside0.mk (fun (X : World) (hX : Kd.C k39 X A l.length l) => rsum_ws l hl asset A c X hX HL.out.2.1 (by have := HL.out.2.2; omega))
  have HSO := Aside0.mk (fun W => radd_any (sumV l asset) n (sumV_len l asset) HL.out.1 W)
  have HSU5 := Aside0.mk (show (addk (sumV l asset) n 4).2 ≤ 1 from addk_c _ _ 4)
  have HS5 := Aside0.mk (show (addk (sumV l asset) n 4).1.length = 4 by rw [addk_len, sumV_len])
  generalize giveE l who asset n = E at *
  generalize giveL l who asset n = TL at *
  generalize giveS l who asset n = S3 at *
  obtain ⟨L3, u3⟩ := S3
  simp only at HE0 HTL HSL3 HSB3
  generalize addk (sumV l asset) n 4 = S5 at *
  obtain ⟨L5, u5⟩ := S5
  simp only at HE0 HSO HS5 HSU5
  generalize sumV l asset = SV at *
  generalize w4 (getA l who asset (placeK l who asset)) = G at *
  cases hw : isWrong who asset
  · rw [hw, if_neg (by simp)] at HE0
    have hs : who.size = 20 ∧ asset.size = 20 := by simpa [isWrong] using hw
    have s1 : (who.size : Int) = 20 := by omega
    have s2 : (asset.size : Int) = 20 := by omega
    have HW1 := Aside0.mk HT.out.2
    have HG1 := Aside0.mk HT.out.1
    go_enter Try.func11, Try.ntmps11
    go_wp2_with fail
    generalize w.alloc (.cells (ws n) 25) = w1 at *
    refine (HSM.out _ (Kd.C_below HC.out HW1.out)).mono ?_
    rintro e wa ⟨ok, rfl, hba⟩
    have hn10 := blk_new wa (.cells #[Value.int .u64 0, .int .u64 0, .int .u64 0, .int .u64 0] 25)
    go_wp2_with (refine store_ws rfl 25 _ _ rfl wa.heap.size rfl 25 (List.replicate 4 0) SV 4 rfl hn10 rfl HSV.out Hi25.out ?_)
    intro wb h10 hbl hf3 hs3
    clear hf3 hs3
    have hbb := below_step hba ((below_alloc (Below.refl wa.heap.size wa) (.cells #[Value.int .u64 0, .int .u64 0, .int .u64 0, .int .u64 0] 25)).trans (hbl _ (Nat.le_refl _)))
    have HWb := Aside0.mk (below_step HW1.out hbb)
    have HGb := Aside0.mk (And.intro (Holds.below HG1.out hbb) h10)
    clear h10 hbl hbb hba hn10 HW1 HG1
    generalize wa.heap.size = g10 at *
    go_wp2_with (first | (refine load_ws rfl 25 _ rfl g10 rfl 25 SV 4 _ HGb.out.2 HSV.out Try.underlying25 rfl Hi25.out ?_) | (refine load_ws rfl 25 _ rfl w.heap.size rfl 25 n 4 _ HGb.out.1 HL.out.1 Try.underlying25 rfl Hi25.out ?_))
    refine (HSO.out _).mono ?_
    rintro e wc ⟨rfl, hbc⟩
    have hn12 := blk_new wc (.cells #[Value.int .u64 0, .int .u64 0, .int .u64 0, .int .u64 0] 25)
    go_wp2_with (refine store_ws rfl 25 _ _ rfl wc.heap.size rfl 25 (List.replicate 4 0) L5 4 rfl hn12 rfl HS5.out Hi25.out ?_)
    intro w1 h12 hbl hf3 hs3
    clear hf3 hs3
    have hbb := below_step hbc ((below_alloc (Below.refl wc.heap.size wc) (.cells #[Value.int .u64 0, .int .u64 0, .int .u64 0, .int .u64 0] 25)).trans (hbl _ (Nat.le_refl _)))
    have HW1 := Aside0.mk (below_step HWb.out hbb)
    have HG1 := Aside0.mk (Holds.below HGb.out.1 hbb)
    clear h12 hbl hbb hbc hn12 HWb HGb
    generalize wc.heap.size = g12 at *
    have HGET := Aside0.mk (fun (X : World) (hX : Below w1.heap.size w1 X) => HGE.out X (Kd.C_below HC.out (below_step HW1.out hX)))
    by_cases v5 : u5 = 1
    · have k5 : decide (u5 > 0) = true := decide_eq_true (by omega)
      rw [if_pos v5] at HE0
      rw [k5]
      go_wp2_with fail
      exact bodyPost_ret (v := .tuple #[.slice A l.length c, .int .i64 7]) (by simp [results, Try.results11, go_sem]) rfl ⟨fun _ => ⟨by rw [HE0.out], HW1.out⟩, fun h => absurd (HE0.out.symm.trans h) (by decide)⟩
    have k5 : decide (u5 > 0) = false := decide_eq_false (by have := HSU5.out; omega)
    rw [if_neg v5] at HE0
    rw [k5]
    go_wp2_with fail
    refine wp_put (fun a0 a' w' => ∃ gn, a' = (((((((((((a0.put (some 41) (.slice A l.length c)).put (some 42) (.string who)).put (some 43) (.string asset)).put (some 44) (.agg (ws G))).put (some 45) (.agg (ws n))).put (some 46) (.tuple #[.agg (ws L3), .bool (decide (u3 > 0))])).put (some 40) (.tuple #[.agg (ws L3), .bool (decide (u3 > 0))])).put (some 47) (.agg (ws L3))).put (some 48) (.bool (decide (u3 > 0)))).put (some 14) (.pointer (some ⟨gn, 0, none⟩))).put (some 15) (.bool (decide (u3 > 0)))) ∧ Below w1.heap.size w1 w' ∧ w1.heap.size ≤ gn ∧ Holds w' gn 25 L3) ?hreg ?hnext
    case hreg =>
      refine wp_region_held_drew (S := fun X => Below w1.heap.size w1 X) (by kernel_rfl) (below_drew1 (Below.refl _ _)) (fun hHeld => ?_)
      generalize w1.drew = W0 at *
      try simp only [Act.put, List.getElem_toArray, List.getElem_cons_zero, List.getElem_cons_succ, List.setIfInBounds_toArray, List.set_cons_zero, List.set_cons_succ]
      refine wpAnyH_take (i := 0) (v := .slice A l.length c) rfl (by kernel_rfl) (by kernel_rfl) (by kernel_rfl) (fun _ _ _ h => absurd h.1 (by simp)) (.inl ⟨by rfl, fun _ _ => by go_simp⟩) hHeld ?_
      try simp only [Act.put, List.getElem_toArray, List.getElem_cons_zero, List.getElem_cons_succ, List.setIfInBounds_toArray, List.set_cons_zero, List.set_cons_succ]
      refine wpAnyH_take (i := 1) (v := .string who) rfl (by kernel_rfl) (by kernel_rfl) (by kernel_rfl) (fun _ _ _ h => absurd h.1 (by simp)) (.inl ⟨by rfl, fun _ _ => by go_simp⟩) hHeld ?_
      try simp only [Act.put, List.getElem_toArray, List.getElem_cons_zero, List.getElem_cons_succ, List.setIfInBounds_toArray, List.set_cons_zero, List.set_cons_succ]
      refine wpAnyH_take (i := 2) (v := .string asset) rfl (by kernel_rfl) (by kernel_rfl) (by kernel_rfl) (fun _ _ _ h => absurd h.1 (by simp)) (.inl ⟨by rfl, fun _ _ => by go_simp⟩) hHeld ?_
      try simp only [Act.put, List.getElem_toArray, List.getElem_cons_zero, List.getElem_cons_succ, List.setIfInBounds_toArray, List.set_cons_zero, List.set_cons_succ]
      refine wpAnyH_take (i := 4) (v := .agg (wl n).toArray) rfl (by kernel_rfl) (by kernel_rfl) (by kernel_rfl) (fun _ _ _ h => absurd h.1 (by simp)) (yieldsIf_load_mid rfl 25 _ rfl w.heap.size 0 rfl (wl n) _ (fun X' hS => range_of (Holds.below HG1.out hS)) Try.underlying25 rfl (by rw [Hi25.out, wl, List.length_map, HL.out.1])) hHeld ?_
      try simp only [Act.put, List.getElem_toArray, List.getElem_cons_zero, List.getElem_cons_succ, List.setIfInBounds_toArray, List.set_cons_zero, List.set_cons_succ]
      rw [wl_eq]
      refine wpAnyH_ready (rs := [3, 9]) (by kernel_rfl) (by simp) ?_
      refine AllReadyH.cons rfl (fun K hK => ?_) ?_
      · go_simp
        refine (HGET.out _ hHeld).mono ?_
        rintro e X1 ⟨rfl, hb⟩
        refine hK.out _ _ (below_step hHeld hb) (fun hHeld => ?_)
        clear hb hK K
        try simp only [Act.put, List.getElem_toArray, List.getElem_cons_zero, List.getElem_cons_succ, List.setIfInBounds_toArray, List.set_cons_zero, List.set_cons_succ]
        refine wpAnyH_ready (rs := [5, 9]) (by kernel_rfl) (by simp) ?_
        refine AllReadyH.cons rfl (fun K hK => ?_) ?_
        · go_simp
          refine (HSB3.out _).mono ?_
          rintro e X2 ⟨rfl, hb⟩
          refine hK.out _ _ (below_step hHeld hb) (fun hHeld => ?_)
          clear hb hK K
          try simp only [Act.put, List.getElem_toArray, List.getElem_cons_zero, List.getElem_cons_succ, List.setIfInBounds_toArray, List.set_cons_zero, List.set_cons_succ]
          refine wpAnyH_take (i := 6) (v := .tuple #[.agg (ws L3), .bool (decide (u3 > 0))]) rfl (by kernel_rfl) (by kernel_rfl) (by kernel_rfl) (fun _ _ _ h => absurd h.1 (by simp)) (.inl ⟨by rfl, fun _ _ => by go_simp⟩) hHeld ?_
          try simp only [Act.put, List.getElem_toArray, List.getElem_cons_zero, List.getElem_cons_succ, List.setIfInBounds_toArray, List.set_cons_zero, List.set_cons_succ]
          refine wpAnyH_take (i := 7) (v := .agg (ws L3)) rfl (by kernel_rfl) (by kernel_rfl) (by kernel_rfl) (fun _ _ _ h => absurd h.1 (by simp)) (.inl ⟨by rfl, fun _ _ => by go_simp⟩) hHeld ?_
          try simp only [Act.put, List.getElem_toArray, List.getElem_cons_zero, List.getElem_cons_succ, List.setIfInBounds_toArray, List.set_cons_zero, List.set_cons_succ]
          refine wpAnyH_take (i := 8) (v := .bool (decide (u3 > 0))) rfl (by kernel_rfl) (by kernel_rfl) (by kernel_rfl) (fun _ _ _ h => absurd h.1 (by simp)) (.inl ⟨by rfl, fun _ _ => by go_simp⟩) hHeld ?_
          try simp only [Act.put, List.getElem_toArray, List.getElem_cons_zero, List.getElem_cons_succ, List.setIfInBounds_toArray, List.set_cons_zero, List.set_cons_succ]
          refine wpAnyH_ready (rs := [9]) (by kernel_rfl) (by simp) ?_
          refine AllReadyH.cons rfl (fun K hK => ?_) AllReadyH.nil
          go_simp
          have hb := below_alloc (Below.refl X2.heap.size X2) (.cells #[Value.int .u64 0, .int .u64 0, .int .u64 0, .int .u64 0] 25)
          have H14 := Aside0.mk (And.intro (show Holds (X2.alloc (.cells #[Value.int .u64 0, .int .u64 0, .int .u64 0, .int .u64 0] 25)) X2.heap.size 25 (List.replicate 4 0) from blk_new X2 _) hHeld.size)
          refine hK.out _ _ (below_step hHeld hb) (fun hHeld => ?_)
          clear hb hK K
          generalize X2.alloc _ = X3 at *
          generalize X2.heap.size = g14 at *
          try simp only [Act.put, List.getElem_toArray, List.getElem_cons_zero, List.getElem_cons_succ, List.setIfInBounds_toArray, List.set_cons_zero, List.set_cons_succ]
          have hx := H14.out.1
          have z0 := hx.cell 0 (by simp)
          have y0 := hx.free 0
          have z1 := hx.cell 1 (by simp)
          have y1 := hx.free 1
          have z2 := hx.cell 2 (by simp)
          have y2 := hx.free 2
          have z3 := hx.cell 3 (by simp)
          have y3 := hx.free 3
          clear hx
          have hwf := ws_four L3 HSL3.out
          refine wpAnyH_ready (rs := [10]) (by kernel_rfl) (by simp) ?_
          refine AllReadyH.cons rfl (fun K hK => ?_) AllReadyH.nil
          go_simp
          have n14 := H14.out.2
          refine hK.out _ _ (below_set (below_set (below_set (below_set hHeld n14) n14) n14) n14) (fun hHeld => ?_)
          clear hK K z0 z1 z2 z3 y0 y1 y2 y3 hwf
          have H14' := Aside0.mk (set_four (L := List.replicate 4 0) (H := L3) rfl HSL3.out H14.out.1)
          try simp only [Act.put, List.getElem_toArray, List.getElem_cons_zero, List.getElem_cons_succ, List.setIfInBounds_toArray, List.set_cons_zero, List.set_cons_succ]
          refine wpAnyH_take (i := 11) (v := .bool (decide (u3 > 0))) rfl (by kernel_rfl) (by kernel_rfl) (by kernel_rfl) (fun _ _ _ h => absurd h.1 (by simp)) (.inl ⟨by rfl, fun _ _ => by go_simp⟩) hHeld ?_
          try simp only [Act.put, List.getElem_toArray, List.getElem_cons_zero, List.getElem_cons_succ, List.setIfInBounds_toArray, List.set_cons_zero, List.set_cons_succ]
          refine wpAnyH_done (by kernel_rfl) ?_ _
          refine ⟨rfl, g14, ?_, hHeld, n14, H14'.out⟩
          rw [ws_four L3 HSL3.out]
          try rfl
        refine AllReadyH.cons rfl (fun K hK => ?_) AllReadyH.nil
        go_simp
        have hb := below_alloc (Below.refl X1.heap.size X1) (.cells #[Value.int .u64 0, .int .u64 0, .int .u64 0, .int .u64 0] 25)
        have H14 := Aside0.mk (And.intro (show Holds (X1.alloc (.cells #[Value.int .u64 0, .int .u64 0, .int .u64 0, .int .u64 0] 25)) X1.heap.size 25 (List.replicate 4 0) from blk_new X1 _) hHeld.size)
        refine hK.out _ _ (below_step hHeld hb) (fun hHeld => ?_)
        clear hb hK K
        generalize X1.alloc _ = X4 at *
        generalize X1.heap.size = g14 at *
        try simp only [Act.put, List.getElem_toArray, List.getElem_cons_zero, List.getElem_cons_succ, List.setIfInBounds_toArray, List.set_cons_zero, List.set_cons_succ]
        refine wpAnyH_ready (rs := [5]) (by kernel_rfl) (by simp) ?_
        refine AllReadyH.cons rfl (fun K hK => ?_) AllReadyH.nil
        go_simp
        refine (HSB3.out _).mono ?_
        rintro e X5 ⟨rfl, hb⟩
        replace H14 := Aside0.mk (And.intro (Holds.below H14.out.1 hb) H14.out.2)
        refine hK.out _ _ (below_step hHeld hb) (fun hHeld => ?_)
        clear hb hK K
        try simp only [Act.put, List.getElem_toArray, List.getElem_cons_zero, List.getElem_cons_succ, List.setIfInBounds_toArray, List.set_cons_zero, List.set_cons_succ]
        refine wpAnyH_take (i := 6) (v := .tuple #[.agg (ws L3), .bool (decide (u3 > 0))]) rfl (by kernel_rfl) (by kernel_rfl) (by kernel_rfl) (fun _ _ _ h => absurd h.1 (by simp)) (.inl ⟨by rfl, fun _ _ => by go_simp⟩) hHeld ?_
        try simp only [Act.put, List.getElem_toArray, List.getElem_cons_zero, List.getElem_cons_succ, List.setIfInBounds_toArray, List.set_cons_zero, List.set_cons_succ]
        refine wpAnyH_take (i := 7) (v := .agg (ws L3)) rfl (by kernel_rfl) (by kernel_rfl) (by kernel_rfl) (fun _ _ _ h => absurd h.1 (by simp)) (.inl ⟨by rfl, fun _ _ => by go_simp⟩) hHeld ?_
        try simp only [Act.put, List.getElem_toArray, List.getElem_cons_zero, List.getElem_cons_succ, List.setIfInBounds_toArray, List.set_cons_zero, List.set_cons_succ]
        refine wpAnyH_take (i := 8) (v := .bool (decide (u3 > 0))) rfl (by kernel_rfl) (by kernel_rfl) (by kernel_rfl) (fun _ _ _ h => absurd h.1 (by simp)) (.inl ⟨by rfl, fun _ _ => by go_simp⟩) hHeld ?_
        try simp only [Act.put, List.getElem_toArray, List.getElem_cons_zero, List.getElem_cons_succ, List.setIfInBounds_toArray, List.set_cons_zero, List.set_cons_succ]
        have hx := H14.out.1
        have z0 := hx.cell 0 (by simp)
        have y0 := hx.free 0
        have z1 := hx.cell 1 (by simp)
        have y1 := hx.free 1
        have z2 := hx.cell 2 (by simp)
        have y2 := hx.free 2
        have z3 := hx.cell 3 (by simp)
        have y3 := hx.free 3
        clear hx
        have hwf := ws_four L3 HSL3.out
        refine wpAnyH_ready (rs := [10]) (by kernel_rfl) (by simp) ?_
        refine AllReadyH.cons rfl (fun K hK => ?_) AllReadyH.nil
        go_simp
        have n14 := H14.out.2
        refine hK.out _ _ (below_set (below_set (below_set (below_set hHeld n14) n14) n14) n14) (fun hHeld => ?_)
        clear hK K z0 z1 z2 z3 y0 y1 y2 y3 hwf
        have H14' := Aside0.mk (set_four (L := List.replicate 4 0) (H := L3) rfl HSL3.out H14.out.1)
        try simp only [Act.put, List.getElem_toArray, List.getElem_cons_zero, List.getElem_cons_succ, List.setIfInBounds_toArray, List.set_cons_zero, List.set_cons_succ]
        refine wpAnyH_take (i := 11) (v := .bool (decide (u3 > 0))) rfl (by kernel_rfl) (by kernel_rfl) (by kernel_rfl) (fun _ _ _ h => absurd h.1 (by simp)) (.inl ⟨by rfl, fun _ _ => by go_simp⟩) hHeld ?_
        try simp only [Act.put, List.getElem_toArray, List.getElem_cons_zero, List.getElem_cons_succ, List.setIfInBounds_toArray, List.set_cons_zero, List.set_cons_succ]
        refine wpAnyH_done (by kernel_rfl) ?_ _
        refine ⟨rfl, g14, ?_, hHeld, n14, H14'.out⟩
        rw [ws_four L3 HSL3.out]
        try rfl
      refine AllReadyH.cons rfl (fun K hK => ?_) AllReadyH.nil
      go_simp
      have hb := below_alloc (Below.refl W0.heap.size W0) (.cells #[Value.int .u64 0, .int .u64 0, .int .u64 0, .int .u64 0] 25)
      have H14 := Aside0.mk (And.intro (show Holds (W0.alloc (.cells #[Value.int .u64 0, .int .u64 0, .int .u64 0, .int .u64 0] 25)) W0.heap.size 25 (List.replicate 4 0) from blk_new W0 _) hHeld.size)
      refine hK.out _ _ (below_step hHeld hb) (fun hHeld => ?_)
      clear hb hK K
      generalize W0.alloc _ = X6 at *
      generalize W0.heap.size = g14 at *
      try simp only [Act.put, List.getElem_toArray, List.getElem_cons_zero, List.getElem_cons_succ, List.setIfInBounds_toArray, List.set_cons_zero, List.set_cons_succ]
      refine wpAnyH_ready (rs := [3]) (by kernel_rfl) (by simp) ?_
      refine AllReadyH.cons rfl (fun K hK => ?_) AllReadyH.nil
      go_simp
      refine (HGET.out _ hHeld).mono ?_
      rintro e X7 ⟨rfl, hb⟩
      replace H14 := Aside0.mk (And.intro (Holds.below H14.out.1 hb) H14.out.2)
      refine hK.out _ _ (below_step hHeld hb) (fun hHeld => ?_)
      clear hb hK K
      try simp only [Act.put, List.getElem_toArray, List.getElem_cons_zero, List.getElem_cons_succ, List.setIfInBounds_toArray, List.set_cons_zero, List.set_cons_succ]
      refine wpAnyH_ready (rs := [5]) (by kernel_rfl) (by simp) ?_
      refine AllReadyH.cons rfl (fun K hK => ?_) AllReadyH.nil
      go_simp
      refine (HSB3.out _).mono ?_
      rintro e X8 ⟨rfl, hb⟩
      replace H14 := Aside0.mk (And.intro (Holds.below H14.out.1 hb) H14.out.2)
      refine hK.out _ _ (below_step hHeld hb) (fun hHeld => ?_)
      clear hb hK K
      try simp only [Act.put, List.getElem_toArray, List.getElem_cons_zero, List.getElem_cons_succ, List.setIfInBounds_toArray, List.set_cons_zero, List.set_cons_succ]
      refine wpAnyH_take (i := 6) (v := .tuple #[.agg (ws L3), .bool (decide (u3 > 0))]) rfl (by kernel_rfl) (by kernel_rfl) (by kernel_rfl) (fun _ _ _ h => absurd h.1 (by simp)) (.inl ⟨by rfl, fun _ _ => by go_simp⟩) hHeld ?_
      try simp only [Act.put, List.getElem_toArray, List.getElem_cons_zero, List.getElem_cons_succ, List.setIfInBounds_toArray, List.set_cons_zero, List.set_cons_succ]
      refine wpAnyH_take (i := 7) (v := .agg (ws L3)) rfl (by kernel_rfl) (by kernel_rfl) (by kernel_rfl) (fun _ _ _ h => absurd h.1 (by simp)) (.inl ⟨by rfl, fun _ _ => by go_simp⟩) hHeld ?_
      try simp only [Act.put, List.getElem_toArray, List.getElem_cons_zero, List.getElem_cons_succ, List.setIfInBounds_toArray, List.set_cons_zero, List.set_cons_succ]
      refine wpAnyH_take (i := 8) (v := .bool (decide (u3 > 0))) rfl (by kernel_rfl) (by kernel_rfl) (by kernel_rfl) (fun _ _ _ h => absurd h.1 (by simp)) (.inl ⟨by rfl, fun _ _ => by go_simp⟩) hHeld ?_
      try simp only [Act.put, List.getElem_toArray, List.getElem_cons_zero, List.getElem_cons_succ, List.setIfInBounds_toArray, List.set_cons_zero, List.set_cons_succ]
      have hx := H14.out.1
      have z0 := hx.cell 0 (by simp)
      have y0 := hx.free 0
      have z1 := hx.cell 1 (by simp)
      have y1 := hx.free 1
      have z2 := hx.cell 2 (by simp)
      have y2 := hx.free 2
      have z3 := hx.cell 3 (by simp)
      have y3 := hx.free 3
      clear hx
      have hwf := ws_four L3 HSL3.out
      refine wpAnyH_ready (rs := [10]) (by kernel_rfl) (by simp) ?_
      refine AllReadyH.cons rfl (fun K hK => ?_) AllReadyH.nil
      go_simp
      have n14 := H14.out.2
      refine hK.out _ _ (below_set (below_set (below_set (below_set hHeld n14) n14) n14) n14) (fun hHeld => ?_)
      clear hK K z0 z1 z2 z3 y0 y1 y2 y3 hwf
      have H14' := Aside0.mk (set_four (L := List.replicate 4 0) (H := L3) rfl HSL3.out H14.out.1)
      try simp only [Act.put, List.getElem_toArray, List.getElem_cons_zero, List.getElem_cons_succ, List.setIfInBounds_toArray, List.set_cons_zero, List.set_cons_succ]
      refine wpAnyH_take (i := 11) (v := .bool (decide (u3 > 0))) rfl (by kernel_rfl) (by kernel_rfl) (by kernel_rfl) (fun _ _ _ h => absurd h.1 (by simp)) (.inl ⟨by rfl, fun _ _ => by go_simp⟩) hHeld ?_
      try simp only [Act.put, List.getElem_toArray, List.getElem_cons_zero, List.getElem_cons_succ, List.setIfInBounds_toArray, List.set_cons_zero, List.set_cons_succ]
      refine wpAnyH_done (by kernel_rfl) ?_ _
      refine ⟨rfl, g14, ?_, hHeld, n14, H14'.out⟩
      rw [ws_four L3 HSL3.out]
      try rfl
    case hnext =>
      rintro _ w2 ⟨g10, rfl, hb2, n10, h10⟩
      try simp only [Act.put, List.getElem_toArray, List.getElem_cons_zero, List.getElem_cons_succ, List.setIfInBounds_toArray, List.set_cons_zero, List.set_cons_succ]
      have HW2 := Aside0.mk (below_step HW1.out hb2)
      have H10 := Aside0.mk h10
      clear hb2 n10 h10 HW1 HG1 HGET
      have z0 := H10.out.cell 0 (by rw [HSL3.out]; omega)
      have z1 := H10.out.cell 1 (by rw [HSL3.out]; omega)
      have z2 := H10.out.cell 2 (by rw [HSL3.out]; omega)
      have z3 := H10.out.cell 3 (by rw [HSL3.out]; omega)
      go_wp2_with fail
      refine (rset_k l hup ⟨who, asset, sw L3⟩ A c w2 (Kd.C_below HC.out HW2.out) HL.out.2.1 HL.out.2.2).mono ?_
      rintro e w3 ⟨v, rfl, ho, hb⟩
      have HW3 := Aside0.mk (below_step HW2.out hb)
      rw [← HTL.out] at ho
      have HO := Aside0.mk (own_weaken ho HW2.out.size)
      clear ho hb z0 z1 z2 z3
      obtain ⟨Av, cv, rfl⟩ := own_slice HO.out
      by_cases v1 : TL.length > 1000
      · have k1 : decide ((1000 : Int) < (TL.length : Int)) = true := decide_eq_true (by omega)
        have HE := Aside0.mk (HE0.out.trans (if_pos v1))
        go_wp2_with fail
        exact bodyPost_ret (v := .tuple #[.slice A l.length c, .int .i64 8]) (by simp [results, Try.results11, go_sem]) rfl ⟨fun _ => ⟨by rw [HE.out], HW3.out⟩, fun h => absurd (HE.out.symm.trans h) (by decide)⟩
      · have k1 : decide ((1000 : Int) < (TL.length : Int)) = false := decide_eq_false (by omega)
        have HE := Aside0.mk (HE0.out.trans (if_neg v1))
        go_wp2_with fail
        exact bodyPost_ret (v := .tuple #[.slice Av TL.length cv, .int .i64 0]) (by simp [results, Try.results11, go_sem]) rfl ⟨fun h => absurd HE.out h, fun _ => ⟨_, rfl, HO.out, HW3.out⟩⟩
  · rw [hw, if_pos rfl] at HE0
    by_cases s1 : who.size = 20
    · have s2 : ¬ (asset.size = 20) := by simpa [isWrong, s1] using hw
      have s3 : (who.size : Int) = 20 := by omega
      have s4 : ((asset.size : Int) != 20) = true := bne_iff_ne.2 (by omega)
      go_enter Try.func11, Try.ntmps11
      go_wp2_with fail
      exact bodyPost_ret (v := .tuple #[.slice A l.length c, .int .i64 2]) (by simp [results, Try.results11, go_sem]) rfl ⟨fun _ => ⟨by rw [HE0.out], HT.out.2⟩, fun h => absurd (HE0.out.symm.trans h) (by decide)⟩
    · have s4 : ((who.size : Int) != 20) = true := bne_iff_ne.2 (by omega)
      go_enter Try.func11, Try.ntmps11
      go_wp2_with fail
      exact bodyPost_ret (v := .tuple #[.slice A l.length c, .int .i64 2]) (by simp [results, Try.results11, go_sem]) rfl ⟨fun _ => ⟨by rw [HE0.out], HT.out.2⟩, fun h => absurd (HE0.out.symm.trans h) (by decide)⟩
end Go.Proofs.Ytnedmaddjikmkaa.P

namespace Go.Proofs.Ytnedmaddjikmkaa.P
set_option linter.unusedVariables false
set_option linter.unusedSimpArgs false
open Go.RowKit Go.Shelf Go.Proofs.YtnedmaddjikmkaaW.PrintWords
def giveF (l : List S39) (b0 b1 : ByteArray) (n0 n1 n2 n3 : Int) : Option (List S39 × Int) :=
  if ok4 n0 n1 n2 n3 ∧ Up l ∧ okL l ∧ l.length ≤ 1000 then some (if giveE l b0 b1 (wl4 n0 n1 n2 n3) = 0 then giveL l b0 b1 (wl4 n0 n1 n2 n3) else l, giveE l b0 b1 (wl4 n0 n1 n2 n3)) else none
def takeF (l : List S39) (b0 b1 : ByteArray) (n0 n1 n2 n3 : Int) : Option (List S39 × Int) :=
  if ok4 n0 n1 n2 n3 ∧ Up l ∧ okL l ∧ l.length ≤ 1000 then some (if takeE l b0 b1 (wl4 n0 n1 n2 n3) = 0 then takeL l b0 b1 (wl4 n0 n1 n2 n3) else l, takeE l b0 b1 (wl4 n0 n1 n2 n3)) else none
def acct_Give.f := giveF
theorem acct_Give.calls (P0_ : Nat → Prop) (A0 : Option Addr) (c0 : Nat) (l0 : List S39) (a1 a2 : ByteArray) (a3_0 a3_1 a3_2 a3_3 : Int) (r1 : List S39) (r2 : Int) (w : World) (hs0 : Kd.V k39 39 w w.heap.size (fun k_ => P0_ k_) (.slice A0 l0.length c0) l0)
    (h : acct_Give.f l0 a1 a2 a3_0 a3_1 a3_2 a3_3 = some (r1, r2)) :
    Calls Try.prog 10 #[.slice A0 l0.length c0, .string a1, .string a2, .agg #[.int .u64 a3_0, .int .u64 a3_1, .int .u64 a3_2, .int .u64 a3_3]] w fun e w' => ∃ v0_ : Value, e = .returned (.tuple #[v0_, .int .i64 r2]) ∧ Kd.V k39 39 w' w.heap.size (fun k_ => P0_ k_ ∨ w.heap.size ≤ k_) v0_ r1 ∧ Below w.heap.size w w' := by
  have hlen := (Kd.V_reads' hs0).2.1
  have hC := (Kd.V_reads' hs0).2.2
  unfold acct_Give.f giveF at h
  split at h
  · rename_i hk
    have T := give_any l0 hk.2.1 hk.2.2.1 A0 c0 a1 a2 (wl4 a3_0 a3_1 a3_2 a3_3) rfl w hC hlen hk.2.2.2
    rw [ws_wl4 _ _ _ _ hk.1] at T
    injection h with h
    injection h with e1 e2
    refine T.mono ?_
    rintro e w' ⟨h1, h2⟩
    by_cases hE : giveE l0 a1 a2 (wl4 a3_0 a3_1 a3_2 a3_3) = 0
    · obtain ⟨v, rfl, ho, hb⟩ := h2 hE
      rw [if_pos hE] at e1
      rw [hE] at e2
      subst e1 e2
      exact ⟨v, rfl, Kd.V_mono (Kd.R_V (R_of_cells39 ho (fun k => w.heap.size ≤ k) (fun k hk => own_base ho k hk))) (fun k hk => .inr hk), hb⟩
    · obtain ⟨rfl, hb⟩ := h1 hE
      rw [if_neg hE] at e1
      subst e1 e2
      exact ⟨_, rfl, Kd.V_mono (Kd.V_below hs0 hb) (fun k hk => .inl hk), hb⟩
  · cases h
#print axioms acct_Give.calls
def acct_Take.f := takeF
theorem acct_Take.calls (P0_ : Nat → Prop) (A0 : Option Addr) (c0 : Nat) (l0 : List S39) (a1 a2 : ByteArray) (a3_0 a3_1 a3_2 a3_3 : Int) (r1 : List S39) (r2 : Int) (w : World) (hs0 : Kd.V k39 39 w w.heap.size (fun k_ => P0_ k_) (.slice A0 l0.length c0) l0)
    (h : acct_Take.f l0 a1 a2 a3_0 a3_1 a3_2 a3_3 = some (r1, r2)) :
    Calls Try.prog 12 #[.slice A0 l0.length c0, .string a1, .string a2, .agg #[.int .u64 a3_0, .int .u64 a3_1, .int .u64 a3_2, .int .u64 a3_3]] w fun e w' => ∃ v0_ : Value, e = .returned (.tuple #[v0_, .int .i64 r2]) ∧ Kd.V k39 39 w' w.heap.size (fun k_ => P0_ k_ ∨ w.heap.size ≤ k_) v0_ r1 ∧ Below w.heap.size w w' := by
  have hlen := (Kd.V_reads' hs0).2.1
  have hC := (Kd.V_reads' hs0).2.2
  unfold acct_Take.f takeF at h
  split at h
  · rename_i hk
    have T := take_any l0 hk.2.1 hk.2.2.1 A0 c0 a1 a2 (wl4 a3_0 a3_1 a3_2 a3_3) rfl w hC hlen hk.2.2.2
    rw [ws_wl4 _ _ _ _ hk.1] at T
    injection h with h
    injection h with e1 e2
    refine T.mono ?_
    rintro e w' ⟨h1, h2⟩
    by_cases hE : takeE l0 a1 a2 (wl4 a3_0 a3_1 a3_2 a3_3) = 0
    · obtain ⟨v, rfl, ho, hb⟩ := h2 hE
      rw [if_pos hE] at e1
      rw [hE] at e2
      subst e1 e2
      exact ⟨v, rfl, Kd.V_mono (Kd.R_V (R_of_cells39 ho (fun k => w.heap.size ≤ k) (fun k hk => own_base ho k hk))) (fun k hk => .inr hk), hb⟩
    · obtain ⟨rfl, hb⟩ := h1 hE
      rw [if_neg hE] at e1
      subst e1 e2
      exact ⟨_, rfl, Kd.V_mono (Kd.V_below hs0 hb) (fun k hk => .inl hk), hb⟩
  · cases h
#print axioms acct_Take.calls
def truceref16_Give.f := giveF
theorem truceref16_Give.calls (P0_ : Nat → Prop) (A0 : Option Addr) (c0 : Nat) (l0 : List S39) (a1 a2 : ByteArray) (a3_0 a3_1 a3_2 a3_3 : Int) (r1 : List S39) (r2 : Int) (w : World) (hs0 : Kd.V k39 39 w w.heap.size (fun k_ => P0_ k_) (.slice A0 l0.length c0) l0)
    (h : truceref16_Give.f l0 a1 a2 a3_0 a3_1 a3_2 a3_3 = some (r1, r2)) :
    Calls Try.prog 11 #[.slice A0 l0.length c0, .string a1, .string a2, .agg #[.int .u64 a3_0, .int .u64 a3_1, .int .u64 a3_2, .int .u64 a3_3]] w fun e w' => ∃ v0_ : Value, e = .returned (.tuple #[v0_, .int .i64 r2]) ∧ Kd.V k39 39 w' w.heap.size (fun k_ => P0_ k_ ∨ w.heap.size ≤ k_) v0_ r1 ∧ Below w.heap.size w w' := by
  have hlen := (Kd.V_reads' hs0).2.1
  have hC := (Kd.V_reads' hs0).2.2
  unfold truceref16_Give.f giveF at h
  split at h
  · rename_i hk
    have T := rgive_any l0 hk.2.1 hk.2.2.1 A0 c0 a1 a2 (wl4 a3_0 a3_1 a3_2 a3_3) rfl w hC hlen hk.2.2.2
    rw [ws_wl4 _ _ _ _ hk.1] at T
    injection h with h
    injection h with e1 e2
    refine T.mono ?_
    rintro e w' ⟨h1, h2⟩
    by_cases hE : giveE l0 a1 a2 (wl4 a3_0 a3_1 a3_2 a3_3) = 0
    · obtain ⟨v, rfl, ho, hb⟩ := h2 hE
      rw [if_pos hE] at e1
      rw [hE] at e2
      subst e1 e2
      exact ⟨v, rfl, Kd.V_mono (Kd.R_V (R_of_cells39 ho (fun k => w.heap.size ≤ k) (fun k hk => own_base ho k hk))) (fun k hk => .inr hk), hb⟩
    · obtain ⟨rfl, hb⟩ := h1 hE
      rw [if_neg hE] at e1
      subst e1 e2
      exact ⟨_, rfl, Kd.V_mono (Kd.V_below hs0 hb) (fun k hk => .inl hk), hb⟩
  · cases h
#print axioms truceref16_Give.calls
def truceref16_Take.f := takeF
theorem truceref16_Take.calls (P0_ : Nat → Prop) (A0 : Option Addr) (c0 : Nat) (l0 : List S39) (a1 a2 : ByteArray) (a3_0 a3_1 a3_2 a3_3 : Int) (r1 : List S39) (r2 : Int) (w : World) (hs0 : Kd.V k39 39 w w.heap.size (fun k_ => P0_ k_) (.slice A0 l0.length c0) l0)
    (h : truceref16_Take.f l0 a1 a2 a3_0 a3_1 a3_2 a3_3 = some (r1, r2)) :
    Calls Try.prog 13 #[.slice A0 l0.length c0, .string a1, .string a2, .agg #[.int .u64 a3_0, .int .u64 a3_1, .int .u64 a3_2, .int .u64 a3_3]] w fun e w' => ∃ v0_ : Value, e = .returned (.tuple #[v0_, .int .i64 r2]) ∧ Kd.V k39 39 w' w.heap.size (fun k_ => P0_ k_ ∨ w.heap.size ≤ k_) v0_ r1 ∧ Below w.heap.size w w' := by
  have hlen := (Kd.V_reads' hs0).2.1
  have hC := (Kd.V_reads' hs0).2.2
  unfold truceref16_Take.f takeF at h
  split at h
  · rename_i hk
    have T := rtake_any l0 hk.2.1 hk.2.2.1 A0 c0 a1 a2 (wl4 a3_0 a3_1 a3_2 a3_3) rfl w hC hlen hk.2.2.2
    rw [ws_wl4 _ _ _ _ hk.1] at T
    injection h with h
    injection h with e1 e2
    refine T.mono ?_
    rintro e w' ⟨h1, h2⟩
    by_cases hE : takeE l0 a1 a2 (wl4 a3_0 a3_1 a3_2 a3_3) = 0
    · obtain ⟨v, rfl, ho, hb⟩ := h2 hE
      rw [if_pos hE] at e1
      rw [hE] at e2
      subst e1 e2
      exact ⟨v, rfl, Kd.V_mono (Kd.R_V (R_of_cells39 ho (fun k => w.heap.size ≤ k) (fun k hk => own_base ho k hk))) (fun k hk => .inr hk), hb⟩
    · obtain ⟨rfl, hb⟩ := h1 hE
      rw [if_neg hE] at e1
      subst e1 e2
      exact ⟨_, rfl, Kd.V_mono (Kd.V_below hs0 hb) (fun k hk => .inl hk), hb⟩
  · cases h
#print axioms truceref16_Take.calls
end Go.Proofs.Ytnedmaddjikmkaa.P


