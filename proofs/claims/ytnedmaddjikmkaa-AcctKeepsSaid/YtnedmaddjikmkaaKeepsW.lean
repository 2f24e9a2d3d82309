import Derived.Test.YtnedmaddjikmkaaPureKeep
import Derived.Test.YtnedmaddjikmkaaAwake
import Derived.Test.YtnedmaddjikmkaaPtrucelaw16AcctKeeps
/- AcctKeeps: its plain law, and the law called. -/
namespace Go.Proofs.Ytnedmaddjikmkaa.P
set_option linter.unusedVariables false
set_option linter.unusedSimpArgs false
open Go.RowKit Go.Proofs.YtnedmaddjikmkaaW.PrintWords
section
variable {l : List S39} (F : FitL l) (hl : okL l) (h100 : l.length ≤ 100) (who asset : ByteArray) {n0 n1 n2 n3 : Int} (hn : ok4 n0 n1 n2 n3)
include F hl h100 hn
theorem keeps_j3 (k : Nat) (hk : 2000 ≤ k) (s : List W64) (hs : s.length = 4) (hv : val s = sumN asset l) :
    trucelaw16_AcctKeeps.j3 k l who asset n0 n1 n2 n3 (sw s).f0 (sw s).f1 (sw s).f2 (sw s).f3 = some true := by
  obtain ⟨k, rfl⟩ : ∃ j, k = j + 1 := ⟨k - 1, by omega⟩
  have htk := take_val F hl who asset hn
  rw [trucelaw16_AcctKeeps.j3]
  by_cases c : takeE l who asset (wl4 n0 n1 n2 n3) = 0
  · obtain ⟨Ft, hto, hts, htv, htl, _⟩ := take_fit F hl (by omega) (wl4_len n0 n1 n2 n3) c
    have hlen := take_len F who asset (wl4 n0 n1 n2 n3)
    rw [if_pos c, c] at htk
    generalize takeL l who asset (wl4 n0 n1 n2 n3) = T at Ft hto hts hlen htk
    rw [htk, Option.bind_some, if_pos rfl]
    obtain ⟨r, r1, r2, r3⟩ := sum_fit Ft hto asset k (by omega)
    have hle : val (wl4 n0 n1 n2 n3) ≤ val s := by rw [hv, ← hts]; exact Nat.le_add_left _ _
    obtain ⟨h1, h2⟩ := sub_fine2 hs (wl4_len n0 n1 n2 n3) hle
    have e : (subk s (wl4 n0 n1 n2 n3) 4).1 = r := val_inj _ _ (by rw [subk_len]; exact hs) r1 (Nat.add_right_cancel (m := val (wl4 n0 n1 n2 n3)) (by rw [h1, hv, r2, hts]))
    have hsub : truceref01_Sub.f (sw s).f0 (sw s).f1 (sw s).f2 (sw s).f3 n0 n1 n2 n3 = some ((sw r).f0, (sw r).f1, (sw r).f2, (sw r).f3, false) := by
      have := subF_sw s hs ⟨n0, n1, n2, n3⟩ hn
      have e4 : w4 ⟨n0, n1, n2, n3⟩ = wl4 n0 n1 n2 n3 := rfl
      rw [e4, e, h2] at this
      exact this
    rw [r3, Option.bind_some, hsub, Option.bind_some, fit_true hto k (by omega) Ft, Option.bind_some, if_pos rfl, if_neg (by simp), if_pos (by simp), awake_val k (by omega), Option.bind_some]
  · rw [if_neg c] at htk
    rw [htk, Option.bind_some, if_neg c]
    show (truceref16_Same.f k l l).bind _ = _
    rw [same_refl l F.len k (by omega), Option.bind_some, if_pos rfl, awake_val k (by omega), Option.bind_some]
theorem keeps_l0 (s : List W64) (hs : s.length = 4) (hv : val s = sumN asset l) (he : giveE l who asset (wl4 n0 n1 n2 n3) = 0) : ∀ (d i k : Nat), l.length - i ≤ d → i ≤ l.length → d + 2001 < k →
    trucelaw16_AcctKeeps.l0 k l who asset (giveL l who asset (wl4 n0 n1 n2 n3)) l (l.length : Int) (i : Int) n0 n1 n2 n3 (sw s).f0 (sw s).f1 (sw s).f2 (sw s).f3 = some true := by
  intro d
  induction d with
  | zero =>
    intro i k hd hi hk
    obtain ⟨k, rfl⟩ : ∃ j, k = j + 1 := ⟨k - 1, by omega⟩
    rw [trucelaw16_AcctKeeps.l0, if_neg (by omega)]
    exact keeps_j3 F hl h100 who asset hn k (by omega) s hs hv
  | succ d ih =>
    intro i k hd hi hk
    by_cases h : i < l.length
    · obtain ⟨k, rfl⟩ : ∃ j, k = j + 1 := ⟨k - 1, by omega⟩
      have next := ih (i + 1) k (by omega) (by omega) (by omega)
      have Fg := (give_fit F hl (wl4_len n0 n1 n2 n3) he).1
      have hgl := give_len F who asset (wl4 n0 n1 n2 n3)
      have hmem := get_mem F.up (at39_mem h)
      have hother : ¬ ((at39 l i).f0 = who ∧ (at39 l i).f1 = asset) → truceref16_Get.f k (giveL l who asset (wl4 n0 n1 n2 n3)) (at39 l i).f0 (at39 l i).f1 = some ((at39 l i).f2.f0, (at39 l i).f2.f1, (at39 l i).f2.f2, (at39 l i).f2.f3) := fun hne => by
        rw [rget_fit Fg _ _ k (by omega), give_other F hne, hmem]
      rw [trucelaw16_AcctKeeps.l0, if_pos (by omega), if_pos (by omega), if_pos (by omega), rd39_nat, wrap_nat1 i (by omega)]
      by_cases c1 : (at39 l i).f0.toList = who.toList
      · rw [if_pos c1]
        by_cases c2 : (at39 l i).f1.toList = asset.toList
        · rw [if_pos c2]; exact next
        · rw [if_neg c2, hother (fun hh => c2 (list_eq.2 hh.2)), Option.bind_some, if_neg (by simp)]; exact next
      · rw [if_neg c1, hother (fun hh => c1 (list_eq.2 hh.1)), Option.bind_some, if_neg (by simp)]; exact next
    · exact ih i k (by omega) hi (by omega)
theorem keeps_j0 (k : Nat) (hk : 3000 ≤ k) : trucelaw16_AcctKeeps.j0 k l who asset false n0 n1 n2 n3 = some true := by
  obtain ⟨k, rfl⟩ : ∃ j, k = j + 1 := ⟨k - 1, by omega⟩
  obtain ⟨s, s1, s2, s3⟩ := sum_fit F hl asset k (by omega)
  rw [trucelaw16_AcctKeeps.j0, if_neg (by simp), s3, Option.bind_some]
  have hgval := give_val F hl who asset hn
  by_cases c : giveE l who asset (wl4 n0 n1 n2 n3) = 0
  · obtain ⟨Fg, hgo, hgs, hglt, hgv, hgn⟩ := give_fit F hl (wl4_len n0 n1 n2 n3) c
    obtain ⟨t1, t2⟩ := give_take F hl (wl4_len n0 n1 n2 n3) c
    have hlen := give_len F who asset (wl4 n0 n1 n2 n3)
    have loop := keeps_l0 F hl h100 who asset hn s s1 s2 c l.length 0 (k - 1) (by omega) (by omega) (by omega)
    have hj1 : trucelaw16_AcctKeeps.j1 k l who asset (giveL l who asset (wl4 n0 n1 n2 n3)) (!true) n0 n1 n2 n3 (sw s).f0 (sw s).f1 (sw s).f2 (sw s).f3 = some true := by
      obtain ⟨j, rfl⟩ : ∃ j, k = j + 1 := ⟨k - 1, by omega⟩
      rw [trucelaw16_AcctKeeps.j1, if_neg (by simp)]
      exact loop
    rw [if_pos c, c] at hgval
    have htk := take_val Fg hgo who asset hn
    rw [if_pos t1, t1, t2] at htk
    generalize giveL l who asset (wl4 n0 n1 n2 n3) = G at Fg hgo hgs hlen hj1 htk hgval
    rw [hgval, Option.bind_some, if_pos rfl]
    obtain ⟨r, r1, r2, r3⟩ := sum_fit Fg hgo asset k (by omega)
    obtain ⟨h1, h2⟩ := add_fine s1 (wl4_len n0 n1 n2 n3) (by rw [s2]; exact hglt)
    have e : (addk s (wl4 n0 n1 n2 n3) 4).1 = r := val_inj _ _ (by rw [addk_len]; exact s1) r1 (by rw [h1, s2, r2, hgs])
    have hadd : truceref01_Add.f (sw s).f0 (sw s).f1 (sw s).f2 (sw s).f3 n0 n1 n2 n3 = some ((sw r).f0, (sw r).f1, (sw r).f2, (sw r).f3, false) := by
      have := addF_sw s s1 ⟨n0, n1, n2, n3⟩ hn
      have e4 : w4 ⟨n0, n1, n2, n3⟩ = wl4 n0 n1 n2 n3 := rfl
      rw [e4, e, h2] at this
      exact this
    rw [r3, Option.bind_some, hadd, Option.bind_some, htk, Option.bind_some, fit_true hgo k (by omega) Fg, Option.bind_some, if_pos rfl, if_pos rfl, if_neg (by simp), if_neg (by simp), if_pos rfl, same_refl l F.len k (by omega), Option.bind_some]
    exact hj1
  · rw [if_neg c] at hgval
    rw [hgval, Option.bind_some, if_neg c]
    exact keeps_j3 F hl h100 who asset hn k (by omega) s s1 s2
end
theorem keeps_true (l : List S39) (hl : okL l) (who asset : ByteArray) (n0 n1 n2 n3 : Int) (hn : ok4 n0 n1 n2 n3) : trucelaw16_AcctKeeps.f 5000 l who asset n0 n1 n2 n3 = some true := by
  have out : ∀ f, f = true → trucelaw16_AcctKeeps.j0 5000 l who asset f n0 n1 n2 n3 = some true := fun f hf => by
    rw [trucelaw16_AcctKeeps.j0, if_pos hf, awake_val _ (by omega), Option.bind_some]
  rw [trucelaw16_AcctKeeps.f, few_val, Option.bind_some]
  by_cases c1 : l.length ≤ 100
  · rw [decide_eq_true c1, if_pos rfl]
    obtain ⟨b, h1, h2⟩ := rfit_val hl 5000 (by omega)
    rw [h1, Option.bind_some]
    cases b with
    | false => exact out _ rfl
    | true => exact keeps_j0 (h2.1 rfl) hl c1 who asset hn 5000 (by omega)
  · rw [decide_eq_false c1, if_neg (by simp)]
    exact out _ rfl
theorem acctKeeps_law (l : List S39) (A : Option Addr) (c : Nat) (hl : l.length ≤ c) (w : World) (hC : k39.C w A l.length l) (hok : okL l) (who asset : ByteArray) (n : S25) (hn : ok4 n.f0 n.f1 n.f2 n.f3) :
    Calls Try.prog 4 #[.slice A l.length c, .string who, .string asset, .agg #[.int .u64 n.f0, .int .u64 n.f1, .int .u64 n.f2, .int .u64 n.f3]] w fun e w' => e = .returned (.bool true) ∧ Below w.heap.size w w' :=
  trucelaw16_AcctKeeps.callsT 5000 A c l who asset n.f0 n.f1 n.f2 n.f3 true w hC hl (Aside0.mk rfl) (keeps_true l hok who asset n.f0 n.f1 n.f2 n.f3 hn)
end Go.Proofs.Ytnedmaddjikmkaa.P

