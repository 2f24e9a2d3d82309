import Derived.Test.YtnedmaddjikmkaaPureKeep
import Derived.Test.YtnedmaddjikmkaaAwake
import Derived.Test.YtnedmaddjikmkaaPtrucelaw16AcctMoves
/- AcctMoves: its plain law, and the law called. -/
namespace Go.Proofs.Ytnedmaddjikmkaa.P
set_option linter.unusedVariables false
set_option linter.unusedSimpArgs false
open Go.RowKit Go.Proofs.YtnedmaddjikmkaaW.PrintWords
section
variable {l b : List S39} (F : FitL l) (Fb : FitL b) (frm tgt asset : ByteArray)
variable (hg : ∀ c0 c1 : ByteArray, ¬ (c0 = frm ∧ c1 = asset) → ¬ (c0 = tgt ∧ c1 = asset) → getA l c0 c1 (placeK l c0 c1) = getA b c0 c1 (placeK b c0 c1))
include F Fb hg
theorem moves_l0 : ∀ (d i k : Nat), (l ++ b).length - i ≤ d → i ≤ (l ++ b).length → d + 2001 < k →
    trucelaw16_AcctMoves.l0 k l frm tgt asset b (l ++ b) ((l ++ b).length : Int) (i : Int) = some true := by
  have hl := F.len
  have hb := Fb.len
  have hll : (l ++ b).length ≤ 2000 := by rw [List.length_append]; omega
  generalize l ++ b = m at hll ⊢
  intro d
  induction d with
  | zero =>
    intro i k hd hi hk
    obtain ⟨k, rfl⟩ : ∃ j, k = j + 1 := ⟨k - 1, by omega⟩
    rw [trucelaw16_AcctMoves.l0, if_neg (by omega), awake_val k (by omega), Option.bind_some]
  | succ d ih =>
    intro i k hd hi hk
    by_cases h : i < m.length
    · obtain ⟨k, rfl⟩ : ∃ j, k = j + 1 := ⟨k - 1, by omega⟩
      have next := ih (i + 1) k (by omega) (by omega) (by omega)
      have h1 := rget_fit F (at39 m i).f0 (at39 m i).f1 k (by omega)
      have h2 := rget_fit Fb (at39 m i).f0 (at39 m i).f1 k (by omega)
      rw [trucelaw16_AcctMoves.l0, if_pos (by omega), if_pos (by omega), if_pos (by omega), rd39_nat, wrap_nat1 i (by omega)]
      by_cases c1 : (at39 m i).f1.toList = asset.toList
      · rw [if_pos c1]
        by_cases c2 : (at39 m i).f0.toList = frm.toList
        · rw [if_pos c2]; exact next
        · rw [if_neg c2]
          by_cases c3 : (at39 m i).f0.toList = tgt.toList
          · rw [if_pos c3]; exact next
          · rw [if_neg c3, h1, Option.bind_some, h2, Option.bind_some, hg _ _ (fun hh => c2 (list_eq.2 hh.1)) (fun hh => c3 (list_eq.2 hh.1)), if_neg (by simp)]
            exact next
      · rw [if_neg c1, h1, Option.bind_some, h2, Option.bind_some, hg _ _ (fun hh => c1 (list_eq.2 hh.2)) (fun hh => c1 (list_eq.2 hh.2)), if_neg (by simp)]
        exact next
    · exact ih i k (by omega) hi (by omega)
theorem moves_j1 (hl : okL l) (hbo : okL b) (hsum : sumN asset l = sumN asset b) (k : Nat) (hk : 4500 ≤ k) : trucelaw16_AcctMoves.j1 k l frm tgt asset b false = some true := by
  have hl1 := F.len
  have hb1 := Fb.len
  obtain ⟨k, rfl⟩ : ∃ j, k = j + 2 := ⟨k - 2, by omega⟩
  obtain ⟨s, s1, s2, s3⟩ := sum_fit F hl asset (k + 1) (by omega)
  obtain ⟨r, r1, r2, r3⟩ := sum_fit Fb hbo asset (k + 1) (by omega)
  have e : r = s := val_inj _ _ r1 s1 (by rw [r2, s2, hsum])
  subst e
  have hll : (l ++ b).length ≤ 2000 := by rw [List.length_append]; omega
  have loop := moves_l0 F Fb frm tgt asset hg (l ++ b).length 0 k (by omega) (by omega) (by omega)
  rw [trucelaw16_AcctMoves.j1, if_neg (by simp), s3, Option.bind_some, r3, Option.bind_some, if_pos rfl, if_neg (by simp), fit_true hbo (k + 1) (by omega) Fb, Option.bind_some, trucelaw16_AcctMoves.j2, if_neg (by simp), Option.bind_some, if_pos (by simp; omega), Option.bind_some, if_pos (by simp; omega), Option.bind_some, List.nil_append]
  exact loop
end
theorem moves_true (l : List S39) (hl : okL l) (frm tgt asset : ByteArray) (n0 n1 n2 n3 : Int) (hn : ok4 n0 n1 n2 n3) : trucelaw16_AcctMoves.f 5000 l frm tgt asset n0 n1 n2 n3 = some true := by
  have out : ∀ f, f = true → trucelaw16_AcctMoves.j0 5000 l frm tgt asset f n0 n1 n2 n3 = some true := fun f hf => by
    rw [trucelaw16_AcctMoves.j0, if_pos hf, awake_val _ (by omega), Option.bind_some]
  have aw : ∀ b, trucelaw16_AcctMoves.j1 4999 l frm tgt asset b true = some true := fun b => by
    rw [trucelaw16_AcctMoves.j1, if_pos rfl, awake_val _ (by omega), Option.bind_some]
  rw [trucelaw16_AcctMoves.f, few_val, Option.bind_some]
  by_cases c1 : l.length ≤ 100
  · rw [decide_eq_true c1, if_pos rfl]
    obtain ⟨b, h1, h2⟩ := rfit_val hl 5000 (by omega)
    rw [h1, Option.bind_some]
    cases b with
    | false => rw [if_neg (by simp)]; exact out _ rfl
    | true =>
      rw [if_pos rfl]
      have F := h2.1 rfl
      cases hft : (frm.toList == tgt.toList) with
      | true => exact out _ rfl
      | false =>
        rw [trucelaw16_AcctMoves.j0, if_neg (by simp), take_val F hl frm asset hn, Option.bind_some]
        by_cases ct : takeE l frm asset (wl4 n0 n1 n2 n3) = 0
        · obtain ⟨Ft, hto, hts, _, _, _⟩ := take_fit F hl (by omega) (wl4_len n0 n1 n2 n3) ct
          have hlen := take_len F frm asset (wl4 n0 n1 n2 n3)
          have hoth := fun c0 c1 (h : ¬ (c0 = frm ∧ c1 = asset)) => take_other F (n := wl4 n0 n1 n2 n3) h
          rw [if_pos ct, ct]
          generalize takeL l frm asset (wl4 n0 n1 n2 n3) = T at Ft hto hts hlen hoth ⊢
          show ((acct_Give.f T tgt asset n0 n1 n2 n3).bind _) = _
          rw [give_val Ft hto tgt asset hn, Option.bind_some]
          show (if (0 : Int) = 0 then _ else _) = _
          rw [if_pos rfl]
          by_cases cg : giveE T tgt asset (wl4 n0 n1 n2 n3) = 0
          · obtain ⟨Fg, hgo, hgs, _, _, _⟩ := give_fit Ft hto (wl4_len n0 n1 n2 n3) cg
            have hoth2 := fun c0 c1 (h : ¬ (c0 = tgt ∧ c1 = asset)) => give_other Ft (n := wl4 n0 n1 n2 n3) h
            rw [if_pos cg, cg]
            show trucelaw16_AcctMoves.j1 4999 l frm tgt asset (giveL T tgt asset (wl4 n0 n1 n2 n3)) ((0 : Int) != 0) = _
            generalize giveL T tgt asset (wl4 n0 n1 n2 n3) = G at Fg hgo hgs hoth2 ⊢
            rw [show ((0 : Int) != 0) = false from rfl]
            exact moves_j1 F Fg frm tgt asset (fun c0 c1 h3 h4 => by rw [hoth2 c0 c1 h4, hoth c0 c1 h3]) hl hgo (by rw [hgs, hts]) 4999 (by omega)
          · have hb : ∀ G : List S39, trucelaw16_AcctMoves.j1 4999 l frm tgt asset G (giveE T tgt asset (wl4 n0 n1 n2 n3) != 0) = some true := fun G => by
              rw [show (giveE T tgt asset (wl4 n0 n1 n2 n3) != 0) = true by simpa using cg]
              exact aw _
            exact hb _
        · rw [if_neg ct]
          show ((acct_Give.f l tgt asset n0 n1 n2 n3).bind _) = _
          rw [give_val F hl tgt asset hn, Option.bind_some]
          show (if takeE l frm asset (wl4 n0 n1 n2 n3) = 0 then _ else _) = _
          rw [if_neg ct]
          exact aw _
  · rw [decide_eq_false c1, if_neg (by simp)]
    exact out _ rfl
theorem acctMoves_law (l : List S39) (A : Option Addr) (c : Nat) (hl : l.length ≤ c) (w : World) (hC : k39.C w A l.length l) (hok : okL l) (frm tgt asset : ByteArray) (n : S25) (hn : ok4 n.f0 n.f1 n.f2 n.f3) :
    Calls Try.prog 5 #[.slice A l.length c, .string frm, .string tgt, .string asset, .agg #[.int .u64 n.f0, .int .u64 n.f1, .int .u64 n.f2, .int .u64 n.f3]] w fun e w' => e = .returned (.bool true) ∧ Below w.heap.size w w' :=
  trucelaw16_AcctMoves.callsT 5000 A c l frm tgt asset n.f0 n.f1 n.f2 n.f3 true w hC hl (Aside0.mk rfl) (moves_true l hok frm tgt asset n.f0 n.f1 n.f2 n.f3 hn)
end Go.Proofs.Ytnedmaddjikmkaa.P

