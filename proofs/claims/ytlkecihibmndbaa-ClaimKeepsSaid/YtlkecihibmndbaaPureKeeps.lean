import Derived.Test.YtlkecihibmndbaaPureC
import Derived.Test.YtlkecihibmndbaaPtrucelaw18ClaimKeeps
namespace Go.Proofs.Ytlkecihibmndbaa.P
set_option linter.unusedVariables false
set_option linter.unusedSimpArgs false
open Go.RowKit Go.Proofs.YtlkecihibmndbaaW.PrintWords
/-! Nothing is lost: binding, and what goes to the sides, keeps the sum of all amounts. -/
theorem keeps_j1 (l R B : List S39) (e g : Int) (hl : okL l) (hR : okL R) (hB : okL B) (ll : l.length ≤ 100) (lR : R.length ≤ 100) (lB : B.length ≤ 100)
    (tR : tot R = tot l) (tB : tot B = tot l) (eR : e ≠ 0 → R = l) (eB : g ≠ 0 → B = l) (k : Nat) (hk : 100 < k) : trucelaw18_ClaimKeeps.j1 (k + 1) l R e B g false = some true := by
  rw [trucelaw18_ClaimKeeps.j1, if_neg (by simp), total_val hR (by omega) k (by omega), Option.bind_some, total_val hl (by omega) k (by omega), Option.bind_some, totW_eq tR, if_pos (by simp), total_val hB (by omega) k (by omega), Option.bind_some, Option.bind_some, totW_eq tB, if_pos (by simp)]
  by_cases h1 : e = 0
  · rw [if_pos h1]
    by_cases h2 : g = 0
    · rw [if_pos h2, awake_true]; rfl
    · rw [if_neg h2, eB h2, same_refl l (by omega) k (by omega), Option.bind_some, if_pos rfl, awake_true]; rfl
  · rw [if_neg h1, eR h1, same_refl l (by omega) k (by omega), Option.bind_some, if_pos rfl]
    by_cases h2 : g = 0
    · rw [if_pos h2, awake_true]; rfl
    · rw [if_neg h2, eB h2, same_refl l (by omega) k (by omega), Option.bind_some, if_pos rfl, awake_true]; rfl
theorem keeps_true (l m : List S39) (hl : okL l) (hm : okL m) (n : Int) (ch : ByteArray) (i j a0 a1 a2 a3 b0 b1 b2 b3 : Int) (ha : ok4 a0 a1 a2 a3) (hb : ok4 b0 b1 b2 b3) :
    ∃ k, trucelaw18_ClaimKeeps.f k l n m ch i j a0 a1 a2 a3 b0 b1 b2 b3 = some true := by
  refine ⟨1000, ?_⟩
  have haw : ∀ k, trucelaw18_ClaimKeeps.j0 (k + 1) l n m ch i j true a0 a1 a2 a3 b0 b1 b2 b3 = some true := fun k => by
    rw [trucelaw18_ClaimKeeps.j0, if_pos rfl, awake_true]; rfl
  rw [trucelaw18_ClaimKeeps.f]
  by_cases h60 : l.length ≤ 60
  · rw [few_true l h60, Option.bind_some, if_pos rfl]
    by_cases hm60 : m.length ≤ 60
    · rw [few_true m hm60, Option.bind_some]
      show trucelaw18_ClaimKeeps.j0 (999 + 1) l n m ch i j false a0 a1 a2 a3 b0 b1 b2 b3 = some true
      rw [trucelaw18_ClaimKeeps.j0, if_neg (by simp), rec_val l hl (by omega) n m hm (by omega), Option.bind_some, bind_val l hl h60 ch i j _ _ _ _ _ _ _ _ ha hb, Option.bind_some]
      have hR : ∃ R, R = (if recE l n m = 0 then gv l m n.toNat 2 else l) ∧ tot R = tot l ∧ okL R ∧ R.length ≤ 100 ∧ (recE l n m = 0 → R.length + 1 = l.length) ∧ (recE l n m ≠ 0 → R = l) := by
        refine ⟨_, rfl, ?_⟩
        by_cases h : recE l n m = 0
        · rw [if_pos h]
          have := tot_rec h
          exact ⟨this.1, okL_gv hl _ _, by omega, fun _ => this.2, fun h2 => absurd h h2⟩
        · rw [if_neg h]
          exact ⟨rfl, hl, by omega, fun h2 => absurd h2 h, fun _ => rfl⟩
      have hB : ∃ B, B = (if bindE l ch i j (wl4 a0 a1 a2 a3) (wl4 b0 b1 b2 b3) = 0 then bindL l ch i j (wl4 a0 a1 a2 a3) (wl4 b0 b1 b2 b3) else l) ∧ tot B = tot l ∧ okL B ∧ B.length ≤ 100 ∧ (bindE l ch i j (wl4 a0 a1 a2 a3) (wl4 b0 b1 b2 b3) = 0 → B.length = l.length + 1) ∧ (bindE l ch i j (wl4 a0 a1 a2 a3) (wl4 b0 b1 b2 b3) ≠ 0 → B = l) := by
        refine ⟨_, rfl, ?_⟩
        by_cases h : bindE l ch i j (wl4 a0 a1 a2 a3) (wl4 b0 b1 b2 b3) = 0
        · rw [if_pos h]
          obtain ⟨p, q, rfl, rfl, hf⟩ := bfine_of h
          have hlen : (bindL l ch p q (wl4 a0 a1 a2 a3) (wl4 b0 b1 b2 b3)).length = l.length + 1 := by simp [bindL_eq]
          exact ⟨tot_bind (wl4_len _ _ _ _) (wl4_len _ _ _ _) hf, okL_bind hl _ _ _ _ _, by omega, fun _ => hlen, fun h2 => absurd h h2⟩
        · rw [if_neg h]
          exact ⟨rfl, hl, by omega, fun h2 => absurd h2 h, fun _ => rfl⟩
      obtain ⟨R, eR, tR, oR, lR, zR, nR⟩ := hR
      obtain ⟨B, eB, tB, oB, lB, zB, nB⟩ := hB
      rw [← eR, ← eB]
      generalize recE l n m = e at *
      generalize bindE l ch i j (wl4 a0 a1 a2 a3) (wl4 b0 b1 b2 b3) = g at *
      have J := keeps_j1 l R B e g hl oR oB (by omega) lR lB tR tB nR nB 998 (by omega)
      dsimp only
      have second : (if g = 0 then trucelaw18_ClaimKeeps.j1 999 l R e B g ((B.length : Int) != wrap64 ((l.length : Int) + 1)) else trucelaw18_ClaimKeeps.j1 999 l R e B g false) = some true := by
        by_cases h : g = 0
        · have : ((B.length : Int) != wrap64 ((l.length : Int) + 1)) = false := by
            have := zB h
            rw [wrap_nat1 _ (by omega), bne_eq_false_iff_eq]
            omega
          rw [if_pos h, this]
          exact J
        · rw [if_neg h]
          exact J
      by_cases h : e = 0
      · have hw : (R.length : Int) = wrap64 ((l.length : Int) - 1) := by
          have := zR h
          unfold wrap64
          omega
        rw [if_pos h, if_pos hw]
        exact second
      · rw [if_neg h]
        exact second
    · rw [few_false m hm60, Option.bind_some]
      exact haw 999
  · rw [few_false l h60, Option.bind_some, if_neg (by simp)]
    exact haw 999
#print axioms keeps_true
end Go.Proofs.Ytlkecihibmndbaa.P
