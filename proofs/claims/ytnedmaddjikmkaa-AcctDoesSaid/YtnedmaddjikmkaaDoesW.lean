import Derived.Test.YtnedmaddjikmkaaPureFit
import Derived.Test.YtnedmaddjikmkaaOpen
import Derived.Test.YtnedmaddjikmkaaPtrucelaw16AcctDoes
namespace Go.Proofs.Ytnedmaddjikmkaa.P
set_option linter.unusedVariables false
set_option linter.unusedSimpArgs false
open Go.RowKit Go.Proofs.YtnedmaddjikmkaaW.PrintWords
/-! AcctDoes: its plain law, and the law called. -/
theorem awake_true : ∀ k, trucelaw16_awake.f (k + 5) = some true
  | 0 => by decide +kernel
  | k + 1 => trucelaw16_awake.mono _ _ (awake_true k)
theorem awake_val (k : Nat) (hk : 5 ≤ k) : trucelaw16_awake.f k = some true := by
  obtain ⟨j, rfl⟩ : ∃ j, k = j + 5 := ⟨k - 5, by omega⟩
  exact awake_true j
theorem does_true (l : List S39) (hl : okL l) (who asset : ByteArray) (n0 n1 n2 n3 : Int) (hn : ok4 n0 n1 n2 n3) : trucelaw16_AcctDoes.f 5000 l who asset n0 n1 n2 n3 = some true := by
  have out : ∀ f, f = true → trucelaw16_AcctDoes.j0 5000 l who asset f n0 n1 n2 n3 = some true := fun f hf => by
    rw [trucelaw16_AcctDoes.j0, if_pos hf, awake_val _ (by omega), Option.bind_some]
  rw [trucelaw16_AcctDoes.f, few_val, Option.bind_some]
  by_cases c1 : l.length ≤ 100
  · rw [decide_eq_true c1, if_pos rfl]
    obtain ⟨b, h1, h2⟩ := rfit_val hl 5000 (by omega)
    rw [h1, Option.bind_some]
    cases b with
    | false => exact out _ rfl
    | true =>
      have F := h2.1 rfl
      have hg : acct_Give.f l who asset n0 n1 n2 n3 = some (if giveE l who asset (wl4 n0 n1 n2 n3) = 0 then giveL l who asset (wl4 n0 n1 n2 n3) else l, giveE l who asset (wl4 n0 n1 n2 n3)) := by
        show giveF l who asset n0 n1 n2 n3 = _
        rw [giveF, if_pos ⟨hn, F.up, hl, F.len⟩]
      have ht : acct_Take.f l who asset n0 n1 n2 n3 = some (if takeE l who asset (wl4 n0 n1 n2 n3) = 0 then takeL l who asset (wl4 n0 n1 n2 n3) else l, takeE l who asset (wl4 n0 n1 n2 n3)) := by
        show takeF l who asset n0 n1 n2 n3 = _
        rw [takeF, if_pos ⟨hn, F.up, hl, F.len⟩]
      have hgl : (if giveE l who asset (wl4 n0 n1 n2 n3) = 0 then giveL l who asset (wl4 n0 n1 n2 n3) else l).length ≤ 1000 := by
        by_cases c : giveE l who asset (wl4 n0 n1 n2 n3) = 0
        · rw [if_pos c]; exact (give_fit F hl rfl c).1.len
        · rw [if_neg c]; exact F.len
      have htl : (if takeE l who asset (wl4 n0 n1 n2 n3) = 0 then takeL l who asset (wl4 n0 n1 n2 n3) else l).length ≤ 1000 := by
        by_cases c : takeE l who asset (wl4 n0 n1 n2 n3) = 0
        · rw [if_pos c]; exact (take_fit F hl (by omega) rfl c).1.len
        · rw [if_neg c]; exact F.len
      rw [trucelaw16_AcctDoes.j0, if_neg (by simp), show truceref16_Give.f = acct_Give.f from rfl, show truceref16_Take.f = acct_Take.f from rfl, hg, ht]
      generalize (if giveE l who asset (wl4 n0 n1 n2 n3) = 0 then giveL l who asset (wl4 n0 n1 n2 n3) else l) = G at hgl ⊢
      generalize (if takeE l who asset (wl4 n0 n1 n2 n3) = 0 then takeL l who asset (wl4 n0 n1 n2 n3) else l) = T at htl ⊢
      simp only [Option.bind_some]
      rw [same_refl G hgl _ (by omega), Option.bind_some, if_pos rfl, if_pos trivial, same_refl T htl _ (by omega), Option.bind_some, if_pos rfl, if_pos trivial, awake_val _ (by omega), Option.bind_some]
  · rw [decide_eq_false c1, if_neg (by simp)]
    exact out _ rfl
theorem acctDoes_law (l : List S39) (A : Option Addr) (c : Nat) (hl : l.length ≤ c) (w : World) (hC : k39.C w A l.length l) (hok : okL l) (who asset : ByteArray) (n : S25) (hn : ok4 n.f0 n.f1 n.f2 n.f3) :
    Calls Try.prog 3 #[.slice A l.length c, .string who, .string asset, .agg #[.int .u64 n.f0, .int .u64 n.f1, .int .u64 n.f2, .int .u64 n.f3]] w fun e w' => e = .returned (.bool true) ∧ Below w.heap.size w w' :=
  trucelaw16_AcctDoes.callsT 5000 A c l who asset n.f0 n.f1 n.f2 n.f3 true w hC hl (Aside0.mk rfl) (does_true l hok who asset n.f0 n.f1 n.f2 n.f3 hn)
end Go.Proofs.Ytnedmaddjikmkaa.P

