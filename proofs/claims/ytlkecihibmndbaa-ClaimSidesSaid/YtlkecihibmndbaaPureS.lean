import Derived.Test.YtlkecihibmndbaaPureBack
namespace Go.Proofs.Ytlkecihibmndbaa.P
set_option linter.unusedVariables false
set_option linter.unusedSimpArgs false
open Go.RowKit Go.Shelf Go.Proofs.YtlkecihibmndbaaW.PrintWords
/-! What is bound is taken from both sides. -/
structure Sided (l U : List S39) (ch : ByteArray) (p q : Nat) (L1 L2 L3 : List W64) : Prop where
  len : U.length = l.length + 1
  ok : okL U
  ap : am (at39 U p) = L1
  aq : am (at39 U q) = L2
  an : am (at39 U l.length) = L3
  dest : (at39 U l.length).f0 = ch
  kind : (at39 U l.length).f2 = 1
  left : (at39 U l.length).f3 = (at39 l p).f0
  right : (at39 U l.length).f4 = (at39 l q).f0
  rest : ∀ j, j < l.length → j ≠ p → j ≠ q → at39 U j = at39 l j
theorem sided {l : List S39} {ch : ByteArray} {p q : Nat} {a b : List W64} (hl : okL l) (ha : a.length = 4) (hf : BFine l ch p q a b) :
    Sided l (bindL l ch p q a b) ch p q (subk (am (at39 l p)) a 4).1 (subk (am (at39 l q)) b 4).1 (addk a b 4).1 := by
  have hp := hf.hp
  have hq := hf.hq
  have hne := hf.ne
  have hfl := front_len l p q a b
  have hu' := bind_front l ch p q a b
  have hin : ∀ j, j < l.length → at39 (bindL l ch p q a b) j = at39 (frontL l p q a b) j := fun j hj => by rw [hu', at39_app _ _ _ (by omega)]
  have hat : at39 (bindL l ch p q a b) l.length = boundA l ch p q a b := by rw [← hfl]; exact last_at _ _ _ hu'
  refine ⟨?_, okL_bind hl ch p q a b, ?_, ?_, ?_, ?_, ?_, ?_, ?_, ?_⟩
  · rw [hu', List.length_append, hfl]; rfl
  · rw [hin p hp, front_at hf, if_pos rfl]; exact am_putA _ _ (by rw [subk_len]; rfl)
  · rw [hin q hq, front_at hf, if_neg (fun e => hne e.symm), if_pos rfl]; exact am_putA _ _ (by rw [subk_len]; rfl)
  · rw [hat]; exact wl4_sw _ (by rw [addk_len, ha])
  · rw [hat]; rfl
  · rw [hat]; rfl
  · rw [hat]; rfl
  · rw [hat]; rfl
  · intro j hj h1 h2
    rw [hin j hj, front_at hf, if_neg h1, if_neg h2]
theorem wl_four (L : List W64) (h : L.length = 4) : wl L = [.int .u64 (vw (gw L 0)), .int .u64 (vw (gw L 1)), .int .u64 (vw (gw L 2)), .int .u64 (vw (gw L 3))] := by
  obtain ⟨a0, a1, a2, a3, rfl⟩ := four L h
  rfl
theorem cells8 {W : World} {ad : Addr} {n : Nat} {l : List S39} (hC : Kd.C k39 W (some ad) n l) (p : Nat) (hp : p < n) : W.cell? (ad.add (p * 8)) = some (.string (at39 l p).f0) ∧
    W.cell? ⟨(ad.add (p * 8)).block, (ad.add (p * 8)).off + 1, none⟩ = some (.int .u64 (at39 l p).f1.f0) ∧ W.cell? ⟨(ad.add (p * 8)).block, (ad.add (p * 8)).off + 2, none⟩ = some (.int .u64 (at39 l p).f1.f1) ∧
    W.cell? ⟨(ad.add (p * 8)).block, (ad.add (p * 8)).off + 3, none⟩ = some (.int .u64 (at39 l p).f1.f2) ∧ W.cell? ⟨(ad.add (p * 8)).block, (ad.add (p * 8)).off + 4, none⟩ = some (.int .u64 (at39 l p).f1.f3) ∧
    W.cell? ⟨(ad.add (p * 8)).block, (ad.add (p * 8)).off + 5, none⟩ = some (.int .i64 (at39 l p).f2) ∧ W.cell? ⟨(ad.add (p * 8)).block, (ad.add (p * 8)).off + 6, none⟩ = some (.string (at39 l p).f3) ∧
    W.cell? ⟨(ad.add (p * 8)).block, (ad.add (p * 8)).off + 7, none⟩ = some (.string (at39 l p).f4) := by
  obtain ⟨ad1, ea1, e0, e1, e2, e3, e4, e5, e6, e7⟩ := at_T39 hC (p : Int) (by omega) (by omega)
  obtain rfl := Option.some.inj ea1
  simp only [Int.toNat_natCast] at e0 e1 e2 e3 e4 e5 e6 e7
  exact ⟨e0, e1, e2, e3, e4, e5, e6, e7⟩
end Go.Proofs.Ytlkecihibmndbaa.P
