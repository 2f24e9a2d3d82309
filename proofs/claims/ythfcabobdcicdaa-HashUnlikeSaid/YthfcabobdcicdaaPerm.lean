import Derived.Test.YthfcabobdcicdaaSame
import Derived.Test.YthfcabobdcicdaaInj
namespace Go.Proofs.Ythfcabobdcicdaa.P
set_option linter.unusedVariables false
open Go.RowKit
set_option maxRecDepth 100000
set_option maxHeartbeats 4000000
theorem xor_move {a b c d : W64} (h : a ^^^ c = b ^^^ d) : a ^^^ b = c ^^^ d := by
  have h1 : a = b ^^^ d ^^^ c := by rw [← h, BitVec.xor_assoc, BitVec.xor_self, BitVec.xor_zero]
  rw [h1, BitVec.xor_comm b d, BitVec.xor_assoc d b c, BitVec.xor_comm b c, ← BitVec.xor_assoc, BitVec.xor_assoc _ b b, BitVec.xor_self, BitVec.xor_zero, BitVec.xor_comm]
theorem xor_nil {a b : W64} (h : a ^^^ b = 0#64) : a = b := by
  have : a ^^^ b ^^^ b = 0#64 ^^^ b := by rw [h]
  rwa [BitVec.xor_assoc, BitVec.xor_self, BitVec.xor_zero, BitVec.zero_xor] at this
theorem five_same (e : W64) : e ^^^ e ^^^ e ^^^ e ^^^ e = e := by simp only [BitVec.xor_self, BitVec.zero_xor]
theorem five_xor (a0 a1 a2 a3 a4 b0 b1 b2 b3 b4 : W64) : (a0 ^^^ a1 ^^^ a2 ^^^ a3 ^^^ a4) ^^^ (b0 ^^^ b1 ^^^ b2 ^^^ b3 ^^^ b4) = (a0 ^^^ b0) ^^^ (a1 ^^^ b1) ^^^ (a2 ^^^ b2) ^^^ (a3 ^^^ b3) ^^^ (a4 ^^^ b4) := by
  ac_rfl
theorem two_xor (a b c d : W64) : (a ^^^ b) ^^^ (c ^^^ d) = (a ^^^ c) ^^^ (b ^^^ d) := by
  rw [BitVec.xor_assoc, BitVec.xor_assoc, ← BitVec.xor_assoc b c d, BitVec.xor_comm b c, BitVec.xor_assoc c b d]
theorem theta_core (a b ca cb : Nat → W64) (ha : ∀ x, x < 5 → ca x = a x ^^^ a (x + 5) ^^^ a (x + 10) ^^^ a (x + 15) ^^^ a (x + 20)) (hb : ∀ x, x < 5 → cb x = b x ^^^ b (x + 5) ^^^ b (x + 10) ^^^ b (x + 15) ^^^ b (x + 20))
    (h : ∀ i, i < 25 → a i ^^^ (ca ((i + 4) % 5) ^^^ (ca ((i + 1) % 5)).rotateLeft 1) = b i ^^^ (cb ((i + 4) % 5) ^^^ (cb ((i + 1) % 5)).rotateLeft 1)) : ∀ i, i < 25 → a i = b i := by
  have hd : ∀ i, i < 25 → a i ^^^ b i = (ca ((i + 4) % 5) ^^^ cb ((i + 4) % 5)) ^^^ (ca ((i + 1) % 5) ^^^ cb ((i + 1) % 5)).rotateLeft 1 := by
    intro i hi
    rw [xor_move (h i hi), two_xor, rotl_xor]
  have hD : ∀ x, x < 5 → ca x ^^^ cb x = (ca ((x + 4) % 5) ^^^ cb ((x + 4) % 5)) ^^^ (ca ((x + 1) % 5) ^^^ cb ((x + 1) % 5)).rotateLeft 1 := by
    intro x hx
    rw [ha x hx, hb x hx, five_xor, hd x (by omega), hd (x + 5) (by omega), hd (x + 10) (by omega), hd (x + 15) (by omega), hd (x + 20) (by omega)]
    rw [show (x + 5 + 4) % 5 = (x + 4) % 5 by omega, show (x + 10 + 4) % 5 = (x + 4) % 5 by omega, show (x + 15 + 4) % 5 = (x + 4) % 5 by omega, show (x + 20 + 4) % 5 = (x + 4) % 5 by omega,
      show (x + 5 + 1) % 5 = (x + 1) % 5 by omega, show (x + 10 + 1) % 5 = (x + 1) % 5 by omega, show (x + 15 + 1) % 5 = (x + 1) % 5 by omega, show (x + 20 + 1) % 5 = (x + 1) % 5 by omega]
    exact five_same _
  have hz := theta_nil (fun x => ca (x % 5).toNat ^^^ cb (x % 5).toNat) (fun x => by show ca ((x + 5) % 5).toNat ^^^ cb ((x + 5) % 5).toNat = _; rw [show (x + 5) % 5 = x % 5 by omega]) (fun x => by
    have := hD (x % 5).toNat (by omega)
    show ca (x % 5).toNat ^^^ cb (x % 5).toNat = (ca ((x - 1) % 5).toNat ^^^ cb ((x - 1) % 5).toNat) ^^^ (ca ((x + 1) % 5).toNat ^^^ cb ((x + 1) % 5).toNat).rotateLeft 1
    rw [show ((x - 1) % 5).toNat = ((x % 5).toNat + 4) % 5 by omega, show ((x + 1) % 5).toNat = ((x % 5).toNat + 1) % 5 by omega]
    exact this)
  have hz' : ∀ x, x < 5 → ca x ^^^ cb x = 0#64 := by
    intro x hx
    have := hz (x : Int)
    simpa [show ((x : Int) % 5).toNat = x by omega] using this
  intro i hi
  apply xor_nil
  rw [hd i hi, hz' _ (by omega), hz' _ (by omega), rotl_nil, BitVec.xor_zero]
theorem gw_set_same (L : List W64) (k : Nat) (v : W64) (h : k < L.length) : gw (L.set k v) k = v := by simp [gw, List.getD, h]
theorem gw_set_other (L : List W64) (k i : Nat) (v : W64) (h : k ≠ i) : gw (L.set k v) i = gw L i := by simp [gw, List.getD, List.getElem?_set_ne h]
theorem list25_ext (L M : List W64) (hL : L.length = 25) (hM : M.length = 25) (h : ∀ i, i < 25 → gw L i = gw M i) : L = M := by
  apply List.ext_getElem (by omega)
  intro i h1 h2
  have := h i (by omega)
  simpa [gw, List.getD, List.getElem?_eq_getElem h1, List.getElem?_eq_getElem h2] using this
theorem mixA_gw (L C : List W64) (hL : L.length = 25) (i : Nat) (hi : i < 25) : ∀ n, n ≤ 25 → gw (mixA L C n) i = if i < n then gw L i ^^^ (gw C ((i + 4) % 5) ^^^ (gw C ((i + 1) % 5)).rotateLeft 1) else gw L i
  | 0, _ => by rw [mixA, if_neg (by omega)]
  | n + 1, hn => by
    have ih := mixA_gw L C hL i hi n (by omega)
    rw [mixA]
    by_cases e : n = i
    · subst e
      rw [gw_set_same _ _ _ (by rw [mixA_len]; omega), ih, if_neg (by omega), if_pos (by omega)]
    · rw [gw_set_other _ _ _ _ e, ih]
      by_cases h : i < n
      · rw [if_pos h, if_pos (by omega)]
      · rw [if_neg h, if_neg (by omega)]
theorem rC_gw (A : List W64) (x : Nat) (hx : x < 5) : ∀ n, n ≤ 5 → gw (rC A n) x = if x < n then gw A x ^^^ gw A (x + 5) ^^^ gw A (x + 10) ^^^ gw A (x + 15) ^^^ gw A (x + 20) else gw (rC A n) x
  | 0, _ => by rw [if_neg (by omega)]
  | n + 1, hn => by
    have ih := rC_gw A x hx n (by omega)
    by_cases e : n = x
    · subst e
      rw [if_pos (by omega), rC, gw_set_same _ _ _ (by rw [rC_len]; omega)]
    · by_cases h : x < n
      · rw [if_pos (by omega), rC, gw_set_other _ _ _ _ e, ih, if_pos h]
      · rw [if_neg (by omega)]
theorem mixC_same (L : List W64) (hL : L.length = 25) : mixC L 25 = rC L 5 := by
  obtain ⟨a0, a1, a2, a3, a4, a5, a6, a7, a8, a9, a10, a11, a12, a13, a14, a15, a16, a17, a18, a19, a20, a21, a22, a23, a24, rfl⟩ := five L hL
  exact mixC_rC a0 a1 a2 a3 a4 a5 a6 a7 a8 a9 a10 a11 a12 a13 a14 a15 a16 a17 a18 a19 a20 a21 a22 a23 a24
theorem mixed_inj (L M : List W64) (hL : L.length = 25) (hM : M.length = 25) (h : mixed L = mixed M) : L = M := by
  apply list25_ext L M hL hM
  apply theta_core (gw L) (gw M) (gw (rC L 5)) (gw (rC M 5))
  · intro x hx
    rw [rC_gw L x hx 5 (Nat.le_refl _), if_pos hx]
  · intro x hx
    rw [rC_gw M x hx 5 (Nat.le_refl _), if_pos hx]
  · intro i hi
    rw [mixed, mixed, mixC_same L hL, mixC_same M hM] at h
    have e := congrArg (fun l => gw l i) h
    rwa [mixA_gw L _ hL i hi 25 (Nat.le_refl _), mixA_gw M _ hM i hi 25 (Nat.le_refl _), if_pos hi, if_pos hi] at e
theorem moved_inj (L M : List W64) (hL : L.length = 25) (hM : M.length = 25) (h : moved L = moved M) : L = M := by
  obtain ⟨a0, a1, a2, a3, a4, a5, a6, a7, a8, a9, a10, a11, a12, a13, a14, a15, a16, a17, a18, a19, a20, a21, a22, a23, a24, rfl⟩ := five L hL
  obtain ⟨b0, b1, b2, b3, b4, b5, b6, b7, b8, b9, b10, b11, b12, b13, b14, b15, b16, b17, b18, b19, b20, b21, b22, b23, b24, rfl⟩ := five M hM
  rw [moved_ex, moved_ex] at h
  simp only [List.cons.injEq, and_true] at h
  obtain ⟨g0, g1, g2, g3, g4, g5, g6, g7, g8, g9, g10, g11, g12, g13, g14, g15, g16, g17, g18, g19, g20, g21, g22, g23, g24⟩ := h
  have e6 := rotl_inj 44 (by decide) g1
  have e12 := rotl_inj 43 (by decide) g2
  have e18 := rotl_inj 21 (by decide) g3
  have e24 := rotl_inj 14 (by decide) g4
  have e3 := rotl_inj 28 (by decide) g5
  have e9 := rotl_inj 20 (by decide) g6
  have e10 := rotl_inj 3 (by decide) g7
  have e16 := rotl_inj 45 (by decide) g8
  have e22 := rotl_inj 61 (by decide) g9
  have e1 := rotl_inj 1 (by decide) g10
  have e7 := rotl_inj 6 (by decide) g11
  have e13 := rotl_inj 25 (by decide) g12
  have e19 := rotl_inj 8 (by decide) g13
  have e20 := rotl_inj 18 (by decide) g14
  have e4 := rotl_inj 27 (by decide) g15
  have e5 := rotl_inj 36 (by decide) g16
  have e11 := rotl_inj 10 (by decide) g17
  have e17 := rotl_inj 15 (by decide) g18
  have e23 := rotl_inj 56 (by decide) g19
  have e2 := rotl_inj 62 (by decide) g20
  have e8 := rotl_inj 55 (by decide) g21
  have e14 := rotl_inj 39 (by decide) g22
  have e15 := rotl_inj 41 (by decide) g23
  have e21 := rotl_inj 2 (by decide) g24
  rw [g0, e1, e2, e3, e4, e5, e6, e7, e8, e9, e10, e11, e12, e13, e14, e15, e16, e17, e18, e19, e20, e21, e22, e23, e24]
theorem chi_bits : ∀ x0 x1 x2 x3 x4 y0 y1 y2 y3 y4 : Bool, (x0 ^^ (!x1 && x2)) = (y0 ^^ (!y1 && y2)) → (x1 ^^ (!x2 && x3)) = (y1 ^^ (!y2 && y3)) → (x2 ^^ (!x3 && x4)) = (y2 ^^ (!y3 && y4)) → (x3 ^^ (!x4 && x0)) = (y3 ^^ (!y4 && y0)) → (x4 ^^ (!x0 && x1)) = (y4 ^^ (!y0 && y1)) →
    x0 = y0 ∧ x1 = y1 ∧ x2 = y2 ∧ x3 = y3 ∧ x4 = y4 := by decide +kernel
theorem chi_row (x0 x1 x2 x3 x4 y0 y1 y2 y3 y4 : W64) (h0 : x0 ^^^ (~~~ x1 &&& x2) = y0 ^^^ (~~~ y1 &&& y2)) (h1 : x1 ^^^ (~~~ x2 &&& x3) = y1 ^^^ (~~~ y2 &&& y3)) (h2 : x2 ^^^ (~~~ x3 &&& x4) = y2 ^^^ (~~~ y3 &&& y4))
    (h3 : x3 ^^^ (~~~ x4 &&& x0) = y3 ^^^ (~~~ y4 &&& y0)) (h4 : x4 ^^^ (~~~ x0 &&& x1) = y4 ^^^ (~~~ y0 &&& y1)) : x0 = y0 ∧ x1 = y1 ∧ x2 = y2 ∧ x3 = y3 ∧ x4 = y4 := by
  have H : ∀ i, i < 64 → x0.getLsbD i = y0.getLsbD i ∧ x1.getLsbD i = y1.getLsbD i ∧ x2.getLsbD i = y2.getLsbD i ∧ x3.getLsbD i = y3.getLsbD i ∧ x4.getLsbD i = y4.getLsbD i := by
    intro i hi
    have g0 := congrArg (BitVec.getLsbD · i) h0
    have g1 := congrArg (BitVec.getLsbD · i) h1
    have g2 := congrArg (BitVec.getLsbD · i) h2
    have g3 := congrArg (BitVec.getLsbD · i) h3
    have g4 := congrArg (BitVec.getLsbD · i) h4
    simp only [BitVec.getLsbD_xor, BitVec.getLsbD_and, BitVec.getLsbD_not, hi, decide_true, Bool.true_and] at g0 g1 g2 g3 g4
    exact chi_bits _ _ _ _ _ _ _ _ _ _ g0 g1 g2 g3 g4
  exact ⟨BitVec.eq_of_getLsbD_eq fun i hi => (H i hi).1, BitVec.eq_of_getLsbD_eq fun i hi => (H i hi).2.1, BitVec.eq_of_getLsbD_eq fun i hi => (H i hi).2.2.1, BitVec.eq_of_getLsbD_eq fun i hi => (H i hi).2.2.2.1, BitVec.eq_of_getLsbD_eq fun i hi => (H i hi).2.2.2.2⟩
theorem folded_inj (L M : List W64) (hL : L.length = 25) (hM : M.length = 25) (h : folded L = folded M) : L = M := by
  obtain ⟨a0, a1, a2, a3, a4, a5, a6, a7, a8, a9, a10, a11, a12, a13, a14, a15, a16, a17, a18, a19, a20, a21, a22, a23, a24, rfl⟩ := five L hL
  obtain ⟨b0, b1, b2, b3, b4, b5, b6, b7, b8, b9, b10, b11, b12, b13, b14, b15, b16, b17, b18, b19, b20, b21, b22, b23, b24, rfl⟩ := five M hM
  rw [folded_ex, folded_ex] at h
  simp only [List.cons.injEq, and_true] at h
  obtain ⟨g0, g1, g2, g3, g4, g5, g6, g7, g8, g9, g10, g11, g12, g13, g14, g15, g16, g17, g18, g19, g20, g21, g22, g23, g24⟩ := h
  obtain ⟨e0, e1, e2, e3, e4⟩ := chi_row _ _ _ _ _ _ _ _ _ _ g0 g1 g2 g3 g4
  obtain ⟨e5, e6, e7, e8, e9⟩ := chi_row _ _ _ _ _ _ _ _ _ _ g5 g6 g7 g8 g9
  obtain ⟨e10, e11, e12, e13, e14⟩ := chi_row _ _ _ _ _ _ _ _ _ _ g10 g11 g12 g13 g14
  obtain ⟨e15, e16, e17, e18, e19⟩ := chi_row _ _ _ _ _ _ _ _ _ _ g15 g16 g17 g18 g19
  obtain ⟨e20, e21, e22, e23, e24⟩ := chi_row _ _ _ _ _ _ _ _ _ _ g20 g21 g22 g23 g24
  rw [e0, e1, e2, e3, e4, e5, e6, e7, e8, e9, e10, e11, e12, e13, e14, e15, e16, e17, e18, e19, e20, e21, e22, e23, e24]
theorem set0_inj (F G : List W64) (k : W64) (hF : F.length = 25) (hG : G.length = 25) (h : F.set 0 (gw F 0 ^^^ k) = G.set 0 (gw G 0 ^^^ k)) : F = G := by
  cases F with
  | nil => simp at hF
  | cons x xs =>
  cases G with
  | nil => simp at hG
  | cons y ys =>
    have h' : (x ^^^ k) :: xs = (y ^^^ k) :: ys := h
    simp only [List.cons.injEq] at h'
    rw [h'.2]
    have := congrArg (· ^^^ k) h'.1
    simp only [BitVec.xor_assoc, BitVec.xor_self, BitVec.xor_zero] at this
    rw [this]
theorem step_inj (X Y : List W64) (hX : X.length = 25) (hY : Y.length = 25) (c : W64) (h : (folded (moved (mixed X))).set 0 (gw (folded (moved (mixed X))) 0 ^^^ c) = (folded (moved (mixed Y))).set 0 (gw (folded (moved (mixed Y))) 0 ^^^ c)) : X = Y := by
  have l1 : (mixed X).length = 25 := (mixed_len X).trans hX
  have l2 : (mixed Y).length = 25 := (mixed_len Y).trans hY
  have l3 : (moved (mixed X)).length = 25 := (moved_len _).trans l1
  have l4 : (moved (mixed Y)).length = 25 := (moved_len _).trans l2
  have l5 : (folded (moved (mixed X))).length = 25 := (folded_len _).trans l3
  have l6 : (folded (moved (mixed Y))).length = 25 := (folded_len _).trans l4
  have h1 := set0_inj (folded (moved (mixed X))) (folded (moved (mixed Y))) c l5 l6 h
  have h2 := folded_inj (moved (mixed X)) (moved (mixed Y)) l3 l4 h1
  have h3 := moved_inj (mixed X) (mixed Y) l1 l2 h2
  exact mixed_inj X Y hX hY h3
theorem hp_one (L : List W64) (hL : L.length = 25) (k : Nat) : (hp L (k + 1)).1 = (folded (moved (mixed (hp L k).1))).set 0 (gw (folded (moved (mixed (hp L k).1))) 0 ^^^ (kx (lk k) 7).1) := by
  rw [hp, inn_eq _ _ (by rw [folded_len, moved_len, mixed_len, hp_len]; omega), hp_lk L hL]
theorem hp_inj (L M : List W64) (hL : L.length = 25) (hM : M.length = 25) (k : Nat) : (hp L k).1 = (hp M k).1 → L = M := by
  induction k with
  | zero => intro h; exact h
  | succ k ih =>
    intro h
    apply ih
    rw [hp_one L hL k, hp_one M hM k] at h
    generalize (kx (lk k) 7).1 = c at h
    exact step_inj (hp L k).1 (hp M k).1 ((hp_len L k).trans hL) ((hp_len M k).trans hM) c h
theorem permuted_inj (L M : List W64) (hL : L.length = 25) (hM : M.length = 25) (h : permuted L = permuted M) : L = M := by
  unfold permuted at h
  exact hp_inj L M hL hM 24 h
end Go.Proofs.Ythfcabobdcicdaa.P
