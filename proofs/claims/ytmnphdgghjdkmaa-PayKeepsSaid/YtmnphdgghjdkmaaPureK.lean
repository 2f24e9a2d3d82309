import Derived.Test.YtmnphdgghjdkmaaPureO
import Derived.Test.YtmnphdgghjdkmaaGTransfer
import Derived.Deep.MidRow
import Derived.RangeFuncWrites
import Derived.RangeFuncLeaves
import Derived.Shelf.RegionOpen
namespace Go.Proofs.Ytmnphdgghjdkmaa.P
set_option linter.unusedVariables false
set_option linter.unusedSimpArgs false
open Go.RowKit Go.Shelf Go.Proofs.YtmnphdgghjdkmaaW.PrintWords
/-! What is paid and what is left are the money: the plain laws, and what is read. -/
theorem wl_four (L : List W64) (h : L.length = 4) : wl L = [.int .u64 (vw (gw L 0)), .int .u64 (vw (gw L 1)), .int .u64 (vw (gw L 2)), .int .u64 (vw (gw L 3))] := by
  obtain ⟨a0, a1, a2, a3, rfl⟩ := four L h
  rfl
theorem at40_in {l : List S40} {k : Nat} (hk : k < l.length) : at40 l k ∈ l := by simp only [at40, List.getD_eq_getElem?_getD, List.getElem?_eq_getElem hk, Option.getD_some]; exact List.getElem_mem hk
def sumA (l : List S40) : Nat → Nat
  | 0 => 0
  | k + 1 => sumA l k + val (am (at40 l k))
theorem val_hAt_sum (H : List W64) (l : List S40) (hH : H.length = 4) (k : Nat) : val (hAt H l k) = val H - sumA l k := by
  induction k with
  | zero => rfl
  | succ k ih => rw [val_hAt H l hH, ih, sumA]; omega
def outA (H : List W64) (l : List S40) (W : List Int) : List S40 := (List.range l.length).map (oAt H l W)
def payA (H : List W64) (l : List S40) (W : List Int) : List S24 := (List.range l.length).map fun k => sw (nAt H l W k)
theorem outA_at (H : List W64) (l : List S40) (W : List Int) {i : Nat} (hi : i < l.length) : at40 (outA H l W) i = oAt H l W i := by simp [at40, outA, List.getD_eq_getElem?_getD, hi]
theorem outA_ok (H : List W64) (l : List S40) (W : List Int) : okL (outA H l W) := fun x hx => by
  obtain ⟨k, _, rfl⟩ := List.mem_map.1 hx
  exact okA_putA _ _
theorem payA_at (H : List W64) (l : List S40) (W : List Int) {i : Nat} (hi : i < l.length) : rd_T24 (payA H l W) (i : Int) = sw (nAt H l W i) := by simp [rd_T24, payA, List.getD_eq_getElem?_getD, hi]
section
variable (H : List W64) (l : List S40) (W : List Int) (hH : H.length = 4)
include hH
theorem lAt_anti {i j : Nat} (h : i ≤ j) : val (lAt H l W j) ≤ val (lAt H l W i) := by
  induction j with
  | zero => obtain rfl : i = 0 := by omega
            exact Nat.le_refl _
  | succ j ih =>
    by_cases hij : i = j + 1
    · subst hij; exact Nat.le_refl _
    · have := ih (by omega)
      have := val_lAt H l W hH j
      omega
theorem keep1 {S : List W64} (hS : S.length = 4) {i : Nat} (hi : i < l.length) (hv : val S + val (lAt H l W i) = val (lAt H l W l.length) + val H) :
    (addk S (nAt H l W i) 4).2 = 0 ∧ val (addk S (nAt H l W i) 4).1 + val (lAt H l W (i + 1)) = val (lAt H l W l.length) + val H := by
  have hn := nAt_len H l W hH i
  have h1 := val_lAt H l W hH i
  have h2 := lAt_anti H l W hH (show i + 1 ≤ l.length by omega)
  have h3 := val_lt H
  have ho := add_over S (nAt H l W i) hS hn
  have ha := add_val S (nAt H l W i) hS hn
  have hz : (addk S (nAt H l W i) 4).2 = 0 := by rw [ho, if_pos (by omega)]
  rw [hz, Nat.zero_mul, Nat.add_zero] at ha
  refine ⟨hz, ?_⟩
  clear ho
  generalize val (addk S (nAt H l W i) 4).1 = x at *
  omega
theorem keep2 (i : Nat) : (addk (am (oAt H l W i)) (nAt H l W i) 4).2 = 0 ∧ (addk (am (oAt H l W i)) (nAt H l W i) 4).1 = am (at40 l i) := by
  have hn := nAt_len H l W hH i
  have h1 := nAt_le H l W hH i
  have h2 := val_out H l W hH i
  have h3 := val_lt (am (at40 l i))
  have ho := add_over (am (oAt H l W i)) (nAt H l W i) rfl hn
  have ha := add_val (am (oAt H l W i)) (nAt H l W i) rfl hn
  have hz : (addk (am (oAt H l W i)) (nAt H l W i) 4).2 = 0 := by rw [ho, if_pos (by omega)]
  rw [hz, Nat.zero_mul, Nat.add_zero] at ha
  exact ⟨hz, val_inj _ _ (by rw [addk_len]; rfl) rfl (by omega)⟩
theorem keep3 {i : Nat} (h : val H < sumA l i) : nAt H l W i = zero4 := by
  have h1 := nAt_le H l W hH i
  rw [val_hAt_sum H l hH i] at h1
  exact val_inj _ _ (nAt_len H l W hH i) zero4_len (by rw [val_zero4]; omega)
omit hH in
theorem keep4 {i : Nat} (h : val H < sumA l i) : val H < sumA l (i + 1) := by rw [sumA]; omega
omit hH in
theorem keep5 {A : List W64} (hA : A.length = 4) {i : Nat} (hv : val A = sumA l i) (ho : (addk A (am (at40 l i)) 4).2 > 0) : val H < sumA l (i + 1) := by
  have h1 := add_over A (am (at40 l i)) hA rfl
  have h2 := val_lt H
  rw [sumA]
  by_cases hh : val A + val (am (at40 l i)) < 115792089237316195423570985008687907853269984665640564039457584007913129639936
  · rw [if_pos hh] at h1; omega
  · omega
omit hH in
theorem keep6 {A : List W64} (hA : A.length = 4) {i : Nat} (hv : val A = sumA l i) (ho : ¬ (addk A (am (at40 l i)) 4).2 > 0) : val (addk A (am (at40 l i)) 4).1 = sumA l (i + 1) := by
  have ha := add_val A (am (at40 l i)) hA rfl
  rw [show (addk A (am (at40 l i)) 4).2 = 0 by omega, Nat.zero_mul, Nat.add_zero] at ha
  rw [sumA]
  omega
theorem keep7 {A : List W64} (hA : A.length = 4) : cmpk A H 4 > 0 ↔ val H < val A := by
  rw [cmpk_val A H hA hH, cmpN]
  by_cases h : val A < val H
  · rw [if_pos h]; exact ⟨fun h3 => absurd h3 (by decide), fun h3 => absurd h3 (by omega)⟩
  · rw [if_neg h]
    by_cases h2 : val H < val A
    · rw [if_pos h2]; exact ⟨fun _ => h2, fun _ => by decide⟩
    · rw [if_neg h2]; exact ⟨fun h3 => absurd h3 (by decide), fun h3 => absurd h3 h2⟩
end
theorem add_lit (A B : List W64) (hA : A.length = 4) (hB : B.length = 4) (W : World) :
    Calls Try.prog 15 #[.agg #[.int .u64 (vw (gw A 0)), .int .u64 (vw (gw A 1)), .int .u64 (vw (gw A 2)), .int .u64 (vw (gw A 3))], .agg #[.int .u64 (vw (gw B 0)), .int .u64 (vw (gw B 1)), .int .u64 (vw (gw B 2)), .int .u64 (vw (gw B 3))]] W
      fun e w' => e = .returned (.tuple #[.agg (ws (addk A B 4).1), .bool (decide ((addk A B 4).2 > 0))]) ∧ Below W.heap.size W w' := by
  have := radd_any A B hA hB W
  rwa [ws_four A hA, ws_four B hB] at this
theorem cmp_lit (A B : List W64) (hA : A.length = 4) (hB : B.length = 4) (W : World) :
    Calls Try.prog 16 #[.agg #[.int .u64 (vw (gw A 0)), .int .u64 (vw (gw A 1)), .int .u64 (vw (gw A 2)), .int .u64 (vw (gw A 3))], .agg #[.int .u64 (vw (gw B 0)), .int .u64 (vw (gw B 1)), .int .u64 (vw (gw B 2)), .int .u64 (vw (gw B 3))]] W
      fun e w' => e = .returned (.int .i64 (cmpk A B 4)) ∧ Below W.heap.size W w' := by
  have := rcmp_any A B hA hB W
  rwa [ws_four A hA, ws_four B hB] at this
theorem cellsAm {W : World} {ad : Addr} {n : Nat} {l : List S40} (hl : okL l) (hn : l.length = n) (hC : Kd.C k40 W (some ad) n l) (p : Nat) (hp : p < n) : 
    W.cell? ⟨(ad.add (p * 8)).block, (ad.add (p * 8)).off + 1, none⟩ = some (.int .u64 (vw (gw (am (at40 l p)) 0))) ∧ W.cell? ⟨(ad.add (p * 8)).block, (ad.add (p * 8)).off + 2, none⟩ = some (.int .u64 (vw (gw (am (at40 l p)) 1))) ∧
    W.cell? ⟨(ad.add (p * 8)).block, (ad.add (p * 8)).off + 3, none⟩ = some (.int .u64 (vw (gw (am (at40 l p)) 2))) ∧ W.cell? ⟨(ad.add (p * 8)).block, (ad.add (p * 8)).off + 4, none⟩ = some (.int .u64 (vw (gw (am (at40 l p)) 3))) := by
  obtain ⟨ad1, ea1, e0, e1, e2, e3, e4, _⟩ := at_T40 hC (p : Int) (by omega) (by omega)
  obtain rfl := Option.some.inj ea1
  simp only [Int.toNat_natCast] at e1 e2 e3 e4
  have hr : rd_T40 l (p : Int) = at40 l p := by simp [rd_T40, at40]
  rw [hr] at e1 e2 e3 e4
  obtain ⟨h0, h1, h2, h3⟩ := hl _ (at40_in (l := l) (k := p) (by omega))
  refine ⟨?_, ?_, ?_, ?_⟩
  · rw [show vw (gw (am (at40 l p)) 0) = (at40 l p).f1.f0 from vw_ofInt _ h0]; exact e1
  · rw [show vw (gw (am (at40 l p)) 1) = (at40 l p).f1.f1 from vw_ofInt _ h1]; exact e2
  · rw [show vw (gw (am (at40 l p)) 2) = (at40 l p).f1.f2 from vw_ofInt _ h2]; exact e3
  · rw [show vw (gw (am (at40 l p)) 3) = (at40 l p).f1.f3 from vw_ofInt _ h3]; exact e4
theorem cellsP {W : World} {ad : Addr} {n : Nat} {xs : List S24} {N : List W64} (hC : Kd.C k24 W (some ad) n xs) (p : Nat) (hp : p < n) (hx : rd_T24 xs (p : Int) = sw N) :
    W.cell? (ad.add (p * 4)) = some (.int .u64 (vw (gw N 0))) ∧ W.cell? ⟨(ad.add (p * 4)).block, (ad.add (p * 4)).off + 1, none⟩ = some (.int .u64 (vw (gw N 1))) ∧
    W.cell? ⟨(ad.add (p * 4)).block, (ad.add (p * 4)).off + 2, none⟩ = some (.int .u64 (vw (gw N 2))) ∧ W.cell? ⟨(ad.add (p * 4)).block, (ad.add (p * 4)).off + 3, none⟩ = some (.int .u64 (vw (gw N 3))) := by
  obtain ⟨ad1, ea1, e0, e1, e2, e3⟩ := at_T24 hC (p : Int) (by omega) (by omega)
  obtain rfl := Option.some.inj ea1
  simp only [Int.toNat_natCast] at e0 e1 e2 e3
  rw [hx] at e0 e1 e2 e3
  exact ⟨e0, e1, e2, e3⟩
theorem C_of_out {W : World} {base n : Nat} {v : Value} {LL : List S40} (h : W.ownsRow base 40 8 v n (cells40 LL)) (hn : LL.length = n) : ∃ A c, v = .slice A n c ∧ Kd.C k40 W A n LL ∧ n ≤ c := by
  subst hn
  have hR : Kd.R k40 40 W base (fun _ => True) v LL := R_of_cells40 h (fun _ => True) (fun _ _ => trivial)
  obtain ⟨A, c, rfl⟩ := Kd.R_slice hR
  exact ⟨A, c, rfl, (Kd.R_reads' hR).2.2, (Kd.R_reads' hR).2.1⟩
theorem C_of_pay {W : World} {base n : Nat} {v : Value} {f : Nat → List W64} (hf : ∀ k, (f k).length = 4) (h : W.ownsRow base 24 4 v n (cellsF f n)) : ∃ A c, v = .slice A n c ∧ Kd.C k24 W A n ((List.range n).map fun k => sw (f k)) ∧ n ≤ c := by
  have hR : Kd.R k24 24 W base (fun _ => True) v ((List.range n).map fun k => sw (f k)) := R_of_cells hf h (fun _ => True) (fun _ _ => trivial)
  obtain ⟨A, c, e⟩ := Kd.R_slice hR
  subst e
  have h1 := (Kd.R_reads' hR).2.2
  have h2 := (Kd.R_reads' hR).2.1
  rw [List.length_map, List.length_range] at h1 h2
  exact ⟨A, c, by rw [List.length_map, List.length_range], h1, h2⟩
end Go.Proofs.Ytmnphdgghjdkmaa.P
