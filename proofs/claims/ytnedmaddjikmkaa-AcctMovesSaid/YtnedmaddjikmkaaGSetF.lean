import Derived.Test.YtnedmaddjikmkaaPacctorder
import Derived.Test.YtnedmaddjikmkaaCs
import Derived.Test.YtnedmaddjikmkaaPeqA25
import Derived.Deep.LoopGhost
import Derived.Shelf.RegionOpen
import Derived.Test.YtnedmaddjikmkaaGNumF
import Derived.Test.YtnedmaddjikmkaaP0
import Derived.RangeFuncWrites
import Derived.RangeFuncLeaves
import Derived.OwnWalk
import Derived.Laws.Cover3
import Derived.OrdersHeld
import Derived.Laws.CopyOwn
import Derived.Lib.Overlaps
import Derived.Lib.AppendZerosOnto
namespace Go.Proofs.Ytnedmaddjikmkaa.P
set_option linter.unusedVariables false
set_option linter.unusedSimpArgs false
open Go.RowKit Go.Proofs.YtnedmaddjikmkaaW.PrintWords
/-! The order of accounts. -/
open Lib (compareBytes)
theorem cb_self : ∀ a : List UInt8, compareBytes a a = 0
  | [] => rfl
  | x :: a => by rw [compareBytes, if_neg (UInt8.lt_irrefl x), if_neg (UInt8.lt_irrefl x)]; exact cb_self a
theorem cb_eq : ∀ a b : List UInt8, compareBytes a b = 0 → a = b
  | [], [], _ => rfl
  | [], _ :: _, h => by simp [compareBytes] at h
  | _ :: _, [], h => by simp [compareBytes] at h
  | x :: a, y :: b, h => by
    rw [compareBytes] at h
    split at h
    · cases h
    · rename_i h1
      split at h
      · cases h
      · rename_i h2
        rw [cb_eq a b h, UInt8.le_antisymm (UInt8.not_lt.1 h2) (UInt8.not_lt.1 h1)]
theorem cb_swap : ∀ a b : List UInt8, compareBytes b a = - compareBytes a b
  | [], [] => rfl
  | [], _ :: _ => rfl
  | _ :: _, [] => rfl
  | x :: a, y :: b => by
    have ih := cb_swap a b
    rw [compareBytes, compareBytes]
    by_cases h1 : x < y
    · have h2 : ¬ y < x := UInt8.lt_asymm h1
      simp only [h1, h2, if_true, if_false]
      rfl
    · by_cases h2 : y < x
      · simp only [h1, h2, if_true, if_false]
      · simp only [h1, h2, if_false]
        exact ih
theorem cb_trans : ∀ a b c : List UInt8, compareBytes a b < 0 → compareBytes b c < 0 → compareBytes a c < 0
  | [], [], _, h, _ => by simp [compareBytes] at h
  | [], _ :: _, [], _, h => by simp [compareBytes] at h
  | [], _ :: _, _ :: _, _, _ => by simp [compareBytes]
  | _ :: _, [], _, h, _ => by simp [compareBytes] at h
  | _ :: _, _ :: _, [], _, h => by simp [compareBytes] at h
  | x :: a, y :: b, z :: c, h1, h2 => by
    rw [compareBytes] at h1 h2 ⊢
    by_cases xy : x < y
    · by_cases yz : y < z
      · rw [if_pos (UInt8.lt_trans xy yz)]; decide
      · rw [if_neg yz] at h2
        by_cases zy : z < y
        · rw [if_pos zy] at h2; exact absurd h2 (by decide)
        · have e : y = z := UInt8.le_antisymm (UInt8.not_lt.1 zy) (UInt8.not_lt.1 yz)
          subst e
          rw [if_pos xy]; decide
    · rw [if_neg xy] at h1
      by_cases yx : y < x
      · rw [if_pos yx] at h1; exact absurd h1 (by decide)
      · rw [if_neg yx] at h1
        have e : x = y := UInt8.le_antisymm (UInt8.not_lt.1 yx) (UInt8.not_lt.1 xy)
        subst e
        by_cases xz : x < z
        · rw [if_pos xz]; decide
        · rw [if_neg xz] at h2 ⊢
          by_cases zx : z < x
          · rw [if_pos zx] at h2; exact absurd h2 (by decide)
          · rw [if_neg zx] at h2 ⊢
            exact cb_trans a b c h1 h2
theorem cb_less : ∀ a b : List UInt8, Op.bytesLess a b = decide (compareBytes a b < 0)
  | [], [] => rfl
  | _ :: _, [] => rfl
  | [], _ :: _ => rfl
  | x :: a, y :: b => by
    rw [Op.bytesLess, compareBytes]
    by_cases h1 : x < y
    · rw [if_pos h1]; simp [h1]
    · rw [if_neg h1]
      by_cases h2 : y < x
      · rw [if_pos h2]
        have hne : (x == y) = false := beq_eq_false_iff_ne.2 (fun e => by subst e; exact UInt8.lt_irrefl _ h2)
        simp [h1, hne]
      · rw [if_neg h2]
        have e : x = y := UInt8.le_antisymm (UInt8.not_lt.1 h2) (UInt8.not_lt.1 h1)
        subst e
        rw [← cb_less a b]
        simp [h1]
theorem ba_eq {a b : ByteArray} (h : a.data.toList = b.data.toList) : a = b := by
  cases a; cases b
  simp only [ByteArray.mk.injEq]
  exact Array.toList_inj.1 h
theorem cmpB_zero {a b : ByteArray} : cmpB a b = 0 ↔ a = b :=
  ⟨fun h => ba_eq (cb_eq _ _ h), fun h => by subst h; exact cb_self _⟩
theorem cmpB_swap (a b : ByteArray) : cmpB b a = - cmpB a b := cb_swap _ _
theorem cmpB_trans {a b c : ByteArray} (h : cmpB a b < 0) (k : cmpB b c < 0) : cmpB a c < 0 := cb_trans _ _ _ h k
/-- The order by address and asset. -/
def ordK (a0 a1 b0 b1 : ByteArray) : Int := if cmpB a0 b0 ≠ 0 then cmpB a0 b0 else cmpB a1 b1
theorem ordK_zero {a0 a1 b0 b1 : ByteArray} : ordK a0 a1 b0 b1 = 0 ↔ a0 = b0 ∧ a1 = b1 := by
  unfold ordK
  by_cases h : cmpB a0 b0 = 0
  · rw [if_neg (fun hn => hn h)]
    have := cmpB_zero.1 h
    subst this
    rw [cmpB_zero]
    simp
  · rw [if_pos h]
    exact ⟨fun h2 => absurd h2 h, fun h2 => absurd (cmpB_zero.2 h2.1) h⟩
theorem ordK_swap (a0 a1 b0 b1 : ByteArray) : ordK b0 b1 a0 a1 = - ordK a0 a1 b0 b1 := by
  unfold ordK
  rw [cmpB_swap a0 b0, cmpB_swap a1 b1]
  by_cases h : cmpB a0 b0 = 0
  · rw [if_neg (fun hn => hn (by omega)), if_neg (fun hn => hn h)]
  · rw [if_pos (by omega), if_pos h]
theorem ordK_trans {a0 a1 b0 b1 c0 c1 : ByteArray} (h : ordK a0 a1 b0 b1 < 0) (k : ordK b0 b1 c0 c1 < 0) : ordK a0 a1 c0 c1 < 0 := by
  unfold ordK at *
  by_cases h1 : cmpB a0 b0 = 0
  · rw [if_neg (fun hn => hn h1)] at h
    have := cmpB_zero.1 h1
    subst this
    by_cases h2 : cmpB a0 c0 = 0
    · rw [if_neg (fun hn => hn h2)] at k ⊢
      exact cmpB_trans h k
    · rw [if_pos h2] at k ⊢
      exact k
  · rw [if_pos h1] at h
    by_cases h2 : cmpB b0 c0 = 0
    · have := cmpB_zero.1 h2
      subst this
      rw [if_pos h1]
      exact h
    · rw [if_pos h2] at k
      have := cmpB_trans h k
      rw [if_pos (by omega)]
      exact this
def at39 (l : List S39) (k : Nat) : S39 := l.getD k z39
def ordA (x : S39) (b0 b1 : ByteArray) : Int := ordK x.f0 x.f1 b0 b1
/-- Accounts that rise. -/
def Up (l : List S39) : Prop := ∀ i, i + 1 < l.length → ordA (at39 l i) (at39 l (i + 1)).f0 (at39 l (i + 1)).f1 < 0
theorem Up.lt {l : List S39} (h : Up l) {i j : Nat} (hij : i < j) (hj : j < l.length) : ordA (at39 l i) (at39 l j).f0 (at39 l j).f1 < 0 := by
  induction j with
  | zero => omega
  | succ j ih =>
    by_cases e : i = j
    · subst e; exact h i hj
    · exact ordK_trans (ih (by omega) (by omega)) (h j hj)
/-- The place of a key: before it all are less. -/
structure Place (l : List S39) (b0 b1 : ByteArray) (k : Nat) : Prop where
  le : k ≤ l.length
  lo : ∀ i, i < k → ordA (at39 l i) b0 b1 < 0
  hi : ∀ i, k ≤ i → i < l.length → 0 ≤ ordA (at39 l i) b0 b1
theorem ordA_mono {l : List S39} (h : Up l) (b0 b1 : ByteArray) {i j : Nat} (hij : i ≤ j) (hj : j < l.length) (hlt : ordA (at39 l j) b0 b1 < 0) : ordA (at39 l i) b0 b1 < 0 := by
  by_cases e : i = j
  · subst e; exact hlt
  · exact ordK_trans (h.lt (by omega) hj) hlt
theorem Place.one {l : List S39} {b0 b1 : ByteArray} {k k' : Nat} (h : Place l b0 b1 k) (h' : Place l b0 b1 k') : k = k' := by
  by_cases h1 : k < k'
  · have a := h'.lo k h1
    have b := h.hi k (Nat.le_refl _) (by have := h'.le; omega)
    omega
  · by_cases h2 : k' < k
    · have a := h.lo k' h2
      have b := h'.hi k' (Nat.le_refl _) (by have := h.le; omega)
      omega
    · omega
/-- It stands there. -/
def isAt (l : List S39) (b0 b1 : ByteArray) (k : Nat) : Bool := decide (k < l.length) && decide (ordA (at39 l k) b0 b1 = 0)
theorem cmpOr2 (a b : Int) : cmp_Or_int.f 5 [a, b] = some (if a ≠ 0 then a else b) := by
  have e0 : rd [a, b] 0 = a := rfl
  have e1 : rd [a, b] 1 = b := rfl
  by_cases h : a = 0
  · subst h
    by_cases h2 : b = 0
    · subst h2; simp [cmp_Or_int.f, cmp_Or_int.l0, wrap64, e0, e1]
    · simp [cmp_Or_int.f, cmp_Or_int.l0, wrap64, h2, e0, e1]
  · simp [cmp_Or_int.f, cmp_Or_int.l0, wrap64, h, e0, e1]
def rowA (a : S39) : Array Value := #[.string a.f0, .string a.f1, .int .u64 a.f2.f0, .int .u64 a.f2.f1, .int .u64 a.f2.f2, .int .u64 a.f2.f3]
theorem order_any (x y : S39) (w : World) : Calls Try.prog 30 #[.agg (rowA x), .agg (rowA y)] w fun e w' => e = .returned (.int .i64 (ordA x y.f0 y.f1)) ∧ Below w.heap.size w w' :=
  acct_order.calls 5 _ _ _ _ _ _ _ _ _ _ _ _ _ w (by
    show (strings_Compare.f x.f0 y.f0).bind _ = some (ordA x y.f0 y.f1)
    unfold strings_Compare.f
    rw [Option.bind_some, Option.bind_some, cmpOr2, Option.bind_some]
    rfl)
end Go.Proofs.Ytnedmaddjikmkaa.P

namespace Go.Proofs.Ytnedmaddjikmkaa.P
set_option linter.unusedVariables false
set_option linter.unusedSimpArgs false
open Go.RowKit Go.Shelf Go.Proofs.YtnedmaddjikmkaaW.PrintWords
attribute [local go_sem] Oper.semAt_some
/-! Where an account stands. -/
theorem wp_put {P : Program} {c : Code} {K : Exit → Act → World → Prop} {a : Act} {w : World} (Good : Act → Act → World → Prop) (h : c.wp P (fun e a' w' => e = .normal ∧ Good a a' w') a w) (hn : ∀ a' w', Good a a' w' → K .normal a' w') : c.wp P K a w :=
  Code.wp_mono (fun e a' w' hh => by obtain ⟨rfl, h2⟩ := hh; exact hn a' w' h2) h
theorem cells6 {W : World} {ad : Addr} {n : Nat} {l : List S39} (hC : Kd.C k39 W (some ad) n l) (p : Nat) (hp : p < n) : W.cell? (ad.add (p * 6)) = some (.string (at39 l p).f0) ∧
    W.cell? ⟨(ad.add (p * 6)).block, (ad.add (p * 6)).off + 1, none⟩ = some (.string (at39 l p).f1) ∧ W.cell? ⟨(ad.add (p * 6)).block, (ad.add (p * 6)).off + 2, none⟩ = some (.int .u64 (at39 l p).f2.f0) ∧
    W.cell? ⟨(ad.add (p * 6)).block, (ad.add (p * 6)).off + 3, none⟩ = some (.int .u64 (at39 l p).f2.f1) ∧ W.cell? ⟨(ad.add (p * 6)).block, (ad.add (p * 6)).off + 4, none⟩ = some (.int .u64 (at39 l p).f2.f2) ∧
    W.cell? ⟨(ad.add (p * 6)).block, (ad.add (p * 6)).off + 5, none⟩ = some (.int .u64 (at39 l p).f2.f3) := by
  obtain ⟨ad1, ea1, e0, e1, e2, e3, e4, e5⟩ := at_T39 hC (p : Int) (by omega) (by omega)
  obtain rfl := Option.some.inj ea1
  simp only [Int.toNat_natCast] at e0 e1 e2 e3 e4 e5
  exact ⟨e0, e1, e2, e3, e4, e5⟩
set_option maxRecDepth 100000 in
set_option maxHeartbeats 4000000 in
theorem search_any (l : List S39) (hup : Up l) (t : S39) (A : Option Addr) (c : Nat) (w : World) (hC : Kd.C k39 w A l.length l) (hlen : l.length ≤ c) (hl1 : l.length ≤ 100000) :
    Calls Try.prog 40 #[.slice A l.length c, .agg (rowA t), .func (.func 30) #[] #[]] w fun e w' =>
      ∃ k, Place l t.f0 t.f1 k ∧ e = .returned (.tuple #[.int .i64 (k : Nat), .bool (isAt l t.f0 t.f1 k)]) ∧ Below w.heap.size w w' := by
  have hu39 := Try.underlying39
  have HU := Aside0.mk hup
  have HC := Aside0.mk hC
  have HT := Aside0.mk (And.intro (show Box (w.alloc (.cells (rowA t) 39)) w.heap.size 39 (rowA t) from blk_new w _) (below_alloc (Below.refl w.heap.size w) (.cells (rowA t) 39)))
  clear hup hC
  go_enter Try.func40, Try.ntmps40
  go_wp2_with fail
  go_loopw [9, 10] (fun s9 s10 wr => ∃ lo hi : Nat, lo ≤ hi ∧ hi ≤ l.length ∧ s9 = .int .i64 (lo : Nat) ∧ s10 = .int .i64 (hi : Nat) ∧ (∀ i, i < lo → ordA (at39 l i) t.f0 t.f1 < 0) ∧ (∀ i, hi ≤ i → i < l.length → 0 ≤ ordA (at39 l i) t.f0 t.f1) ∧ Below w.heap.size w wr ∧ Box wr w.heap.size 39 (rowA t)) (fun s9 s10 _ => (intOf s10).toNat - (intOf s9).toNat)
  case atStart => exact ⟨0, l.length, Nat.zero_le _, Nat.le_refl _, rfl, rfl, fun i hi => absurd hi (by omega), fun i h1 h2 => absurd h2 (by omega), HT.out.2, HT.out.1⟩
  case round =>
    obtain ⟨lo, hi, hlh, hin, rfl, rfl, h1, h2, hb, hx⟩ := hrel
    have H1 := Aside0.mk h1
    have H2 := Aside0.mk h2
    have HW := Aside0.mk hb
    have HX := Aside0.mk hx
    clear h1 h2 hb hx HT
    by_cases hlt : lo < hi
    · obtain ⟨ad, hA, _⟩ := HC.out.2.2 (by omega)
      subst hA
      have HB := Aside0.mk (fun (X : World) (hX : Below wr.heap.size wr X) => Kd.C_below HC.out (below_step HW.out hX))
      have hm : (lo + hi) / 2 < l.length := by omega
      have hm1 : lo ≤ (lo + hi) / 2 := by omega
      have hm2 : (lo + hi) / 2 < hi := by omega
      go_wp2_with fail
      rw [show ((lo : Int) + (hi : Int)) / 2 = (((lo + hi) / 2 : Nat) : Int) by omega]
      generalize (lo + hi) / 2 = m at *
      have i1 : decide ((m : Int) < l.length) = true := decide_eq_true (by omega)
      refine wp_put (fun a0 a' w' => a' = ((((((((a0.put (some 24) (.func (.func 30) #[] #[])).put (some 25) (.slice (some ad) l.length c)).put (some 26) (.int .i64 (m : Nat))).put (some 27) (.pointer (some (ad.add (m * 6))))).put (some 28) (.agg #[.string (at39 l m).f0, .string (at39 l m).f1, .int .u64 (at39 l m).f2.f0, .int .u64 (at39 l m).f2.f1, .int .u64 (at39 l m).f2.f2, .int .u64 (at39 l m).f2.f3])).put (some 29) (.agg #[.string t.f0, .string t.f1, .int .u64 t.f2.f0, .int .u64 t.f2.f1, .int .u64 t.f2.f2, .int .u64 t.f2.f3])).put (some 30) (.int .i64 (ordA (at39 l m) t.f0 t.f1))).put (some 31) (.bool (decide (ordA (at39 l m) t.f0 t.f1 < 0)))) ∧ Below wr.heap.size wr w') ?hreg ?hnext
      case hreg =>
        refine wp_region_held_drew (S := fun X => Below wr.heap.size wr X) (by kernel_rfl) (below_drew1 (Below.refl _ _)) (fun hHeld => ?_)
        generalize wr.drew = W0 at *
        try simp only [Act.put, List.getElem_toArray, List.getElem_cons_zero, List.getElem_cons_succ, List.setIfInBounds_toArray, List.set_cons_zero, List.set_cons_succ]
        refine wpAnyH_take (i := 0) (v := .func (.func 30) #[] #[]) rfl (by kernel_rfl) (by kernel_rfl) (by kernel_rfl) (fun _ _ _ h => absurd h.1 (by simp)) (.inl ⟨by rfl, fun _ _ => by go_simp⟩) hHeld ?_
        try simp only [Act.put, List.getElem_toArray, List.getElem_cons_zero, List.getElem_cons_succ, List.setIfInBounds_toArray, List.set_cons_zero, List.set_cons_succ]
        refine wpAnyH_take (i := 1) (v := .slice (some ad) l.length c) rfl (by kernel_rfl) (by kernel_rfl) (by kernel_rfl) (fun _ _ _ h => absurd h.1 (by simp)) (.inl ⟨by rfl, fun _ _ => by go_simp⟩) hHeld ?_
        try simp only [Act.put, List.getElem_toArray, List.getElem_cons_zero, List.getElem_cons_succ, List.setIfInBounds_toArray, List.set_cons_zero, List.set_cons_succ]
        refine wpAnyH_take (i := 2) (v := .int .i64 (m : Nat)) rfl (by kernel_rfl) (by kernel_rfl) (by kernel_rfl) (fun _ _ _ h => absurd h.1 (by simp)) (.inl ⟨by rfl, fun _ _ => by go_simp⟩) hHeld ?_
        try simp only [Act.put, List.getElem_toArray, List.getElem_cons_zero, List.getElem_cons_succ, List.setIfInBounds_toArray, List.set_cons_zero, List.set_cons_succ]
        refine wpAnyH_take (i := 3) (v := .pointer (some (ad.add (m * 6)))) rfl (by kernel_rfl) (by kernel_rfl) (by kernel_rfl) (fun _ _ _ h => absurd h.1 (by simp)) (.inl ⟨by rfl, fun _ _ => by go_simp⟩) hHeld ?_
        try simp only [Act.put, List.getElem_toArray, List.getElem_cons_zero, List.getElem_cons_succ, List.setIfInBounds_toArray, List.set_cons_zero, List.set_cons_succ]
        refine wpAnyH_take (i := 4) (v := .agg #[.string (at39 l m).f0, .string (at39 l m).f1, .int .u64 (at39 l m).f2.f0, .int .u64 (at39 l m).f2.f1, .int .u64 (at39 l m).f2.f2, .int .u64 (at39 l m).f2.f3]) rfl (by kernel_rfl) (by kernel_rfl) (by kernel_rfl) (fun _ _ _ h => absurd h.1 (by simp)) (.inl ⟨by rfl, fun X' hS => by obtain ⟨b0, b1, b2, b3, b4, b5⟩ := cells6 (HB.out _ hS) m hm; go_simp⟩) hHeld ?_
        try simp only [Act.put, List.getElem_toArray, List.getElem_cons_zero, List.getElem_cons_succ, List.setIfInBounds_toArray, List.set_cons_zero, List.set_cons_succ]
        refine wpAnyH_take (i := 5) (v := .agg #[.string t.f0, .string t.f1, .int .u64 t.f2.f0, .int .u64 t.f2.f1, .int .u64 t.f2.f2, .int .u64 t.f2.f3]) rfl (by kernel_rfl) (by kernel_rfl) (by kernel_rfl) (fun _ _ _ h => absurd h.1 (by simp)) (.inl ⟨by rfl, fun X' hS => by have hx : Box X' w.heap.size 39 (rowA t) := blk_below HX.out hS; have b0 := hx.cell 0 (.string t.f0) rfl; have b1 := hx.cell 1 (.string t.f1) rfl; have b2 := hx.cell 2 (.int .u64 t.f2.f0) rfl; have b3 := hx.cell 3 (.int .u64 t.f2.f1) rfl; have b4 := hx.cell 4 (.int .u64 t.f2.f2) rfl; have b5 := hx.cell 5 (.int .u64 t.f2.f3) rfl; clear hx; go_simp⟩) hHeld ?_
        try simp only [Act.put, List.getElem_toArray, List.getElem_cons_zero, List.getElem_cons_succ, List.setIfInBounds_toArray, List.set_cons_zero, List.set_cons_succ]
        refine wpAnyH_ready (rs := [6]) (by kernel_rfl) (by simp) ?_
        refine AllReadyH.cons rfl (fun K hK => ?_) AllReadyH.nil
        go_simp
        refine (order_any (at39 l m) t _).mono ?_
        rintro e X1 ⟨rfl, hb⟩
        refine hK.out _ _ (below_step hHeld hb) (fun hHeld => ?_)
        clear hb hK K
        try simp only [Act.put, List.getElem_toArray, List.getElem_cons_zero, List.getElem_cons_succ, List.setIfInBounds_toArray, List.set_cons_zero, List.set_cons_succ]
        refine wpAnyH_take (i := 7) (v := .bool (decide (ordA (at39 l m) t.f0 t.f1 < 0))) rfl (by kernel_rfl) (by kernel_rfl) (by kernel_rfl) (fun _ _ _ h => absurd h.1 (by simp)) (.inl ⟨by rfl, fun _ _ => by go_simp⟩) hHeld ?_
        try simp only [Act.put, List.getElem_toArray, List.getElem_cons_zero, List.getElem_cons_succ, List.setIfInBounds_toArray, List.set_cons_zero, List.set_cons_succ]
        refine wpAnyH_done (by kernel_rfl) ?_ _
        refine ⟨rfl, ?_, hHeld⟩
        try rfl
      case hnext =>
        rintro _ w4 ⟨rfl, hb4⟩
        try simp only [Act.put, List.getElem_toArray, List.getElem_cons_zero, List.getElem_cons_succ, List.setIfInBounds_toArray, List.set_cons_zero, List.set_cons_succ]
        have HW4 := Aside0.mk (below_step HW.out hb4)
        have HX4 := Aside0.mk (show Box w4 w.heap.size 39 (rowA t) from blk_below HX.out hb4)
        clear hb4 HB HW HX
        by_cases hlt2 : ordA (at39 l m) t.f0 t.f1 < 0
        · have kk := decide_eq_true hlt2
          go_wp2_with fail
          refine ⟨⟨m + 1, hi, by omega, hin, by go_num, rfl, fun i hi' => ?_, H2.out, HW4.out, HX4.out⟩, by simp [intOf]; omega⟩
          exact ordA_mono HU.out _ _ (by omega) hm hlt2
        · have kk := decide_eq_false hlt2
          go_wp2_with fail
          refine ⟨⟨lo, m, by omega, by omega, rfl, rfl, H1.out, fun i h1 h2 => ?_, HW4.out, HX4.out⟩, by simp [intOf]; omega⟩
          by_cases hz : ordA (at39 l i) t.f0 t.f1 < 0
          · exact absurd (ordA_mono HU.out _ _ h1 h2 hz) hlt2
          · omega
    · obtain rfl : hi = lo := by omega
      go_wp2_with fail
      have HPL := Aside0.mk (⟨hin, H1.out, H2.out⟩ : Place l t.f0 t.f1 hi)
      by_cases hm : hi < l.length
      · obtain ⟨ad, hA, _⟩ := HC.out.2.2 (by omega)
        subst hA
        have HB := Aside0.mk (fun (X : World) (hX : Below wr.heap.size wr X) => Kd.C_below HC.out (below_step HW.out hX))
        have i1 : decide ((hi : Int) < l.length) = true := decide_eq_true (by omega)
        refine wp_put (fun a0 a' w' => a' = ((((((((((((((((a0.put (some 35) (.int .i64 (hi : Nat))).put (some 36) (.int .i64 (hi : Nat))).put (some 37) (.int .i64 (l.length : Nat))).put (some 38) (.bool true)).put (some 39) (.bool true)).put (some 40) (.func (.func 30) #[] #[])).put (some 41) (.slice (some ad) l.length c)).put (some 42) (.int .i64 (hi : Nat))).put (some 43) (.pointer (some (ad.add (hi * 6))))).put (some 44) (.agg #[.string (at39 l hi).f0, .string (at39 l hi).f1, .int .u64 (at39 l hi).f2.f0, .int .u64 (at39 l hi).f2.f1, .int .u64 (at39 l hi).f2.f2, .int .u64 (at39 l hi).f2.f3])).put (some 45) (.agg #[.string t.f0, .string t.f1, .int .u64 t.f2.f0, .int .u64 t.f2.f1, .int .u64 t.f2.f2, .int .u64 t.f2.f3])).put (some 46) (.int .i64 (ordA (at39 l hi) t.f0 t.f1))).put (some 47) (.bool (ordA (at39 l hi) t.f0 t.f1 == 0))).put (some 48) (.bool (ordA (at39 l hi) t.f0 t.f1 == 0))).put (some 6) (.int .i64 (hi : Nat))).put (some 7) (.bool (ordA (at39 l hi) t.f0 t.f1 == 0))) ∧ Below wr.heap.size wr w') ?hreg ?hnext
        case hreg =>
          refine wp_region_held_drew (S := fun X => Below wr.heap.size wr X) (by kernel_rfl) (below_drew1 (Below.refl _ _)) (fun hHeld => ?_)
          generalize wr.drew = W0 at *
          try simp only [Act.put, List.getElem_toArray, List.getElem_cons_zero, List.getElem_cons_succ, List.setIfInBounds_toArray, List.set_cons_zero, List.set_cons_succ]
          refine wpAnyH_take (i := 0) (v := .int .i64 (hi : Nat)) rfl (by kernel_rfl) (by kernel_rfl) (by kernel_rfl) (fun _ _ _ h => absurd h.1 (by simp)) (.inl ⟨by rfl, fun _ _ => by go_simp⟩) hHeld ?_
          try simp only [Act.put, List.getElem_toArray, List.getElem_cons_zero, List.getElem_cons_succ, List.setIfInBounds_toArray, List.set_cons_zero, List.set_cons_succ]
          refine wpAnyH_take (i := 1) (v := .int .i64 (hi : Nat)) rfl (by kernel_rfl) (by kernel_rfl) (by kernel_rfl) (fun _ _ _ h => absurd h.1 (by simp)) (.inl ⟨by rfl, fun _ _ => by go_simp⟩) hHeld ?_
          try simp only [Act.put, List.getElem_toArray, List.getElem_cons_zero, List.getElem_cons_succ, List.setIfInBounds_toArray, List.set_cons_zero, List.set_cons_succ]
          refine wpAnyH_take (i := 2) (v := .int .i64 (l.length : Nat)) rfl (by kernel_rfl) (by kernel_rfl) (by kernel_rfl) (fun _ _ _ h => absurd h.1 (by simp)) (.inl ⟨by rfl, fun _ _ => by go_simp⟩) hHeld ?_
          try simp only [Act.put, List.getElem_toArray, List.getElem_cons_zero, List.getElem_cons_succ, List.setIfInBounds_toArray, List.set_cons_zero, List.set_cons_succ]
          refine wpAnyH_take (i := 3) (v := .bool true) rfl (by kernel_rfl) (by kernel_rfl) (by kernel_rfl) (fun _ _ _ h => absurd h.1 (by simp)) (.inl ⟨by rfl, fun _ _ => by go_simp⟩) hHeld ?_
          try simp only [Act.put, List.getElem_toArray, List.getElem_cons_zero, List.getElem_cons_succ, List.setIfInBounds_toArray, List.set_cons_zero, List.set_cons_succ]
          refine wpAnyH_take (i := 4) (v := .bool true) rfl (by kernel_rfl) (by kernel_rfl) (by kernel_rfl) (fun _ _ _ h => absurd h.1 (by simp)) (.inl ⟨by rfl, fun _ _ => by go_simp⟩) hHeld ?_
          try simp only [Act.put, List.getElem_toArray, List.getElem_cons_zero, List.getElem_cons_succ, List.setIfInBounds_toArray, List.set_cons_zero, List.set_cons_succ]
          refine wpAnyH_take (i := 5) (v := .func (.func 30) #[] #[]) rfl (by kernel_rfl) (by kernel_rfl) (by kernel_rfl) (fun _ _ _ h => absurd h.1 (by simp)) (.inl ⟨by rfl, fun _ _ => by go_simp⟩) hHeld ?_
          try simp only [Act.put, List.getElem_toArray, List.getElem_cons_zero, List.getElem_cons_succ, List.setIfInBounds_toArray, List.set_cons_zero, List.set_cons_succ]
          refine wpAnyH_take (i := 6) (v := .slice (some ad) l.length c) rfl (by kernel_rfl) (by kernel_rfl) (by kernel_rfl) (fun _ _ _ h => absurd h.1 (by simp)) (.inl ⟨by rfl, fun _ _ => by go_simp⟩) hHeld ?_
          try simp only [Act.put, List.getElem_toArray, List.getElem_cons_zero, List.getElem_cons_succ, List.setIfInBounds_toArray, List.set_cons_zero, List.set_cons_succ]
          refine wpAnyH_take (i := 7) (v := .int .i64 (hi : Nat)) rfl (by kernel_rfl) (by kernel_rfl) (by kernel_rfl) (fun _ _ _ h => absurd h.1 (by simp)) (.inl ⟨by rfl, fun _ _ => by go_simp⟩) hHeld ?_
          try simp only [Act.put, List.getElem_toArray, List.getElem_cons_zero, List.getElem_cons_succ, List.setIfInBounds_toArray, List.set_cons_zero, List.set_cons_succ]
          refine wpAnyH_take (i := 8) (v := .pointer (some (ad.add (hi * 6)))) rfl (by kernel_rfl) (by kernel_rfl) (by kernel_rfl) (fun _ _ _ h => absurd h.1 (by simp)) (.inl ⟨by rfl, fun _ _ => by go_simp⟩) hHeld ?_
          try simp only [Act.put, List.getElem_toArray, List.getElem_cons_zero, List.getElem_cons_succ, List.setIfInBounds_toArray, List.set_cons_zero, List.set_cons_succ]
          refine wpAnyH_take (i := 9) (v := .agg #[.string (at39 l hi).f0, .string (at39 l hi).f1, .int .u64 (at39 l hi).f2.f0, .int .u64 (at39 l hi).f2.f1, .int .u64 (at39 l hi).f2.f2, .int .u64 (at39 l hi).f2.f3]) rfl (by kernel_rfl) (by kernel_rfl) (by kernel_rfl) (fun _ _ _ h => absurd h.1 (by simp)) (.inl ⟨by rfl, fun X' hS => by obtain ⟨b0, b1, b2, b3, b4, b5⟩ := cells6 (HB.out _ hS) hi hm; go_simp⟩) hHeld ?_
          try simp only [Act.put, List.getElem_toArray, List.getElem_cons_zero, List.getElem_cons_succ, List.setIfInBounds_toArray, List.set_cons_zero, List.set_cons_succ]
          refine wpAnyH_take (i := 10) (v := .agg #[.string t.f0, .string t.f1, .int .u64 t.f2.f0, .int .u64 t.f2.f1, .int .u64 t.f2.f2, .int .u64 t.f2.f3]) rfl (by kernel_rfl) (by kernel_rfl) (by kernel_rfl) (fun _ _ _ h => absurd h.1 (by simp)) (.inl ⟨by rfl, fun X' hS => by have hx : Box X' w.heap.size 39 (rowA t) := blk_below HX.out hS; have b0 := hx.cell 0 (.string t.f0) rfl; have b1 := hx.cell 1 (.string t.f1) rfl; have b2 := hx.cell 2 (.int .u64 t.f2.f0) rfl; have b3 := hx.cell 3 (.int .u64 t.f2.f1) rfl; have b4 := hx.cell 4 (.int .u64 t.f2.f2) rfl; have b5 := hx.cell 5 (.int .u64 t.f2.f3) rfl; clear hx; go_simp⟩) hHeld ?_
          try simp only [Act.put, List.getElem_toArray, List.getElem_cons_zero, List.getElem_cons_succ, List.setIfInBounds_toArray, List.set_cons_zero, List.set_cons_succ]
          refine wpAnyH_ready (rs := [11]) (by kernel_rfl) (by simp) ?_
          refine AllReadyH.cons rfl (fun K hK => ?_) AllReadyH.nil
          go_simp
          refine (order_any (at39 l hi) t _).mono ?_
          rintro e X1 ⟨rfl, hb⟩
          refine hK.out _ _ (below_step hHeld hb) (fun hHeld => ?_)
          clear hb hK K
          try simp only [Act.put, List.getElem_toArray, List.getElem_cons_zero, List.getElem_cons_succ, List.setIfInBounds_toArray, List.set_cons_zero, List.set_cons_succ]
          refine wpAnyH_take (i := 12) (v := .bool (ordA (at39 l hi) t.f0 t.f1 == 0)) rfl (by kernel_rfl) (by kernel_rfl) (by kernel_rfl) (fun _ _ _ h => absurd h.1 (by simp)) (.inl ⟨by rfl, fun _ _ => by go_simp⟩) hHeld ?_
          try simp only [Act.put, List.getElem_toArray, List.getElem_cons_zero, List.getElem_cons_succ, List.setIfInBounds_toArray, List.set_cons_zero, List.set_cons_succ]
          refine wpAnyH_take (i := 13) (v := .bool (ordA (at39 l hi) t.f0 t.f1 == 0)) rfl (by kernel_rfl) (by kernel_rfl) (by kernel_rfl) (fun _ _ _ h => absurd h.1 (by simp)) (.inl ⟨by rfl, fun _ _ => by go_simp⟩) hHeld ?_
          try simp only [Act.put, List.getElem_toArray, List.getElem_cons_zero, List.getElem_cons_succ, List.setIfInBounds_toArray, List.set_cons_zero, List.set_cons_succ]
          refine wpAnyH_take (i := 14) (v := .int .i64 (hi : Nat)) rfl (by kernel_rfl) (by kernel_rfl) (by kernel_rfl) (fun _ _ _ h => absurd h.1 (by simp)) (.inl ⟨by rfl, fun _ _ => by go_simp⟩) hHeld ?_
          try simp only [Act.put, List.getElem_toArray, List.getElem_cons_zero, List.getElem_cons_succ, List.setIfInBounds_toArray, List.set_cons_zero, List.set_cons_succ]
          refine wpAnyH_take (i := 15) (v := .bool (ordA (at39 l hi) t.f0 t.f1 == 0)) rfl (by kernel_rfl) (by kernel_rfl) (by kernel_rfl) (fun _ _ _ h => absurd h.1 (by simp)) (.inl ⟨by rfl, fun _ _ => by go_simp⟩) hHeld ?_
          try simp only [Act.put, List.getElem_toArray, List.getElem_cons_zero, List.getElem_cons_succ, List.setIfInBounds_toArray, List.set_cons_zero, List.set_cons_succ]
          refine wpAnyH_done (by kernel_rfl) ?_ _
          refine ⟨rfl, ?_, hHeld⟩
          try rfl
        case hnext =>
          rintro _ w4 ⟨rfl, hb4⟩
          try simp only [Act.put, List.getElem_toArray, List.getElem_cons_zero, List.getElem_cons_succ, List.setIfInBounds_toArray, List.set_cons_zero, List.set_cons_succ]
          have HW4 := Aside0.mk (below_step HW.out hb4)
          clear hb4 HB HW HX
          go_wp2_with fail
          refine bodyPost_ret (v := .tuple #[.int .i64 (hi : Nat), .bool (ordA (at39 l hi) t.f0 t.f1 == 0)]) (by simp [results, Try.results40, go_sem]) rfl ⟨hi, HPL.out, ?_, HW4.out⟩
          congr 4
          by_cases hz : ordA (at39 l hi) t.f0 t.f1 = 0 <;> simp [isAt, hm, hz]
      · have i1 : decide ((hi : Int) < l.length) = false := decide_eq_false (by omega)
        refine wp_put (fun a0 a' w' => a' = ((((((((((((((((a0.put (some 35) (.int .i64 (hi : Nat))).put (some 36) (.int .i64 (hi : Nat))).put (some 37) (.int .i64 (l.length : Nat))).put (some 38) (.bool false)).put (some 39) (.bool false)).put (some 40) (undef)).put (some 41) (undef)).put (some 42) (undef)).put (some 43) (undef)).put (some 44) (undef)).put (some 45) (undef)).put (some 46) (undef)).put (some 47) (undef)).put (some 48) (.bool false)).put (some 6) (.int .i64 (hi : Nat))).put (some 7) (.bool false)) ∧ Below wr.heap.size wr w') ?hreg ?hnext
        case hreg =>
          refine wp_region_held_drew (S := fun X => Below wr.heap.size wr X) (by kernel_rfl) (below_drew1 (Below.refl _ _)) (fun hHeld => ?_)
          generalize wr.drew = W0 at *
          try simp only [Act.put, List.getElem_toArray, List.getElem_cons_zero, List.getElem_cons_succ, List.setIfInBounds_toArray, List.set_cons_zero, List.set_cons_succ]
          refine wpAnyH_take (i := 0) (v := .int .i64 (hi : Nat)) rfl (by kernel_rfl) (by kernel_rfl) (by kernel_rfl) (fun _ _ _ h => absurd h.1 (by simp)) (.inl ⟨by rfl, fun _ _ => by go_simp⟩) hHeld ?_
          try simp only [Act.put, List.getElem_toArray, List.getElem_cons_zero, List.getElem_cons_succ, List.setIfInBounds_toArray, List.set_cons_zero, List.set_cons_succ]
          refine wpAnyH_take (i := 1) (v := .int .i64 (hi : Nat)) rfl (by kernel_rfl) (by kernel_rfl) (by kernel_rfl) (fun _ _ _ h => absurd h.1 (by simp)) (.inl ⟨by rfl, fun _ _ => by go_simp⟩) hHeld ?_
          try simp only [Act.put, List.getElem_toArray, List.getElem_cons_zero, List.getElem_cons_succ, List.setIfInBounds_toArray, List.set_cons_zero, List.set_cons_succ]
          refine wpAnyH_take (i := 2) (v := .int .i64 (l.length : Nat)) rfl (by kernel_rfl) (by kernel_rfl) (by kernel_rfl) (fun _ _ _ h => absurd h.1 (by simp)) (.inl ⟨by rfl, fun _ _ => by go_simp⟩) hHeld ?_
          try simp only [Act.put, List.getElem_toArray, List.getElem_cons_zero, List.getElem_cons_succ, List.setIfInBounds_toArray, List.set_cons_zero, List.set_cons_succ]
          refine wpAnyH_take (i := 3) (v := .bool false) rfl (by kernel_rfl) (by kernel_rfl) (by kernel_rfl) (fun _ _ _ h => absurd h.1 (by simp)) (.inl ⟨by rfl, fun _ _ => by go_simp⟩) hHeld ?_
          try simp only [Act.put, List.getElem_toArray, List.getElem_cons_zero, List.getElem_cons_succ, List.setIfInBounds_toArray, List.set_cons_zero, List.set_cons_succ]
          refine wpAnyH_take (i := 4) (v := .bool false) rfl (by kernel_rfl) (by kernel_rfl) (by kernel_rfl) (fun _ _ _ h => absurd h.1 (by simp)) (.inl ⟨by rfl, fun _ _ => by go_simp⟩) hHeld ?_
          try simp only [Act.put, List.getElem_toArray, List.getElem_cons_zero, List.getElem_cons_succ, List.setIfInBounds_toArray, List.set_cons_zero, List.set_cons_succ]
          refine wpAnyH_take (i := 5) (v := undef) rfl (by kernel_rfl) (by kernel_rfl) (by kernel_rfl) (fun _ _ _ h => absurd h.1 (by simp)) (.inr ⟨by rfl, rfl⟩) hHeld ?_
          try simp only [Act.put, List.getElem_toArray, List.getElem_cons_zero, List.getElem_cons_succ, List.setIfInBounds_toArray, List.set_cons_zero, List.set_cons_succ]
          refine wpAnyH_take (i := 6) (v := undef) rfl (by kernel_rfl) (by kernel_rfl) (by kernel_rfl) (fun _ _ _ h => absurd h.1 (by simp)) (.inr ⟨by rfl, rfl⟩) hHeld ?_
          try simp only [Act.put, List.getElem_toArray, List.getElem_cons_zero, List.getElem_cons_succ, List.setIfInBounds_toArray, List.set_cons_zero, List.set_cons_succ]
          refine wpAnyH_take (i := 7) (v := undef) rfl (by kernel_rfl) (by kernel_rfl) (by kernel_rfl) (fun _ _ _ h => absurd h.1 (by simp)) (.inr ⟨by rfl, rfl⟩) hHeld ?_
          try simp only [Act.put, List.getElem_toArray, List.getElem_cons_zero, List.getElem_cons_succ, List.setIfInBounds_toArray, List.set_cons_zero, List.set_cons_succ]
          refine wpAnyH_take (i := 8) (v := undef) rfl (by kernel_rfl) (by kernel_rfl) (by kernel_rfl) (fun _ _ _ h => absurd h.1 (by simp)) (.inr ⟨by rfl, rfl⟩) hHeld ?_
          try simp only [Act.put, List.getElem_toArray, List.getElem_cons_zero, List.getElem_cons_succ, List.setIfInBounds_toArray, List.set_cons_zero, List.set_cons_succ]
          refine wpAnyH_take (i := 9) (v := undef) rfl (by kernel_rfl) (by kernel_rfl) (by kernel_rfl) (fun _ _ _ h => absurd h.1 (by simp)) (.inr ⟨by rfl, rfl⟩) hHeld ?_
          try simp only [Act.put, List.getElem_toArray, List.getElem_cons_zero, List.getElem_cons_succ, List.setIfInBounds_toArray, List.set_cons_zero, List.set_cons_succ]
          refine wpAnyH_take (i := 10) (v := undef) rfl (by kernel_rfl) (by kernel_rfl) (by kernel_rfl) (fun _ _ _ h => absurd h.1 (by simp)) (.inr ⟨by rfl, rfl⟩) hHeld ?_
          try simp only [Act.put, List.getElem_toArray, List.getElem_cons_zero, List.getElem_cons_succ, List.setIfInBounds_toArray, List.set_cons_zero, List.set_cons_succ]
          refine wpAnyH_take (i := 11) (v := undef) rfl (by kernel_rfl) (by kernel_rfl) (by kernel_rfl) (fun _ _ _ h => absurd h.1 (by simp)) (.inr ⟨by rfl, rfl⟩) hHeld ?_
          try simp only [Act.put, List.getElem_toArray, List.getElem_cons_zero, List.getElem_cons_succ, List.setIfInBounds_toArray, List.set_cons_zero, List.set_cons_succ]
          refine wpAnyH_take (i := 12) (v := undef) rfl (by kernel_rfl) (by kernel_rfl) (by kernel_rfl) (fun _ _ _ h => absurd h.1 (by simp)) (.inr ⟨by rfl, rfl⟩) hHeld ?_
          try simp only [Act.put, List.getElem_toArray, List.getElem_cons_zero, List.getElem_cons_succ, List.setIfInBounds_toArray, List.set_cons_zero, List.set_cons_succ]
          refine wpAnyH_take (i := 13) (v := .bool false) rfl (by kernel_rfl) (by kernel_rfl) (by kernel_rfl) (fun _ _ _ h => absurd h.1 (by simp)) (.inl ⟨by rfl, fun _ _ => by go_simp⟩) hHeld ?_
          try simp only [Act.put, List.getElem_toArray, List.getElem_cons_zero, List.getElem_cons_succ, List.setIfInBounds_toArray, List.set_cons_zero, List.set_cons_succ]
          refine wpAnyH_take (i := 14) (v := .int .i64 (hi : Nat)) rfl (by kernel_rfl) (by kernel_rfl) (by kernel_rfl) (fun _ _ _ h => absurd h.1 (by simp)) (.inl ⟨by rfl, fun _ _ => by go_simp⟩) hHeld ?_
          try simp only [Act.put, List.getElem_toArray, List.getElem_cons_zero, List.getElem_cons_succ, List.setIfInBounds_toArray, List.set_cons_zero, List.set_cons_succ]
          refine wpAnyH_take (i := 15) (v := .bool false) rfl (by kernel_rfl) (by kernel_rfl) (by kernel_rfl) (fun _ _ _ h => absurd h.1 (by simp)) (.inl ⟨by rfl, fun _ _ => by go_simp⟩) hHeld ?_
          try simp only [Act.put, List.getElem_toArray, List.getElem_cons_zero, List.getElem_cons_succ, List.setIfInBounds_toArray, List.set_cons_zero, List.set_cons_succ]
          refine wpAnyH_done (by kernel_rfl) ?_ _
          refine ⟨rfl, ?_, hHeld⟩
          try rfl
        case hnext =>
          rintro _ w4 ⟨rfl, hb4⟩
          try simp only [Act.put, List.getElem_toArray, List.getElem_cons_zero, List.getElem_cons_succ, List.setIfInBounds_toArray, List.set_cons_zero, List.set_cons_succ]
          have HW4 := Aside0.mk (below_step HW.out hb4)
          clear hb4 HW HX
          go_wp2_with fail
          refine bodyPost_ret (v := .tuple #[.int .i64 (hi : Nat), .bool false]) (by simp [results, Try.results40, go_sem]) rfl ⟨hi, HPL.out, ?_, HW4.out⟩
          simp [isAt, hm]
set_option maxRecDepth 100000 in
set_option maxHeartbeats 4000000 in
theorem place_any (l : List S39) (hup : Up l) (t : S39) (A : Option Addr) (c : Nat) (w : World) (hC : Kd.C k39 w A l.length l) (hlen : l.length ≤ c) (hl1 : l.length ≤ 100000) :
    Calls Try.prog 33 #[.slice A l.length c, .agg (rowA t), .func (.func 30) #[] #[]] w fun e w' =>
      ∃ k, Place l t.f0 t.f1 k ∧ e = .returned (.tuple #[.int .i64 (k : Nat), .bool (isAt l t.f0 t.f1 k)]) ∧ Below w.heap.size w w' := by
  have HT := Aside0.mk (And.intro (show Box (w.alloc (.cells (rowA t) 39)) w.heap.size 39 (rowA t) from blk_new w _) (below_alloc (Below.refl w.heap.size w) (.cells (rowA t) 39)))
  have Hi39 := Aside0.mk (show (Try.prog.info? 39).map (·.size) = some 6 by kernel_rfl)
  go_enter Try.func33, Try.ntmps33
  go_wp2_with (refine load_cs rfl 39 _ rfl w.heap.size rfl 39 (rowA t) _ HT.out.1 Try.underlying39 rfl Hi39.out ?_)
  refine (search_any l hup t A c _ (Kd.C_below hC HT.out.2) hlen hl1).mono ?_
  rintro e w1 ⟨k, hk, rfl, hb⟩
  have HW := Aside0.mk (below_step HT.out.2 hb)
  clear hb
  go_wp2_with fail
  exact bodyPost_ret (v := .tuple #[.int .i64 (k : Nat), .bool (isAt l t.f0 t.f1 k)]) (by simp [results, Try.results33, go_sem]) rfl ⟨k, hk, rfl, HW.out⟩
end Go.Proofs.Ytnedmaddjikmkaa.P

namespace Go.Proofs.Ytnedmaddjikmkaa.P
set_option linter.unusedVariables false
set_option linter.unusedSimpArgs false
open Go.RowKit Go.Shelf Go.Proofs.YtnedmaddjikmkaaW.PrintWords
attribute [local go_sem] Oper.semAt_some
/-! How much an address has. -/
def a4 (x : S25) : Array Value := #[.int .u64 x.f0, .int .u64 x.f1, .int .u64 x.f2, .int .u64 x.f3]
def keyA (b0 b1 : ByteArray) : S39 := ⟨b0, b1, z25⟩
def getA (l : List S39) (b0 b1 : ByteArray) (k : Nat) : S25 := if isAt l b0 b1 k = true then (at39 l k).f2 else z25
theorem ret_cs {P : Program} {fn : Func} {p : Tmp} {ty : TypeId} {d : TypeDesc} (h : fn.results = #[.cell p ty]) (a : Act) (w : World) (g : Nat) (t : TypeId) (cs : Array Value)
    (hp : a.tmps.getD p undef = .pointer (some ⟨g, 0, none⟩)) (hK : Box w g t cs) (hu : P.underlying ty = some d) (hd : (match d with | .struct _ | .array _ _ => true | _ => false) = true) (hi : (P.info? ty).map (·.size) = some cs.size)
    {Q : Ending → World → Prop} (hd0 : a.defers = []) (hQ : Q (.returned (.agg cs)) w) : bodyPost P fn Q .ret a w :=
  bodyPost_ret (results_cell_row h _ _ g t cs (0, 0) d hp hK hu hd hi) hd0 hQ
set_option maxRecDepth 100000 in
set_option maxHeartbeats 4000000 in
theorem get_any (l : List S39) (hup : Up l) (b0 b1 : ByteArray) (A : Option Addr) (c : Nat) (w : World) (hC : Kd.C k39 w A l.length l) (hlen : l.length ≤ c) (hl1 : l.length ≤ 100000) :
    Calls Try.prog 21 #[.slice A l.length c, .string b0, .string b1] w fun e w' =>
      ∃ k, Place l b0 b1 k ∧ e = .returned (.agg (a4 (getA l b0 b1 k))) ∧ Below w.heap.size w w' := by
  have hu25 := Try.underlying25
  have HT := Aside0.mk (And.intro (show Box (w.alloc (.cells (a4 z25) 25)) w.heap.size 25 (a4 z25) from blk_new w _) (below_alloc (Below.refl w.heap.size w) (.cells (a4 z25) 25)))
  have Hi25 := Aside0.mk (show (Try.prog.info? 25).map (·.size) = some 4 by kernel_rfl)
  have HC := Aside0.mk hC
  clear hC
  go_enter Try.func21, Try.ntmps21
  go_wp2_with fail
  refine (place_any l hup (keyA b0 b1) A c _ (Kd.C_below HC.out HT.out.2) hlen hl1).mono ?_
  rintro e w1 ⟨k, hk, rfl, hb⟩
  have HW := Aside0.mk (below_step HT.out.2 hb)
  have HX := Aside0.mk (show Box w1 w.heap.size 25 (a4 z25) from blk_below HT.out.1 hb)
  have HK := Aside0.mk (show Place l b0 b1 k from hk)
  clear hb hk
  have HG := Aside0.mk (show getA l b0 b1 k = if isAt l (keyA b0 b1).f0 (keyA b0 b1).f1 k = true then (at39 l k).f2 else z25 from rfl)
  cases hf : isAt l (keyA b0 b1).f0 (keyA b0 b1).f1 k
  · rw [hf, if_neg (by simp)] at HG
    go_wp2_with (refine store_cs rfl 25 _ _ rfl w.heap.size rfl 25 (a4 z25) (a4 z25) rfl HX.out rfl Hi25.out (by simp [a4, Value.oneCell']) ?_)
    intro w2 h2 hbut hs2
    have HW2 := Aside0.mk (But.below HW.out hbut (Nat.le_refl _) (Nat.le_refl _))
    clear hbut hs2
    go_wp2_with fail
    exact ret_cs rfl _ _ w.heap.size 25 (a4 z25) rfl h2 Try.underlying25 rfl Hi25.out rfl ⟨k, HK.out, by rw [HG.out], HW2.out⟩
  · rw [hf, if_pos rfl] at HG
    have hlt : k < l.length := by
      have := hf
      simp only [isAt, Bool.and_eq_true, decide_eq_true_eq] at this
      exact this.1
    obtain ⟨ad, hA, _⟩ := HC.out.2.2 (by omega)
    subst hA
    obtain ⟨b0', b1', b2, b3, b4, b5⟩ := cells6 (Kd.C_below HC.out HW.out) k hlt
    have i1 : decide ((k : Int) < l.length) = true := decide_eq_true (by omega)
    go_wp2_with (refine store_cs rfl 25 _ _ rfl w.heap.size rfl 25 (a4 z25) (a4 (at39 l k).f2) rfl HX.out rfl Hi25.out (by simp [a4, Value.oneCell']) ?_)
    intro w2 h2 hbut hs2
    have HW2 := Aside0.mk (But.below HW.out hbut (Nat.le_refl _) (Nat.le_refl _))
    clear hbut hs2 b0' b1' b2 b3 b4 b5
    go_wp2_with fail
    exact ret_cs rfl _ _ w.heap.size 25 (a4 (at39 l k).f2) rfl h2 Try.underlying25 rfl Hi25.out rfl ⟨k, HK.out, by rw [HG.out], HW2.out⟩
end Go.Proofs.Ytnedmaddjikmkaa.P

namespace Go.Proofs.Ytnedmaddjikmkaa.P
set_option linter.unusedVariables false
set_option linter.unusedSimpArgs false
open Go.RowKit Go.Shelf Go.Proofs.YtnedmaddjikmkaaW.PrintWords
theorem own_but {W W' : World} {base : Nat} {e : TypeId} {size n : Nat} {v : Value} {xs : List Value} (h : W.ownsRow base e size v n xs) {g : Nat} (hb : But g W W') (hg : g < base) : W'.ownsRow base e size v n xs := by
  refine own_move h fun k hk => hb.block k (own_lt h k hk) ?_
  have := own_base h k hk
  omega
/-- A cell of a row that is owned is written. -/
theorem own_write {W : World} {base : Nat} {e : TypeId} {size n g cap : Nat} {xs : List Value} (h : W.ownsRow base e size (.slice (some ⟨g, 0, none⟩) n cap) n xs) (k : Nat) (u : Value) :
    (W.setCell ⟨g, k, none⟩ u).ownsRow base e size (.slice (some ⟨g, 0, none⟩) n cap) n (xs.set k u) := by
  obtain ⟨h1, h2 | ⟨g', cap', cur, e1, hb, hg, hc, hm, hs, ht⟩⟩ := h
  · cases h2.1
  · injection e1 with e1 _ e3
    injection e1 with e1
    injection e1 with e1 _ _
    subst e1 e3
    refine ⟨by rw [List.length_set, h1], .inr ⟨g, cap, cur.setIfInBounds k u, rfl, hb, blk_set hg k u, hc, hm, by rw [Array.size_setIfInBounds, hs], ?_⟩⟩
    rw [Array.toList_setIfInBounds, List.take_set, ht]
theorem own_cell {W : World} {base : Nat} {e : TypeId} {size n g cap : Nat} {xs : List Value} (h : W.ownsRow base e size (.slice (some ⟨g, 0, none⟩) n cap) n xs) (k : Nat) (u : Value) (hk : xs[k]? = some u) :
    W.cell? ⟨g, k, none⟩ = some u ∧ W.frozen? ⟨g, k, none⟩ = false := by
  obtain ⟨h1, h2 | ⟨g', cap', cur, e1, hb, hg, hc, hm, hs, ht⟩⟩ := h
  · cases h2.1
  · injection e1 with e1 _ e3
    injection e1 with e1
    injection e1 with e1 _ _
    subst e1 e3
    refine ⟨(blk_cell hg k).trans ?_, blk_frozen hg k⟩
    rw [← ht] at hk
    rw [← Array.getElem?_toList]
    rw [List.getElem?_take] at hk
    split at hk
    · exact hk
    · cases hk
def wl (L : List W64) : List Value := L.map fun b => Value.int .u64 (vw b)
theorem wl_eq (L : List W64) : (wl L).toArray = ws L := rfl
theorem range_of {W : World} {g : Nat} {t : TypeId} {L : List W64} (h : Holds W g t L) : W.rangeAt g 0 (wl L) := by
  intro j v hv
  rw [Nat.zero_add]
  have hj : j < L.length := by
    have := (List.getElem?_eq_some_iff.1 hv).1
    simpa [wl] using this
  rw [h.cell j hj]
  simp only [wl, List.getElem?_map, List.getElem?_eq_getElem hj] at hv
  simp only [gw, List.getD, List.getElem?_eq_getElem hj]
  simpa using hv
def cells39 (l : List S39) : List Value := l.flatMap fun a => (rowA a).toList
theorem cells39_len (l : List S39) : (cells39 l).length = l.length * 6 := by
  induction l with
  | nil => rfl
  | cons a l ih => rw [cells39, List.flatMap_cons, List.length_append]; show 6 + (cells39 l).length = _; rw [ih, List.length_cons]; omega
theorem cells39_get (l : List S39) : ∀ (j : Nat) (u : Value), (cells39 l)[j]? = some u → ∃ q i p, j = q * 6 + i ∧ l[q]? = some p ∧ (rowA p).toList[i]? = some u := by
  induction l with
  | nil => intro j u h; simp [cells39] at h
  | cons a l ih =>
    intro j u h
    rw [show cells39 (a :: l) = (rowA a).toList ++ cells39 l by rfl] at h
    by_cases hj : j < 6
    · rw [List.getElem?_append_left (by exact hj)] at h
      exact ⟨0, j, a, by omega, rfl, h⟩
    · rw [List.getElem?_append_right (by show 6 ≤ j; omega)] at h
      obtain ⟨q, i, p, h1, h2, h3⟩ := ih _ _ h
      exact ⟨q + 1, i, p, by have : (rowA a).toList.length = 6 := rfl; omega, h2, h3⟩
theorem news39 {w : World} {ad : Addr} {l : List S39} (hC : Kd.C k39 w (some ad) l.length l) (j : Nat) (u : Value) (h : (cells39 l)[j]? = some u) : w.cell? (ad.add j) = some u := by
  obtain ⟨q, i, p, rfl, h2, h3⟩ := cells39_get l j u h
  have hq := (List.getElem?_eq_some_iff.1 h2).1
  obtain ⟨ad', e, hc⟩ := hC.2.2 (by omega)
  obtain rfl := Option.some.inj e
  obtain ⟨c, hl, hr, hcell⟩ := hc q p h2
  rw [k39_open hr] at hcell
  exact hcell i u h3
theorem one39 (l : List S39) : ∀ u ∈ cells39 l, u.oneCell' = true := by
  intro u hu
  obtain ⟨a, _, h⟩ := List.mem_flatMap.1 hu
  simp [rowA] at h
  rcases h with h | h | h | h | h | h <;> subst h <;> rfl
theorem info39_6 : (Try.prog.info? 39).map (fun i => (i.zero, i.size, i.bytes)) = some (some (.agg #[.string ByteArray.empty, .string ByteArray.empty, .int .u64 0, .int .u64 0, .int .u64 0, .int .u64 0]), 6, 64) := by kernel_rfl
theorem cells39_at (L1 L2 : List S39) (a : S39) (i : Nat) (u : Value) (h : (rowA a).toList[i]? = some u) : (cells39 (L1 ++ a :: L2))[L1.length * 6 + i]? = some u := by
  have hl := cells39_len L1
  have hi : i < (rowA a).toList.length := (List.getElem?_eq_some_iff.1 h).1
  rw [show cells39 (L1 ++ a :: L2) = cells39 L1 ++ ((rowA a).toList ++ cells39 L2) by simp [cells39], List.getElem?_append_right (by omega), hl, Nat.add_sub_cancel_left, List.getElem?_append_left hi]
  exact h
theorem set_four {W : World} {g : Nat} {L H : List W64} (hL : L.length = 4) (hH : H.length = 4) (h : Holds W g 25 L) :
    Holds ((((W.setCell ⟨g, 0, none⟩ (.int .u64 (vw (gw H 0)))).setCell ⟨g, 1, none⟩ (.int .u64 (vw (gw H 1)))).setCell ⟨g, 2, none⟩ (.int .u64 (vw (gw H 2)))).setCell ⟨g, 3, none⟩ (.int .u64 (vw (gw H 3)))) g 25 H := by
  have := (((h.set 0 (gw H 0)).set 1 (gw H 1)).set 2 (gw H 2)).set 3 (gw H 3)
  obtain ⟨a, b, c, d, rfl⟩ := four L hL
  obtain ⟨a', b', c', d', rfl⟩ := four H hH
  exact this
theorem own_below {W W' : World} {base : Nat} {e : TypeId} {size n : Nat} {v : Value} {xs : List Value} (h : W.ownsRow base e size v n xs) (hb : Below W.heap.size W W') : W'.ownsRow base e size v n xs :=
  own_move h fun k hk => hb.block k (own_lt h k hk)
theorem own_set {W : World} {base : Nat} {e : TypeId} {size n : Nat} {v : Value} {xs : List Value} (h : W.ownsRow base e size v n xs) {g t k : Nat} {cs : Array Value} (hb : Box W g t cs) (ht : t ≠ e) (u : Value) : (W.setCell ⟨g, k, none⟩ u).ownsRow base e size v n xs := by
  refine own_move h fun j hj => Below.heap_setCell _ _ _ _ ?_
  rintro rfl
  obtain ⟨cells, hc⟩ := own_typed h _ hj
  have := (show W.heap[_]? = _ from hb).symm.trans hc
  injection this with this
  injection this with _ h2
  exact ht h2
theorem ne_types {W : World} {g g' t t' : Nat} {cs cs' : Array Value} (h : Box W g t cs) (h' : Box W g' t' cs') (ht : t ≠ t') : g ≠ g' := by
  rintro rfl
  have := (show W.heap[_]? = _ from h).symm.trans h'
  injection this with this
  injection this with _ h2
  exact ht h2
theorem own_slice {W : World} {base : Nat} {e : TypeId} {size n : Nat} {v : Value} {xs : List Value} (h : W.ownsRow base e size v n xs) : ∃ A c, v = .slice A n c := by
  rcases h.2 with ⟨rfl, rfl⟩ | ⟨g, cap, cur, rfl, _⟩
  · exact ⟨none, 0, rfl⟩
  · exact ⟨_, _, rfl⟩
theorem but_set4 (W : World) (g a : Nat) (u0 u1 u2 u3 : Value) : But g W ((((W.setCell ⟨g, a, none⟩ u0).setCell ⟨g, a + 1, none⟩ u1).setCell ⟨g, a + 2, none⟩ u2).setCell ⟨g, a + 3, none⟩ u3) := by
  have st : ∀ (X : World) (k : Nat) (u : Value), But g X (X.setCell ⟨g, k, none⟩ u) := fun X k u => ⟨rfl, rfl, rfl, by simp, fun i _ hn => Below.heap_setCell _ _ _ i hn⟩
  exact (((st _ _ _).trans (st _ _ _)).trans (st _ _ _)).trans (st _ _ _)
theorem But.drew {g : Nat} {A B : World} (h : But g A B) : But g A B.drew := ⟨h.os, h.tape, h.output, h.size, h.block⟩
theorem own_away {W W' : World} {base : Nat} {e : TypeId} {size n : Nat} {v : Value} {xs : List Value} (h : W.ownsRow base e size v n xs) {g t : Nat} {cs : Array Value} (hb : Box W g t cs) (ht : t ≠ e) (hbut : But g W W') : W'.ownsRow base e size v n xs := by
  refine own_move h fun j hj => hbut.block j (own_lt h j hj) ?_
  rintro rfl
  obtain ⟨cells, hc⟩ := own_typed h _ hj
  have := (show W.heap[_]? = _ from hb).symm.trans hc
  injection this with this
  injection this with _ h2
  exact ht h2
theorem own_box {W : World} {base : Nat} {e : TypeId} {size n g cap : Nat} {xs : List Value} (h : W.ownsRow base e size (.slice (some ⟨g, 0, none⟩) n cap) n xs) : ∃ cs, Box W g e cs := by
  obtain ⟨cells, hc⟩ := own_typed h g rfl
  exact ⟨cells, hc⟩
theorem ne_types' {W : World} {g g' t t' : Nat} {cs : Array Value} (h : Box W g t cs) (h' : ∃ cs', Box W g' t' cs') (ht : t ≠ t') : g ≠ g' := h'.elim fun _ h2 => ne_types h h2 ht
theorem keeps_of_box {g : Nat} {A B : World} {t : TypeId} (h : But g A B) (hc : ∃ cs, Box A g t cs) : KeepsOthers A B := by
  obtain ⟨cs, hc⟩ := hc
  refine ⟨h.size, fun k o hk ho => (h.block k (Array.getElem?_eq_some_iff.1 hk).1 ?_).trans hk⟩
  rintro rfl
  have := (show A.heap[_]? = _ from hc).symm.trans hk
  injection this with this
  subst this
  cases ho
theorem But.of_types {g g' : Nat} {A B : World} {t t' : TypeId} {cs : Array Value} (h : But g A B) (hc : ∃ cs, Box A g t cs) (hb : Box A g' t' cs) (ht : t' ≠ t) : Box B g' t' cs := h.box hb (ne_types' hb hc ht)
theorem four_alloc (w : World) (a b c d : Obj) : ((((w.alloc a).alloc b).alloc c).alloc d).heap[w.heap.size]? = some a ∧ ((((w.alloc a).alloc b).alloc c).alloc d).heap[w.heap.size + 1]? = some b ∧ ((((w.alloc a).alloc b).alloc c).alloc d).heap[w.heap.size + 1 + 1]? = some c ∧
    ((((w.alloc a).alloc b).alloc c).alloc d).heap[w.heap.size + 1 + 1 + 1]? = some d ∧ Below w.heap.size w ((((w.alloc a).alloc b).alloc c).alloc d) := by
  obtain ⟨h1, h2, h3, h4⟩ := three w a b c
  refine ⟨blk_alloc h1 d, blk_alloc h2 d, blk_alloc h3 d, ?_, below_alloc h4 d⟩
  simpa using blk_new (((w.alloc a).alloc b).alloc c) d
theorem reps39 (w : World) (base : Nat) (ok : Nat → Prop) (l : List S39) : Reps (k39.M w base ok) 6 l (cells39 l) := by
  refine ⟨cells39_len l, fun j p hp => ?_⟩
  have hj := (List.getElem?_eq_some_iff.1 hp).1
  have hs : l = l.take j ++ p :: l.drop (j + 1) := by
    rw [← (List.getElem?_eq_some_iff.1 hp).2, ← List.drop_eq_getElem_cons hj, List.take_append_drop]
  have hc : cells39 l = cells39 (l.take j) ++ ((rowA p).toList ++ cells39 (l.drop (j + 1))) := by
    conv => lhs; rw [hs]
    simp [cells39]
  have hl : (cells39 (l.take j)).length = j * 6 := by rw [cells39_len, List.length_take]; congr 1; omega
  rw [hc, List.drop_append_of_le_length (by omega), List.drop_of_length_le (by omega), List.nil_append, List.take_append_of_le_length (by show 6 ≤ 6; omega), List.take_of_length_le (by show 6 ≤ 6; omega)]
  exact k39_mkM w base ok p
theorem R_of_cells39 {w : World} {base : Nat} {v : Value} {l : List S39} (h : w.ownsRow base 39 6 v l.length (cells39 l)) (ok : Nat → Prop) (hok : ∀ k, v.ownBlock = some k → ok k) : Kd.R k39 39 w base ok v l :=
  ⟨hok, cells39 l, h, reps39 w base _ l⟩
theorem at39_mem {l : List S39} {k : Nat} (hk : k < l.length) : at39 l k ∈ l := by simp only [at39, List.getD_eq_getElem?_getD, List.getElem?_eq_getElem hk, Option.getD_some]; exact List.getElem_mem hk
theorem at39_get {l : List S39} {k : Nat} (hk : k < l.length) : at39 l k = l[k] := by simp [at39, List.getD_eq_getElem?_getD, List.getElem?_eq_getElem hk]
end Go.Proofs.Ytnedmaddjikmkaa.P

namespace Go.Proofs.Ytnedmaddjikmkaa.P
set_option linter.unusedVariables false
set_option linter.unusedSimpArgs false
open Go.RowKit Go.Shelf Go.Proofs.YtnedmaddjikmkaaW.PrintWords
theorem run_eql_nil (W : World) (t e : TypeId) (h : Try.prog.underlying t = some (.slice e)) (A : Option Addr) (n c : Nat) : (binOp .eql t (.slice A n c) (.slice none 0 0)).run Try.prog W = .ok (.bool A.isNone) W := by
  simp [binOp, run_equal_slice_nil W t e A n c h, Result.andThen]
set_option maxHeartbeats 1000000 in
theorem clone_any (A : Option Addr) (c : Nat) (l : List S39) (w : World) (hC : Kd.C k39 w A l.length l) (hc : l.length ≤ c) (hl : l.length ≤ 1000) :
    Calls Try.prog 34 #[.slice A l.length c] w fun e w' => ∃ v, e = .returned v ∧ w'.ownsRow w.heap.size 39 6 v l.length (cells39 l) ∧ Below w.heap.size w w' := by
  have hlen := cells39_len l
  obtain ⟨i0, hi, hz0, hz1, hz2⟩ := info_parts info39_6
  have HIN := Aside0.mk (And.intro hi (And.intro hz0 (And.intro hz1 hz2)))
  obtain ⟨n, hn⟩ : ∃ n, l.length = n := ⟨_, rfl⟩
  have HC := Aside0.mk hC
  have HLN := Aside0.mk hlen
  have HN := Aside0.mk hn
  rw [hn] at HC HLN ⊢
  have hn1 : n ≤ 1000 := by omega
  have heq := fun W => run_eql_nil W 22 39 Try.underlying22 A n c
  clear hi hz0 hz1 hz2 hC hlen hc hl
  cases A with
  | none =>
    have h0 : l = [] := by
      rcases l with _ | ⟨a, l⟩
      · rfl
      · obtain ⟨ad, h, _⟩ := HC.out.2.2 (by have := HN.out; simp at this; omega)
        cases h
    have HZ := Aside0.mk h0
    clear h0 hn
    go_enter Try.func34, Try.ntmps34
    go_wp2
    refine bodyPost_ret (v := .slice none 0 0) (by simp [results, Try.results34, go_sem]) rfl ⟨_, rfl, ?_, Below.refl _ _⟩
    have : n = 0 := by rw [← HN.out, HZ.out]; rfl
    rw [this, HZ.out]
    exact World.ownsRow_nil _ _ _ _
  | some ad =>
    clear hn
    have hown : (w.alloc (.cells #[] 39)).ownsRow w.heap.size 39 6 (.slice (some ⟨w.heap.size, 0, none⟩) 0 0) 0 [] :=
      ⟨rfl, .inr ⟨w.heap.size, 0, #[], rfl, Nat.le_refl _, blk_new w _, Nat.le_refl _, by decide, rfl, rfl⟩⟩
    have hb := below_alloc (Below.refl w.heap.size w) (.cells #[] 39)
    have HO := Aside0.mk (And.intro hown hb)
    clear hown hb
    go_enter Try.func34, Try.ntmps34
    go_wp2_with (at_builtin; refine wpList_append_own (w.alloc (.cells #[] 39)) rfl _ _ 22 rfl w.heap.size 39 i0 (.agg #[.string ByteArray.empty, .string ByteArray.empty, .int .u64 0, .int .u64 0, .int .u64 0, .int .u64 0]) 6 64 Try.underlying22 HIN.out.1 HIN.out.2.1 HIN.out.2.2.1 HIN.out.2.2.2 rfl (by decide) _ 0 [] rfl HO.out.1 ad n c (cells39 l) rfl HLN.out ?c1 (one39 l) ?c3 ?c4 ?c5 ?_)
    case c1 => intro j u hu; exact news39 (Kd.C_below (by rw [HN.out]; exact HC.out) HO.out.2) j u hu
    case c3 => show 0 + n ≤ 9223372036854775807; omega
    case c4 => omega
    case c5 => simp
    intro v' w' hown hgr _
    have hbel : Below w.heap.size w w' := HO.out.2.grown hgr (by simp) (fun k e => by cases e; exact Nat.le_refl _)
    have HOW := Aside0.mk hown
    have HBE := Aside0.mk hbel
    clear hown hgr hbel
    rcases HOW.out.2 with ⟨rfl, hz⟩ | ⟨g, cap, cur, rfl, hgb⟩
    · clear hz
      go_wp2
      exact bodyPost_ret (v := .slice none 0 0) (by simp [results, Try.results34, go_sem]) rfl ⟨_, rfl, HOW.out, HBE.out⟩
    · clear hgb
      go_wp2
      exact bodyPost_ret (v := .slice (some ⟨g, 0, none⟩) n cap) (by simp [results, Try.results34, go_sem]) rfl ⟨_, rfl, HOW.out, HBE.out⟩
end Go.Proofs.Ytnedmaddjikmkaa.P

namespace Go.Proofs.Ytnedmaddjikmkaa.P
set_option linter.unusedVariables false
set_option linter.unusedSimpArgs false
open Go.RowKit Go.Shelf Go.Proofs.YtnedmaddjikmkaaW.PrintWords
attribute [local go_sem] Oper.semAt_some
/-! slices.Delete of one. -/
theorem wp_append_fits {P : Program} (w : World) {o : Oper} {a : Act} {K : Act → World → Prop} {Q : Exit → Act → World → Prop} (s x : Operand) (t : TypeId) (hop : o.op = Op.call { callee := Callee.builtin Builtin.append, args := #[s, x], argTypes := #[t, t] })
    (base : Nat) (e : TypeId) (i : TypeInfo) (size : Nat) (h1 : P.underlying t = some (.slice e)) (h2 : P.info? e = some i) (h4 : i.size = size)
    (g k cap : Nat) (xs : List Value) (hs : a.eval s = .slice (some ⟨g, 0, none⟩) k cap) (hown : w.ownsRow base e size (.slice (some ⟨g, 0, none⟩) k cap) k xs) (ad : Addr) (m c : Nat) (news : List Value) (hx : a.eval x = .slice (some ad) m c) (hn : news.length = m * size)
    (hc : ∀ j u, news[j]? = some u → w.cell? (ad.add j) = some u) (h1c : ∀ u ∈ news, u.oneCell' = true) (b1 : k + m ≤ cap)
    (hK : ∀ w', w'.ownsRow base e size (.slice (some ⟨g, 0, none⟩) (k + m) cap) (k + m) (xs ++ news) → w.grownBy w' (some g) → K (a.put o.dst (.slice (some ⟨g, 0, none⟩) (k + m) cap)) w') : o.wp P a w K Q := by
  obtain ⟨w', hrun, r1, r2⟩ := run_append_fits (P := P) w base t o.type e i size h1 h2 h4 g k cap xs hown ad m c news hn hc h1c b1
  unfold Oper.wp execOp
  simp only [hop, resolve, invoke, builtin, Sem.run_bind, Sem.run_pure, Result.andThen_ok, List.map_toArray, List.map_cons, List.map_nil, hs, hx, hrun]
  exact hK w' r1 r2
theorem cells39_app (a b : List S39) : cells39 a ++ cells39 b = cells39 (a ++ b) := by simp [cells39]
theorem own_pre {W : World} {base g n cap i : Nat} {l : List S39} (h : W.ownsRow base 39 6 (.slice (some ⟨g, 0, none⟩) n cap) n (cells39 l)) (hn : l.length = n) (hi : i ≤ n) : W.ownsRow base 39 6 (.slice (some ⟨g, 0, none⟩) i cap) i (cells39 (l.take i)) := by
  have hs : cells39 l = cells39 (l.take i) ++ cells39 (l.drop i) := by rw [cells39_app, List.take_append_drop]
  have hl : (cells39 (l.take i)).length = i * 6 := by rw [cells39_len, List.length_take]; congr 1; omega
  rcases h with ⟨h1, h2 | ⟨g', cap', cur, e1, hb, hg, hc, hm, hz, ht⟩⟩
  · cases h2.1
  · injection e1 with e1 _ e3
    injection e1 with e1
    injection e1 with e1 _ _
    subst e1 e3
    refine ⟨hl, .inr ⟨g, cap, cur, rfl, hb, hg, by omega, hm, hz, ?_⟩⟩
    have : cur.toList.take (i * 6) = (cur.toList.take (n * 6)).take (i * 6) := by rw [List.take_take]; congr 1; omega
    rw [this, ht, hs, List.take_append_of_le_length (by omega), List.take_of_length_le (by omega)]
theorem own_tail {W : World} {base g n cap : Nat} {l : List S39} (h : W.ownsRow base 39 6 (.slice (some ⟨g, 0, none⟩) n cap) n (cells39 l)) (k j : Nat) (u : Value) (hu : (cells39 (l.drop k))[j]? = some u) : W.cell? ((⟨g, k * 6, none⟩ : Addr).add j) = some u := by
  rw [Addr.add_mid]
  have hs : cells39 l = cells39 (l.take k) ++ cells39 (l.drop k) := by rw [cells39_app, List.take_append_drop]
  by_cases hk : k ≤ l.length
  · have hl : (cells39 (l.take k)).length = k * 6 := by rw [cells39_len, List.length_take]; congr 1; omega
    refine (own_cell h (k * 6 + j) u ?_).1
    rw [hs, List.getElem?_append_right (by omega), hl, Nat.add_sub_cancel_left]
    exact hu
  · rw [List.drop_eq_nil_of_le (by omega)] at hu
    simp [cells39] at hu
theorem own_cells {W : World} {base g n cap : Nat} {xs : List Value} (h : W.ownsRow base 39 6 (.slice (some ⟨g, 0, none⟩) n cap) n xs) : ∃ cur, Box W g 39 cur ∧ cur.size = cap * 6 := by
  rcases h with ⟨h1, h2 | ⟨g', cap', cur, e1, hb, hg, hc, hm, hz, ht⟩⟩
  · cases h2.1
  · injection e1 with e1 _ e3
    injection e1 with e1
    injection e1 with e1 _ _
    subst e1 e3
    exact ⟨cur, hg, hz⟩
theorem own_sets {base g m cap : Nat} {xs : List Value} : ∀ {W : World} (h : W.ownsRow base 39 6 (.slice (some ⟨g, 0, none⟩) m cap) m xs) (vs : List Value) (o : Nat), m * 6 ≤ o → (W.setCells g o vs).ownsRow base 39 6 (.slice (some ⟨g, 0, none⟩) m cap) m xs ∧ But g W (W.setCells g o vs) := by
  intro W h vs
  induction vs generalizing W with
  | nil => intro o _; exact ⟨h, But.refl g W⟩
  | cons v r ih =>
    intro o ho
    have h2 := own_write h o v
    rw [List.set_eq_of_length_le (by rw [h.1]; omega)] at h2
    obtain ⟨a, b⟩ := ih h2 (o + 1) (by omega)
    exact ⟨a, But.trans (show But g W (W.setCell ⟨g, o, none⟩ v) from ⟨rfl, rfl, rfl, by simp, fun i _ hn => Below.heap_setCell _ _ _ i hn⟩) b⟩
theorem But.of_grown {g : Nat} {A B : World} (h : A.grownBy B (some g)) : But g A B := ⟨h.os, h.tape, h.output, h.size, fun i hi hn => h.block i hi (fun e => hn (by cases e; rfl))⟩
def zrow : List Value := [.string ByteArray.empty, .string ByteArray.empty, .int .u64 0, .int .u64 0, .int .u64 0, .int .u64 0]
theorem run_clear1 (W : World) (g k c : Nat) (cs : Array Value) (hg : Box W g 39 cs) (hk : k + 6 ≤ cs.size) (ty : TypeId) :
    (Builtin.clear_ #[22] ty #[.slice (some ⟨g, k, none⟩) 1 c]).run Try.prog W = .ok (.tuple #[]) (W.setCells g k zrow) := by
  have hz : (zeroValue 39).run Try.prog W = .ok (.agg zrow.toArray) W := by
    obtain ⟨i, hi, hz, _, _⟩ := info_parts info39_6
    simp [zeroValue, typeInfo, hi, hz]
    rfl
  have hs : (Builtin.zeroCells (Value.agg zrow.toArray).cells 1).toList = zrow := by
    have e : (Value.agg zrow.toArray).cells = zrow.toArray := rfl
    rw [e, Builtin.zeroCells]
    apply List.ext_getElem
    · simp [zrow]
    · intro j h1 h2
      have h2' : j < 6 := h2
      simp [Nat.mod_eq_of_lt (show j < zrow.length from h2)]
      rw [List.getElem?_eq_getElem h2, Option.getD_some]
  have hst := run_storeCells_cells (P := Try.prog) g k zrow 0 W (fun j hj => by have hj' : j < 6 := hj; rw [hg.cell _ _ (Array.getElem?_eq_getElem (by omega))]; rfl) (fun j hj => hg.free _) (by decide)
  simp only [Nat.add_zero] at hst
  simp [Builtin.clear_, run_underlying Try.underlying22, hz, hs, hst]
set_option maxRecDepth 100000 in
set_option maxHeartbeats 4000000 in
theorem delete_any (l : List S39) (n i : Nat) (hn : l.length = n) (hi : i < n) (hl1 : n ≤ 1000) (m : Nat) (hm : n = m + 1) (base g cap : Nat) (w : World) (hown : w.ownsRow base 39 6 (.slice (some ⟨g, 0, none⟩) n cap) n (cells39 l)) :
    Calls Try.prog 35 #[.slice (some ⟨g, 0, none⟩) n cap, .int .i64 (i : Int), .int .i64 ((i : Int) + 1)] w fun e w' =>
      e = .returned (.slice (some ⟨g, 0, none⟩) m cap) ∧ w'.ownsRow base 39 6 (.slice (some ⟨g, 0, none⟩) m cap) m (cells39 (l.take i ++ l.drop (i + 1))) ∧ But g w w' := by
  have HO := Aside0.mk hown
  have hcap : n ≤ cap ∧ cap ≤ 9223372036854775807 := by
    rcases hown.2 with ⟨h, _⟩ | ⟨g', cap', cur, h, _, _, h1, h2, _⟩
    · cases h
    · injection h with _ _ h
      subst h
      exact ⟨h1, h2⟩
  have HN := Aside0.mk hn
  clear hown hn
  have hc1 := hcap.1
  have hc2 := hcap.2
  clear hcap
  have h1 : (i : Int) + 1 ≤ (n : Int) := by omega
  have h2 : (n : Int) ≤ (cap : Int) := by omega
  have h3 : ((i : Int) == (i : Int) + 1) = false := by rw [beq_eq_false_iff_ne]; omega
  go_enter Try.func35, Try.ntmps35
  go_wp2_with fail
  obtain ⟨i0, hi, hz0, hz1, hz2⟩ := info_parts info39_6
  have HIN := Aside0.mk (And.intro hi (And.intro hz0 (And.intro hz1 hz2)))
  clear hi hz0 hz1 hz2
  have ht : ((i : Int) + 1).toNat = i + 1 := by omega
  refine wp_put (fun a0 a' w' => ∃ X25 : Value, a' = ((((((((a0.put (some 20) (.slice (some ⟨g, 0, none⟩) n cap)).put (some 21) (.int .i64 (i : Int))).put (some 22) (.slice (some ⟨g, 0, none⟩) i cap)).put (some 23) (.slice (some ⟨g, 0, none⟩) n cap)).put (some 24) (.int .i64 ((i : Int) + 1))).put (some 25) (X25)).put (some 26) (.slice (some ⟨g, 0, none⟩) m cap)).put (some 0) (.slice (some ⟨g, 0, none⟩) m cap)) ∧ w'.ownsRow base 39 6 (.slice (some ⟨g, 0, none⟩) m cap) m (cells39 (l.take i ++ l.drop (i + 1))) ∧ But g w w') ?hreg ?hnext
  case hreg =>
    refine wp_region_held_drew (S := fun X => But g w X) (by kernel_rfl) (But.refl g w).drew (fun hHeld => ?_)
    have HOd := Aside0.mk (World.ownsRow.drew HO.out)
    generalize w.drew = W0 at *
    try simp only [Act.put, List.getElem_toArray, List.getElem_cons_zero, List.getElem_cons_succ, List.setIfInBounds_toArray, List.set_cons_zero, List.set_cons_succ]
    refine wpAnyH_take (i := 0) (v := .slice (some ⟨g, 0, none⟩) n cap) rfl (by kernel_rfl) (by kernel_rfl) (by kernel_rfl) (fun _ _ _ h => absurd h.1 (by simp)) (.inl ⟨by rfl, fun _ _ => by go_simp⟩) hHeld ?_
    try simp only [Act.put, List.getElem_toArray, List.getElem_cons_zero, List.getElem_cons_succ, List.setIfInBounds_toArray, List.set_cons_zero, List.set_cons_succ]
    refine wpAnyH_take (i := 1) (v := .int .i64 (i : Int)) rfl (by kernel_rfl) (by kernel_rfl) (by kernel_rfl) (fun _ _ _ h => absurd h.1 (by simp)) (.inl ⟨by rfl, fun _ _ => by go_simp⟩) hHeld ?_
    try simp only [Act.put, List.getElem_toArray, List.getElem_cons_zero, List.getElem_cons_succ, List.setIfInBounds_toArray, List.set_cons_zero, List.set_cons_succ]
    refine wpAnyH_take (i := 2) (v := .slice (some ⟨g, 0, none⟩) i cap) rfl (by kernel_rfl) (by kernel_rfl) (by kernel_rfl) (fun _ _ _ h => absurd h.1 (by simp)) (.inl ⟨by rfl, fun _ _ => by go_simp; intro hh; exact absurd hh (by omega)⟩) hHeld ?_
    try simp only [Act.put, List.getElem_toArray, List.getElem_cons_zero, List.getElem_cons_succ, List.setIfInBounds_toArray, List.set_cons_zero, List.set_cons_succ]
    refine wpAnyH_take (i := 3) (v := .slice (some ⟨g, 0, none⟩) n cap) rfl (by kernel_rfl) (by kernel_rfl) (by kernel_rfl) (fun _ _ _ h => absurd h.1 (by simp)) (.inl ⟨by rfl, fun _ _ => by go_simp⟩) hHeld ?_
    try simp only [Act.put, List.getElem_toArray, List.getElem_cons_zero, List.getElem_cons_succ, List.setIfInBounds_toArray, List.set_cons_zero, List.set_cons_succ]
    refine wpAnyH_take (i := 4) (v := .int .i64 ((i : Int) + 1)) rfl (by kernel_rfl) (by kernel_rfl) (by kernel_rfl) (fun _ _ _ h => absurd h.1 (by simp)) (.inl ⟨by rfl, fun _ _ => by go_simp⟩) hHeld ?_
    try simp only [Act.put, List.getElem_toArray, List.getElem_cons_zero, List.getElem_cons_succ, List.setIfInBounds_toArray, List.set_cons_zero, List.set_cons_succ]
    by_cases hce : cap = i + 1
    · refine wpAnyH_take (i := 5) (v := .slice (some ⟨g, 0, none⟩) (n - (i + 1)) (cap - (i + 1))) rfl (by kernel_rfl) (by kernel_rfl) (by kernel_rfl) (fun _ _ _ h => absurd h.1 (by simp)) (.inl ⟨by rfl, fun _ _ => by go_simp; intro hh; exact absurd hh (by omega)⟩) hHeld ?_
      try simp only [Act.put, List.getElem_toArray, List.getElem_cons_zero, List.getElem_cons_succ, List.setIfInBounds_toArray, List.set_cons_zero, List.set_cons_succ]
      refine wpAnyH_ready (rs := [6]) (by kernel_rfl) (by simp) ?_
      refine AllReadyH.cons rfl (fun K hK => ?_) AllReadyH.nil
      rw [if_pos (by rfl)]
      refine wp_append_fits _ _ _ 22 rfl base 39 i0 6 Try.underlying22 HIN.out.1 HIN.out.2.2.1 g i cap (cells39 (l.take i)) rfl (own_pre HOd.out HN.out (by omega)) ⟨g, 0, none⟩ (n - (i + 1)) (cap - (i + 1)) (cells39 (l.drop (i + 1))) rfl (by rw [cells39_len, List.length_drop, HN.out]) (fun j u hu => by have h0 : l.drop (i + 1) = [] := List.drop_eq_nil_of_le (by rw [HN.out]; omega); rw [h0] at hu; simp [cells39] at hu) (one39 _) (by omega) ?_
      intro w' hown' hgr
      rw [cells39_app, show i + (n - (i + 1)) = m by omega] at *
      refine hK.out _ _ (hHeld.trans (But.of_grown hgr)) (fun hHeld => ?_)
      clear hK K
      try simp only [Act.put, List.getElem_toArray, List.getElem_cons_zero, List.getElem_cons_succ, List.setIfInBounds_toArray, List.set_cons_zero, List.set_cons_succ]
      refine wpAnyH_take (i := 7) (v := .slice (some ⟨g, 0, none⟩) m cap) rfl (by kernel_rfl) (by kernel_rfl) (by kernel_rfl) (fun _ _ _ h => absurd h.1 (by simp)) (.inl ⟨by rfl, fun _ _ => by go_simp⟩) hHeld ?_
      try simp only [Act.put, List.getElem_toArray, List.getElem_cons_zero, List.getElem_cons_succ, List.setIfInBounds_toArray, List.set_cons_zero, List.set_cons_succ]
      refine wpAnyH_done (by kernel_rfl) ?_ _
      exact ⟨rfl, _, rfl, hown', hHeld⟩
    · refine wpAnyH_take (i := 5) (v := .slice (some ⟨g, (i + 1) * 6, none⟩) (n - (i + 1)) (cap - (i + 1))) rfl (by kernel_rfl) (by kernel_rfl) (by kernel_rfl) (fun _ _ _ h => absurd h.1 (by simp)) (.inl ⟨by rfl, fun _ _ => by go_simp; intro hh; exact absurd hh (by omega)⟩) hHeld ?_
      try simp only [Act.put, List.getElem_toArray, List.getElem_cons_zero, List.getElem_cons_succ, List.setIfInBounds_toArray, List.set_cons_zero, List.set_cons_succ]
      refine wpAnyH_ready (rs := [6]) (by kernel_rfl) (by simp) ?_
      refine AllReadyH.cons rfl (fun K hK => ?_) AllReadyH.nil
      rw [if_pos (by rfl)]
      refine wp_append_fits _ _ _ 22 rfl base 39 i0 6 Try.underlying22 HIN.out.1 HIN.out.2.2.1 g i cap (cells39 (l.take i)) rfl (own_pre HOd.out HN.out (by omega)) ⟨g, (i + 1) * 6, none⟩ (n - (i + 1)) (cap - (i + 1)) (cells39 (l.drop (i + 1))) rfl (by rw [cells39_len, List.length_drop, HN.out]) (fun j u hu => own_tail HOd.out (i + 1) j u hu) (one39 _) (by omega) ?_
      intro w' hown' hgr
      rw [cells39_app, show i + (n - (i + 1)) = m by omega] at *
      refine hK.out _ _ (hHeld.trans (But.of_grown hgr)) (fun hHeld => ?_)
      clear hK K
      try simp only [Act.put, List.getElem_toArray, List.getElem_cons_zero, List.getElem_cons_succ, List.setIfInBounds_toArray, List.set_cons_zero, List.set_cons_succ]
      refine wpAnyH_take (i := 7) (v := .slice (some ⟨g, 0, none⟩) m cap) rfl (by kernel_rfl) (by kernel_rfl) (by kernel_rfl) (fun _ _ _ h => absurd h.1 (by simp)) (.inl ⟨by rfl, fun _ _ => by go_simp⟩) hHeld ?_
      try simp only [Act.put, List.getElem_toArray, List.getElem_cons_zero, List.getElem_cons_succ, List.setIfInBounds_toArray, List.set_cons_zero, List.set_cons_succ]
      refine wpAnyH_done (by kernel_rfl) ?_ _
      exact ⟨rfl, _, rfl, hown', hHeld⟩
  case hnext =>
    rintro _ w5 ⟨X25, rfl, hown, hb5⟩
    try simp only [Act.put, List.getElem_toArray, List.getElem_cons_zero, List.getElem_cons_succ, List.setIfInBounds_toArray, List.set_cons_zero, List.set_cons_succ]
    obtain ⟨cur, hbox, hsz⟩ := own_cells hown
    have hcl := fun ty => run_clear1 w5 g (m * 6) (cap - m) cur hbox (by rw [hsz]; omega) ty
    have HOW := Aside0.mk hown
    have HB5 := Aside0.mk hb5
    have q1 : n - m = 1 := by omega
    have q2 : ¬ (cap = m) := by omega
    have q3 : (m : Int) ≤ (n : Int) := by omega
    clear hown hb5 hbox hsz HO ht
    go_wp2_with fail
    have HS := own_sets HOW.out zrow (m * 6) (Nat.le_refl _)
    exact bodyPost_ret (v := .slice (some ⟨g, 0, none⟩) m cap) (by simp [results, Try.results35, go_sem]) rfl ⟨rfl, HS.1, HB5.out.trans HS.2⟩
end Go.Proofs.Ytnedmaddjikmkaa.P

namespace Go.Proofs.Ytnedmaddjikmkaa.P
set_option linter.unusedVariables false
set_option linter.unusedSimpArgs false
open Go.RowKit Go.Shelf Go.Proofs.YtnedmaddjikmkaaW.PrintWords
/-! What is copied in a row of accounts. -/
theorem run_copy6 (w : World) (ty : TypeId) (g o dLen dCap : Nat) (a : Addr) (sLen sCap m : Nat) (cur : Array Value) (cs : List Value) (hg : Box w g 39 cur) (hm : Nat.min sLen dLen = m) (hn : cs.length = m * 6)
    (hsrc : ∀ j v, cs[j]? = some v → w.cell? (a.add j) = some v) (hfit : o + cs.length ≤ cur.size) (h1 : ∀ v ∈ cs, v.oneCell' = true) :
    (Builtin.copy_ #[22, 22] ty #[.slice (some ⟨g, o, none⟩) dLen dCap, .slice (some a) sLen sCap]).run Try.prog w =
      .ok (goInt m) (w.setRow g (cur.toList.take o ++ cs ++ cur.toList.drop (o + cs.length)).toArray) := by
  have hl := run_loadCells_list (P := Try.prog) w a cs hsrc
  have hst := run_storeCells_at Try.prog g o 39 cs 0 cur w hg (by simpa using hfit) h1
  have hu := run_underlying Try.underlying22
  obtain ⟨i, hi, _, hs, _⟩ := info_parts info39_6
  simp [Builtin.copy_, hu, Builtin.lenOf, Builtin.firstCells, sizeOf, typeInfo, hi, hs, hm, ← hn, hl, hst]
def insL (l : List S39) (k : Nat) (x : S39) : List S39 := l.take k ++ x :: l.drop k
theorem insL_len (l : List S39) (k : Nat) (x : S39) (hk : k ≤ l.length) : (insL l k x).length = l.length + 1 := by simp [insL]; omega
theorem cells_ins (l : List S39) (k : Nat) (x : S39) : cells39 (insL l k x) = cells39 (l.take k) ++ ((rowA x).toList ++ cells39 (l.drop k)) := by simp [insL, cells39]
theorem setRow_box {w : World} {g : Nat} {cur : Array Value} (h : Box w g 39 cur) (cs : Array Value) : Box (w.setRow g cs) g 39 cs ∧ But g w (w.setRow g cs) :=
  ⟨setRow_heap w g cur cs 39 (0, 0) h, rfl, rfl, rfl, by simp [World.setRow], fun i hi hn => setRow_other w g i cs hn⟩
/-- The first cells of what was written twice: from behind, then before. -/
theorem two_writes (P X D cur : List Value) (k q : Nat) (hP : P.length = k) (hX : X.length = 6) (hq : D.length = q) (hcur : cur.take k = P) (hfit : k + 6 + q ≤ cur.length) :
    (((cur.take (k + 6) ++ D ++ cur.drop (k + 6 + D.length)).take k ++ X ++ (cur.take (k + 6) ++ D ++ cur.drop (k + 6 + D.length)).drop (k + X.length))).take (k + (6 + q)) = P ++ (X ++ D) := by
  have e1 : (cur.take (k + 6) ++ D ++ cur.drop (k + 6 + D.length)).take k = P := by
    rw [List.append_assoc, List.take_append_of_le_length (by simp; omega), List.take_take, Nat.min_eq_left (by omega), hcur]
  have e2 : (cur.take (k + 6) ++ D ++ cur.drop (k + 6 + D.length)).drop (k + X.length) = D ++ cur.drop (k + 6 + D.length) := by
    rw [List.append_assoc, List.drop_append_of_le_length (by simp; omega), List.drop_of_length_le (by simp; omega), List.nil_append]
  rw [e1, e2]
  have h1 : (P ++ X ++ (D ++ cur.drop (k + 6 + D.length))) = (P ++ (X ++ D)) ++ cur.drop (k + 6 + D.length) := by simp
  rw [h1, List.take_append_of_le_length (by simp; omega), List.take_of_length_le (by simp; omega)]
/-- The first cells of what was written twice: before, then behind. -/
theorem two_writes' (P X D cur : List Value) (k q : Nat) (hP : P.length = k) (hX : X.length = 6) (hq : D.length = q) (hcur : cur.take k = P) (hfit : k + 6 + q ≤ cur.length) :
    (((cur.take k ++ X ++ cur.drop (k + X.length)).take (k + 6) ++ D ++ (cur.take k ++ X ++ cur.drop (k + X.length)).drop (k + 6 + D.length))).take (k + (6 + q)) = P ++ (X ++ D) := by
  have e1 : (cur.take k ++ X ++ cur.drop (k + X.length)).take (k + 6) = P ++ X := by
    rw [hcur, List.take_append_of_le_length (by simp; omega), List.take_of_length_le (by simp; omega)]
  rw [e1]
  have h1 : ∀ R : List Value, (P ++ X ++ D ++ R) = (P ++ (X ++ D)) ++ R := fun R => by simp
  rw [h1, List.take_append_of_le_length (by simp; omega), List.take_of_length_le (by simp; omega)]
theorem write_size (cur : Array Value) (o : Nat) (cs : List Value) (h : o + cs.length ≤ cur.size) : (cur.toList.take o ++ cs ++ cur.toList.drop (o + cs.length)).toArray.size = cur.size := by simp; omega
/-- A row with one more. -/
theorem own_ins {W : World} {base g n cap k : Nat} {l : List S39} {x : S39} {cur : Array Value} (hn : l.length = n) (hk : k ≤ n) (hb : base ≤ g) (hg : Box W g 39 cur) (hc : n + 1 ≤ cap) (hm : cap ≤ 9223372036854775807) (hz : cur.size = cap * 6)
    (ht : cur.toList.take (k * 6 + (6 + (n - k) * 6)) = cells39 (l.take k) ++ ((rowA x).toList ++ cells39 (l.drop k))) :
    W.ownsRow base 39 6 (.slice (some ⟨g, 0, none⟩) (n + 1) cap) (n + 1) (cells39 (insL l k x)) := by
  refine ⟨by rw [cells39_len, insL_len _ _ _ (by omega), hn], .inr ⟨g, cap, cur, rfl, hb, hg, hc, hm, hz, ?_⟩⟩
  rw [cells_ins, ← ht]
  congr 1
  omega
theorem shape_box {W : World} {g : Nat} {cur : Array Value} (h : Box W g 39 cur) : W.shape? g = some (39, cur.size) := by
  have h : W.heap[g]? = _ := h
  simp [World.shape?, h]
theorem size39 (W : World) : (sizeOf 39).run Try.prog W = .ok 6 W := by
  obtain ⟨i, hi, _, hs, _⟩ := info_parts info39_6
  simp [sizeOf, typeInfo, hi, hs]
theorem overlaps_no {W : World} {va g : Nat} {cv cur : Array Value} (hv : Box W va 39 cv) (hg : Box W g 39 cur) (hne : va ≠ g) (hs : cur.size ≠ 0) (o lb cb : Nat) :
    (callFunc 41 #[.slice (some ⟨va, 0, none⟩) 1 1, .slice (some ⟨g, o, none⟩) lb cb]).run Try.prog W = .ok (.value (.bool false)) W := by
  rw [run_callFunc_extern Try.func41 (by kernel_rfl) (by kernel_rfl) (by kernel_rfl) (e := Extern.SlicesOverlaps.overlaps #[22, 22] #[4]) (by kernel_rfl),
    Lib.run_overlaps_apart W 22 4 39 Try.underlying22 6 size39 ⟨va, 0, none⟩ ⟨g, o, none⟩ 1 1 lb cb hne 39 39 _ _ (shape_box hv) (shape_box hg) hs (hv.free 0) (hv.free _)]
  rfl
end Go.Proofs.Ytnedmaddjikmkaa.P

namespace Go.Proofs.Ytnedmaddjikmkaa.P
set_option linter.unusedVariables false
set_option linter.unusedSimpArgs false
open Go.RowKit Go.Shelf Go.Proofs.YtnedmaddjikmkaaW.PrintWords
attribute [local go_sem] Oper.semAt_some
/-! slices.Insert of one account. -/
theorem wp_copy_run {P : Program} (w : World) {o : Oper} {a : Act} {K : Act → World → Prop} {Q : Exit → Act → World → Prop} (d s : Operand) (t t' : TypeId)
    (ho : o.op = .call { callee := .builtin .copy, args := #[d, s], argTypes := #[t, t'] }) (v u : Value) (hd : a.eval d = v) (hs : a.eval s = u) {v' : Value} {w' : World}
    (hr : (Builtin.copy_ #[t, t'] o.type #[v, u]).run P w = .ok v' w') (h : K (a.put o.dst v') w') : o.wp P a w K Q := by
  unfold Oper.wp execOp
  simp only [ho, resolve, invoke, builtin, Sem.run_bind, Sem.run_pure, Result.andThen_ok, List.map_toArray, List.map_cons, List.map_nil, hd, hs, hr]
  exact h
theorem wpList_copy_run {P : Program} (w : World) {ops : Array Oper} {rest : List Oper} {o : Oper} {a : Act} {Q : Exit → Act → World → Prop} (hgd : o.guard = none) (d s : Operand) (t t' : TypeId)
    (ho : o.op = .call { callee := .builtin .copy, args := #[d, s], argTypes := #[t, t'] }) (v u : Value) (hd : a.eval d = v) (hs : a.eval s = u) {v' : Value} {w' : World}
    (hr : (Builtin.copy_ #[t, t'] o.type #[v, u]).run P w = .ok v' w') (h : wpList P ops Q rest (a.put o.dst v') w') : wpList P ops Q (o :: rest) a w :=
  wpList_plain hgd fun _ hK => wp_copy_run w d s t t' ho v u hd hs hr (hK _ _ h)
theorem wpList_append_run {P : Program} (w : World) {ops : Array Oper} {rest : List Oper} {o : Oper} {a : Act} {Q : Exit → Act → World → Prop} (hgd : o.guard = none) (d s : Operand) (t t' : TypeId)
    (ho : o.op = .call { callee := .builtin .append, args := #[d, s], argTypes := #[t, t'] }) (v u : Value) (hd : a.eval d = v) (hs : a.eval s = u) {v' : Value} {w' : World}
    (hr : (Builtin.append_ #[t, t'] o.type #[v, u]).run P w = .ok v' w') (h : wpList P ops Q rest (a.put o.dst v') w') : wpList P ops Q (o :: rest) a w := by
  refine wpList_plain hgd fun _ hK => ?_
  unfold Oper.wp execOp
  simp only [ho, resolve, invoke, builtin, Sem.run_bind, Sem.run_pure, Result.andThen_ok, List.map_toArray, List.map_cons, List.map_nil, hd, hs, hr]
  exact hK _ _ h
theorem row6 (x : S39) : (rowA x).toList.length = 6 := rfl
set_option maxRecDepth 100000 in
set_option maxHeartbeats 4000000 in
theorem insert_any (l : List S39) (n k : Nat) (hn : l.length = n) (hk : k ≤ n) (hl1 : n ≤ 1000000) (x : S39) (base : Nat) (w : World) (hbase : base ≤ w.heap.size) (v : Value) (hown : w.ownsRow base 39 6 v n (cells39 l)) (vb : Nat) (hvb : Box w vb 39 (rowA x)) (hne : v.ownBlock ≠ some vb) :
    Calls Try.prog 36 #[v, .int .i64 (k : Nat), .slice (some ⟨vb, 0, none⟩) 1 1] w fun e w' => ∃ v', e = .returned v' ∧ w'.ownsRow base 39 6 v' (n + 1) (cells39 (insL l k x)) ∧ Below base w w' := by
  obtain ⟨i0, hi, hz0, hz1, hz2⟩ := info_parts info39_6
  have HIN := Aside0.mk (And.intro hi (And.intro hz0 (And.intro hz1 hz2)))
  have HV := Aside0.mk hvb
  have HN := Aside0.mk hn
  have HO := Aside0.mk hown
  have HBS := Aside0.mk hbase
  clear hi hz0 hz1 hz2 hvb hn hbase
  rcases hown.2 with ⟨hv0, hz⟩ | ⟨g, cap, cur, hv0, hbg, hg, hc, hm, hz, ht⟩
  · subst hv0 hz
    obtain rfl : k = 0 := by omega
    clear hown hne
    go_enter Try.func36, Try.ntmps36
    go_wp2_with (at_builtin; refine wpList_append_own w rfl _ _ 22 rfl base 39 i0 (.agg #[.string ByteArray.empty, .string ByteArray.empty, .int .u64 0, .int .u64 0, .int .u64 0, .int .u64 0]) 6 64 Try.underlying22 HIN.out.1 HIN.out.2.1 HIN.out.2.2.1 HIN.out.2.2.2 rfl (by decide) _ 0 (cells39 l) rfl HO.out ⟨vb, 0, none⟩ 1 1 (rowA x).toList rfl rfl ?c1 ?c2 ?c3 ?c4 ?c5 ?_)
    case c1 => exact fun j u hu => by rw [Addr.add_mid, Nat.zero_add]; exact HV.out.cell j u (by simpa using hu)
    case c2 => exact fun u hu => one39 [x] u (by simpa [cells39] using hu)
    case c3 => show 0 + 1 ≤ 9223372036854775807; omega
    case c4 => omega
    case c5 => exact HBS.out
    intro v' w' hown2 hgr _
    have HB2 := Aside0.mk ((Below.refl base w).grown hgr HBS.out (fun k e => own_base HO.out k e))
    have HO2 := Aside0.mk (show w'.ownsRow base 39 6 v' (0 + 1) (cells39 (insL l 0 x)) from by
      have e : cells39 (insL l 0 x) = cells39 l ++ (rowA x).toList := by rw [cells_ins, List.take_of_length_le (by rw [HN.out]; omega), List.drop_eq_nil_of_le (by rw [HN.out]; omega)]; simp [cells39]
      rw [e]; exact hown2)
    clear hown2 hgr
    rcases HO2.out.2 with ⟨rfl, hz⟩ | ⟨g2, cap2, cur2, rfl, hg2⟩
    · exact absurd hz (by omega)
    clear hg2
    go_wp2_with fail
    exact bodyPost_ret (v := .slice (some ⟨g2, 0, none⟩) (0 + 1) cap2) (by simp [results, Try.results36, go_sem]) rfl ⟨_, rfl, HO2.out, HB2.out⟩
  · subst hv0
    have hne' : vb ≠ g := fun e => hne (by rw [e]; rfl)
    have HC := Aside0.mk (And.intro hg (And.intro hz ht))
    clear hown hne hg hz ht
    by_cases hkn : k = n
    · subst hkn
      have p1 : ((k : Int) == (k : Int)) = true := by simp
      have p2 : (k : Int) ≤ (cap : Int) := by omega
      by_cases hce : cap = k
      · subst hce
        go_enter Try.func36, Try.ntmps36
        go_wp2_with (at_builtin; refine wpList_append_own w rfl _ _ 22 rfl base 39 i0 (.agg #[.string ByteArray.empty, .string ByteArray.empty, .int .u64 0, .int .u64 0, .int .u64 0, .int .u64 0]) 6 64 Try.underlying22 HIN.out.1 HIN.out.2.1 HIN.out.2.2.1 HIN.out.2.2.2 rfl (by decide) _ cap (cells39 l) rfl HO.out ⟨vb, 0, none⟩ 1 1 (rowA x).toList rfl rfl ?c1 ?c2 ?c3 ?c4 ?c5 ?_)
        case c1 => exact fun j u hu => by rw [Addr.add_mid, Nat.zero_add]; exact HV.out.cell j u (by simpa using hu)
        case c2 => exact fun u hu => one39 [x] u (by simpa [cells39] using hu)
        case c3 => show cap + 1 ≤ 9223372036854775807; omega
        case c4 => omega
        case c5 => exact HBS.out
        intro v' w' hown2 hgr _
        have HB2 := Aside0.mk ((Below.refl base w).grown hgr HBS.out (fun k e => own_base HO.out k e))
        have HO2 := Aside0.mk (show w'.ownsRow base 39 6 v' (cap + 1) (cells39 (insL l cap x)) from by
          have e : cells39 (insL l cap x) = cells39 l ++ (rowA x).toList := by rw [cells_ins, List.take_of_length_le (by rw [HN.out]; exact Nat.le_refl _), List.drop_eq_nil_of_le (by rw [HN.out]; exact Nat.le_refl _)]; simp [cells39]
          rw [e]; exact hown2)
        clear hown2 hgr
        rcases HO2.out.2 with ⟨rfl, hz⟩ | ⟨g2, cap2, cur2, rfl, hg2⟩
        · exact absurd hz (by omega)
        clear hg2
        go_wp2_with fail
        exact bodyPost_ret (v := .slice (some ⟨g2, 0, none⟩) (cap + 1) cap2) (by simp [results, Try.results36, go_sem]) rfl ⟨_, rfl, HO2.out, HB2.out⟩
      · go_enter Try.func36, Try.ntmps36
        go_wp2_with (at_builtin; refine wpList_append_own w rfl _ _ 22 rfl base 39 i0 (.agg #[.string ByteArray.empty, .string ByteArray.empty, .int .u64 0, .int .u64 0, .int .u64 0, .int .u64 0]) 6 64 Try.underlying22 HIN.out.1 HIN.out.2.1 HIN.out.2.2.1 HIN.out.2.2.2 rfl (by decide) _ k (cells39 l) rfl HO.out ⟨vb, 0, none⟩ 1 1 (rowA x).toList rfl rfl ?c1 ?c2 ?c3 ?c4 ?c5 ?_)
        case c1 => exact fun j u hu => by rw [Addr.add_mid, Nat.zero_add]; exact HV.out.cell j u (by simpa using hu)
        case c2 => exact fun u hu => one39 [x] u (by simpa [cells39] using hu)
        case c3 => show k + 1 ≤ 9223372036854775807; omega
        case c4 => omega
        case c5 => exact HBS.out
        intro v' w' hown2 hgr _
        have HB2 := Aside0.mk ((Below.refl base w).grown hgr HBS.out (fun k e => own_base HO.out k e))
        have HO2 := Aside0.mk (show w'.ownsRow base 39 6 v' (k + 1) (cells39 (insL l k x)) from by
          have e : cells39 (insL l k x) = cells39 l ++ (rowA x).toList := by rw [cells_ins, List.take_of_length_le (by rw [HN.out]; exact Nat.le_refl _), List.drop_eq_nil_of_le (by rw [HN.out]; exact Nat.le_refl _)]; simp [cells39]
          rw [e]; exact hown2)
        clear hown2 hgr
        rcases HO2.out.2 with ⟨rfl, hz⟩ | ⟨g2, cap2, cur2, rfl, hg2⟩
        · exact absurd hz (by omega)
        clear hg2
        go_wp2_with fail
        exact bodyPost_ret (v := .slice (some ⟨g2, 0, none⟩) (k + 1) cap2) (by simp [results, Try.results36, go_sem]) rfl ⟨_, rfl, HO2.out, HB2.out⟩
    have hlt : k < n := by omega
    have p1 : ((k : Int) == (n : Int)) = false := beq_eq_false_iff_ne.2 (by omega)
    have p0 : ¬ (cap = k) := by omega
    have p3 : (k : Int) ≤ (n : Int) := by omega
    have hcut : cur.toList.take (k * 6) = cells39 (l.take k) := by
      have e : cells39 l = cells39 (l.take k) ++ cells39 (l.drop k) := by rw [cells39_app, List.take_append_drop]
      have hl : (cells39 (l.take k)).length = k * 6 := by rw [cells39_len, List.length_take, HN.out]; congr 1; omega
      have h2 : cur.toList.take (k * 6) = (cur.toList.take (n * 6)).take (k * 6) := by rw [List.take_take]; congr 1; omega
      rw [h2, HC.out.2.2, e, List.take_append_of_le_length (by omega), List.take_of_length_le (by omega)]
    have HCUT := Aside0.mk hcut
    have hdl : (cells39 (l.drop k)).length = (n - k) * 6 := by rw [cells39_len, List.length_drop, HN.out]
    have htl : (cells39 (l.take k)).length = k * 6 := by rw [cells39_len, List.length_take, HN.out]; congr 1; omega
    have hsrc : ∀ (W : World), Box W g 39 cur → ∀ j u, (cells39 (l.drop k))[j]? = some u → W.cell? ((⟨g, k * 6, none⟩ : Addr).add j) = some u := fun W hW j u hu => by
      rw [Addr.add_mid]
      have hj := (List.getElem?_eq_some_iff.1 hu).1
      have e : cells39 l = cells39 (l.take k) ++ cells39 (l.drop k) := by rw [cells39_app, List.take_append_drop]
      refine hW.cell _ _ ?_
      rw [← Array.getElem?_toList]
      have h2 : (cur.toList.take (n * 6))[k * 6 + j]? = some u := by
        rw [HC.out.2.2, e, List.getElem?_append_right (by omega), htl, Nat.add_sub_cancel_left]; exact hu
      rw [List.getElem?_take] at h2
      split at h2
      · exact h2
      · cases h2
    have HSRC := Aside0.mk hsrc
    have HDL := Aside0.mk hdl
    have HTL := Aside0.mk htl
    have hcs := HC.out.2.1
    have HSZ := Aside0.mk hcs
    clear hcut hsrc hdl htl hcs
    by_cases hroom : n + 1 ≤ cap
    · have p4 : decide ((cap : Int) < (n : Int) + 1) = false := decide_eq_false (by omega)
      have p5 : ¬ (cap = k + 1) := by omega
      have p6 : (n : Int) + 1 ≤ (cap : Int) := by omega
      have hov := fun lb cb => overlaps_no HV.out HC.out.1 hne' (by rw [HSZ.out]; omega) ((k + 1) * 6) lb cb
      have t1 : ((k : Int) + 1).toNat = k + 1 := by omega
      have t2 : ((n : Int) + 1).toNat = n + 1 := by omega
      have W3 := Aside0.mk (show IntKind.i64.wrap ((k : Int) + 1) = (k : Int) + 1 by rw [IntKind.wrap_i64]; omega)
      have w1 : wrap64 ((k : Int) + 1) = (k : Int) + 1 := by unfold wrap64; omega
      have w2 : wrap64 ((n : Int) + 1) = (n : Int) + 1 := by unfold wrap64; omega
      have q1 : (k : Int) + 1 ≤ (n : Int) + 1 := by omega
      have q2 : (k : Int) ≤ (n : Int) + 1 := by omega
      go_enter Try.func36, Try.ntmps36
      go_wp2_with (simp only [hov])
      refine wp_put (fun a0 a' w' => a' = (((((((((a0.put (some 69) (.slice (some ⟨g, 0, none⟩) (n + 1) (cap))).put (some 70) (.int .i64 (k : Nat))).put (some 71) (.int .i64 1)).put (some 72) (.int .i64 ((k : Int) + 1))).put (some 73) (.slice (some ⟨g, (k + 1) * 6, none⟩) (n + 1 - (k + 1)) (cap - (k + 1)))).put (some 74) (.slice (some ⟨g, 0, none⟩) (n + 1) (cap))).put (some 75) (.int .i64 (k : Nat))).put (some 76) (.slice (some ⟨g, k * 6, none⟩) (n + 1 - k) (cap - k))).put (some 77) (goInt ((n - k : Nat) : Int))) ∧ ∃ c1, Box w' g 39 c1 ∧ c1 = (cur.toList.take ((k + 1) * 6) ++ cells39 (l.drop k) ++ cur.toList.drop ((k + 1) * 6 + (cells39 (l.drop k)).length)).toArray ∧ But g w w') ?hreg ?hnext
      case hreg =>
        refine wp_region_held_drew (S := fun X => But g w X) (by kernel_rfl) ((But.refl g w).drew) (fun hHeld => ?_)
        have HCd := Aside0.mk (show Box w.drew g 39 cur from HC.out.1)
        generalize w.drew = W0 at *
        try simp only [Act.put, List.getElem_toArray, List.getElem_cons_zero, List.getElem_cons_succ, List.setIfInBounds_toArray, List.set_cons_zero, List.set_cons_succ]
        refine wpAnyH_take (i := 0) (v := .slice (some ⟨g, 0, none⟩) (n + 1) (cap)) rfl (by kernel_rfl) (by kernel_rfl) (by kernel_rfl) (fun _ _ _ h => absurd h.1 (by simp)) (.inl ⟨by rfl, fun _ _ => by go_simp <;> first | (intro hh; exact absurd hh (by omega)) | exact W3.out⟩) hHeld ?_
        try simp only [Act.put, List.getElem_toArray, List.getElem_cons_zero, List.getElem_cons_succ, List.setIfInBounds_toArray, List.set_cons_zero, List.set_cons_succ]
        refine wpAnyH_take (i := 1) (v := .int .i64 (k : Nat)) rfl (by kernel_rfl) (by kernel_rfl) (by kernel_rfl) (fun _ _ _ h => absurd h.1 (by simp)) (.inl ⟨by rfl, fun _ _ => by go_simp <;> first | (intro hh; exact absurd hh (by omega)) | exact W3.out⟩) hHeld ?_
        try simp only [Act.put, List.getElem_toArray, List.getElem_cons_zero, List.getElem_cons_succ, List.setIfInBounds_toArray, List.set_cons_zero, List.set_cons_succ]
        refine wpAnyH_take (i := 2) (v := .int .i64 1) rfl (by kernel_rfl) (by kernel_rfl) (by kernel_rfl) (fun _ _ _ h => absurd h.1 (by simp)) (.inl ⟨by rfl, fun _ _ => by go_simp <;> first | (intro hh; exact absurd hh (by omega)) | exact W3.out⟩) hHeld ?_
        try simp only [Act.put, List.getElem_toArray, List.getElem_cons_zero, List.getElem_cons_succ, List.setIfInBounds_toArray, List.set_cons_zero, List.set_cons_succ]
        refine wpAnyH_take (i := 3) (v := .int .i64 ((k : Int) + 1)) rfl (by kernel_rfl) (by kernel_rfl) (by kernel_rfl) (fun _ _ _ h => absurd h.1 (by simp)) (.inl ⟨by rfl, fun _ _ => by go_simp <;> first | (intro hh; exact absurd hh (by omega)) | exact W3.out⟩) hHeld ?_
        try simp only [Act.put, List.getElem_toArray, List.getElem_cons_zero, List.getElem_cons_succ, List.setIfInBounds_toArray, List.set_cons_zero, List.set_cons_succ]
        refine wpAnyH_take (i := 4) (v := .slice (some ⟨g, (k + 1) * 6, none⟩) (n + 1 - (k + 1)) (cap - (k + 1))) rfl (by kernel_rfl) (by kernel_rfl) (by kernel_rfl) (fun _ _ _ h => absurd h.1 (by simp)) (.inl ⟨by rfl, fun _ _ => by go_simp <;> first | (intro hh; exact absurd hh (by omega)) | exact W3.out⟩) hHeld ?_
        try simp only [Act.put, List.getElem_toArray, List.getElem_cons_zero, List.getElem_cons_succ, List.setIfInBounds_toArray, List.set_cons_zero, List.set_cons_succ]
        refine wpAnyH_take (i := 5) (v := .slice (some ⟨g, 0, none⟩) (n + 1) (cap)) rfl (by kernel_rfl) (by kernel_rfl) (by kernel_rfl) (fun _ _ _ h => absurd h.1 (by simp)) (.inl ⟨by rfl, fun _ _ => by go_simp <;> first | (intro hh; exact absurd hh (by omega)) | exact W3.out⟩) hHeld ?_
        try simp only [Act.put, List.getElem_toArray, List.getElem_cons_zero, List.getElem_cons_succ, List.setIfInBounds_toArray, List.set_cons_zero, List.set_cons_succ]
        refine wpAnyH_take (i := 6) (v := .int .i64 (k : Nat)) rfl (by kernel_rfl) (by kernel_rfl) (by kernel_rfl) (fun _ _ _ h => absurd h.1 (by simp)) (.inl ⟨by rfl, fun _ _ => by go_simp <;> first | (intro hh; exact absurd hh (by omega)) | exact W3.out⟩) hHeld ?_
        try simp only [Act.put, List.getElem_toArray, List.getElem_cons_zero, List.getElem_cons_succ, List.setIfInBounds_toArray, List.set_cons_zero, List.set_cons_succ]
        refine wpAnyH_take (i := 7) (v := .slice (some ⟨g, k * 6, none⟩) (n + 1 - k) (cap - k)) rfl (by kernel_rfl) (by kernel_rfl) (by kernel_rfl) (fun _ _ _ h => absurd h.1 (by simp)) (.inl ⟨by rfl, fun _ _ => by go_simp <;> first | (intro hh; exact absurd hh (by omega)) | exact W3.out⟩) hHeld ?_
        try simp only [Act.put, List.getElem_toArray, List.getElem_cons_zero, List.getElem_cons_succ, List.setIfInBounds_toArray, List.set_cons_zero, List.set_cons_succ]
        refine wpAnyH_ready (rs := [8]) (by kernel_rfl) (by simp) ?_
        refine AllReadyH.cons rfl (fun K hK => ?_) AllReadyH.nil
        rw [if_pos (by rfl)]
        refine wp_copy_run _ _ _ 22 22 rfl _ _ rfl rfl (run_copy6 _ _ g ((k + 1) * 6) (n + 1 - (k + 1)) (cap - (k + 1)) ⟨g, k * 6, none⟩ (n + 1 - k) (cap - k) (n - k) cur (cells39 (l.drop k)) HCd.out (by show min _ _ = _; omega) HDL.out (HSRC.out _ HCd.out) (by rw [HSZ.out, HDL.out]; omega) (one39 _)) ?_
        have hsb := setRow_box HCd.out (cur.toList.take ((k + 1) * 6) ++ cells39 (l.drop k) ++ cur.toList.drop ((k + 1) * 6 + (cells39 (l.drop k)).length)).toArray
        refine hK.out _ _ (hHeld.trans hsb.2) (fun hHeld => ?_)
        clear hK K
        try simp only [Act.put, List.getElem_toArray, List.getElem_cons_zero, List.getElem_cons_succ, List.setIfInBounds_toArray, List.set_cons_zero, List.set_cons_succ]
        refine wpAnyH_done (by kernel_rfl) ?_ _
        refine ⟨rfl, ?_, _, hsb.1, rfl, hHeld⟩
        try rfl
      case hnext =>
        rintro _ w4 ⟨rfl, c1, hc1, he1, hb4⟩
        try simp only [Act.put, List.getElem_toArray, List.getElem_cons_zero, List.getElem_cons_succ, List.setIfInBounds_toArray, List.set_cons_zero, List.set_cons_succ]
        have HV4 := Aside0.mk (show Box w4 vb 39 (rowA x) from hb4.box HV.out hne')
        have HC1 := Aside0.mk hc1
        have HE1 := Aside0.mk he1
        have HB4 := Aside0.mk hb4
        have hs1 : c1.size = cap * 6 := by rw [he1, write_size _ _ _ (by rw [HSZ.out, HDL.out]; omega), HSZ.out]
        have HS1 := Aside0.mk hs1
        clear hc1 he1 hb4 hs1
        have hcp := fun ty => run_copy6 w4 ty g (k * 6) (n + 1 - k) (cap - k) ⟨vb, 0, none⟩ 1 1 1 c1 (rowA x).toList HC1.out (by show min _ _ = _; omega) rfl (fun j u hu => by rw [Addr.add_mid, Nat.zero_add]; exact HV4.out.cell j u (by simpa using hu)) (by rw [HS1.out, row6]; omega) (fun u hu => one39 [x] u (by simpa [cells39] using hu))
        have HCP := Aside0.mk hcp
        clear hcp
        go_wp2_with fail
        rw [HCP.out]
        simp only [Result.andThen]
        rw [Oper.upon_value]
        have hsb := setRow_box HC1.out (c1.toList.take (k * 6) ++ (rowA x).toList ++ c1.toList.drop (k * 6 + (rowA x).toList.length)).toArray
        have HSB := Aside0.mk hsb
        clear hsb
        generalize w4.setRow g (c1.toList.take (k * 6) ++ (rowA x).toList ++ c1.toList.drop (k * 6 + (rowA x).toList.length)).toArray = w5 at *
        go_wp2_with fail
        refine bodyPost_ret (v := .slice (some ⟨g, 0, none⟩) (n + 1) cap) (by simp [results, Try.results36, go_sem]) rfl ⟨_, rfl, ?_, But.below (But.below (Below.refl base w) HB4.out hbg HBS.out) HSB.out.2 hbg HBS.out⟩
        refine own_ins HN.out hk hbg HSB.out.1 (by omega) hm (by rw [write_size _ _ _ (by rw [HS1.out, row6]; omega), HS1.out]) ?_
        have T := two_writes (cells39 (l.take k)) (rowA x).toList (cells39 (l.drop k)) cur.toList (k * 6) ((n - k) * 6) HTL.out rfl HDL.out HCUT.out (by have := HSZ.out; simp; omega)
        rw [HE1.out]
        rw [show (k + 1) * 6 = k * 6 + 6 by omega]
        simpa using T
    · obtain rfl : cap = n := by omega
      have p4 : decide ((cap : Int) < (cap : Int) + 1) = true := decide_eq_true (by omega)
      have hkk : (cap : Int) + 1 - (k : Int) = ((cap + 1 - k : Nat) : Int) := by omega
      have hik : k + (cap + 1 - k) = cap + 1 := by omega
      have t1 : ((k : Int) + 1).toNat = k + 1 := by omega
      have w2 : wrap64 ((cap : Int) + 1) = (cap : Int) + 1 := by unfold wrap64; omega
      have W3 := Aside0.mk (show IntKind.i64.wrap ((k : Int) + 1) = (k : Int) + 1 by rw [IntKind.wrap_i64]; omega)
      have hcu : ∀ j u, (cells39 (l.take k))[j]? = some u → cur[j]? = some u := fun j u hu => by
        rw [← HCUT.out, List.getElem?_take] at hu
        split at hu
        · rwa [Array.getElem?_toList] at hu
        · cases hu
      have hold : (Builtin.firstCells i0.size k (.slice (some ⟨g, 0, none⟩) k cap)).run Try.prog w.drew = .ok (cells39 (l.take k)).toArray w.drew := by
        rw [HIN.out.2.2.1]
        exact run_firstCells_some w.drew 6 k ⟨g, 0, none⟩ k cap (cells39 (l.take k)) HTL.out (fun j u hu => by rw [Addr.add_mid, Nat.zero_add]; exact (show Box w.drew g 39 cur from HC.out.1).cell j u (hcu j u hu))
      obtain ⟨ROW, hROW⟩ : ∃ ROW : Array Value, ROW = (cells39 (l.take k)).toArray ++ Builtin.zeroCells (Value.agg #[.string ByteArray.empty, .string ByteArray.empty, .int .u64 0, .int .u64 0, .int .u64 0, .int .u64 0]).cells (cap + 1 - k) ++ Builtin.zeroCells (Value.agg #[.string ByteArray.empty, .string ByteArray.empty, .int .u64 0, .int .u64 0, .int .u64 0, .int .u64 0]).cells (grownCap w (cap + 1) cap 39 - (cap + 1)) := ⟨_, rfl⟩
      have hap : ∀ ty, (Builtin.append_ #[22, 3] ty #[.slice (some ⟨g, 0, none⟩) k cap, .int .i64 ((cap + 1 - k : Nat) : Int)]).run Try.prog w = .ok (.slice (some ⟨w.heap.size, 0, none⟩) (cap + 1) (grownCap w (cap + 1) cap 39)) (w.drew.alloc (.cells ROW 39)) := fun ty => by
        have h := Lib.run_append_grow_zeros w 22 3 ty 39 i0 _ .i64 .i64 Try.underlying22 Try.underlying3 HIN.out.1 HIN.out.2.1 (some ⟨g, 0, none⟩) k cap (cells39 (l.take k)) hold (cap + 1 - k) (by omega) (by rw [HIN.out.2.2.1]; omega) (by omega) (by omega) (by rw [HIN.out.2.2.2]; omega) (by rw [HIN.out.2.2.2, hik]; exact growslice_fits (by omega) (by omega))
        rw [hik] at h
        rw [hROW]
        exact h
      have hGn := grownCap_ge w (cap + 1) cap 39
      have hG63 := grownCap_le_maxLen w (cap + 1) cap 39 (by unfold maxLen; omega)
      unfold maxLen at hG63
      generalize grownCap w (cap + 1) cap 39 = G at *
      have hRs : ROW.size = G * 6 := by
        rw [hROW]
        simp [Builtin.zeroCells, Value.cells, HTL.out]
        omega
      have hRt : ROW.toList.take (k * 6) = cells39 (l.take k) := by
        rw [hROW]
        simp only [Array.toList_append, List.append_assoc]
        rw [List.take_append_of_le_length (by simp [HTL.out]), List.take_of_length_le (by simp [HTL.out])]
      have hbx := blk_new w.drew (.cells ROW 39)
      have hba := (below_alloc (below_drew1 (Below.refl w.heap.size w)) (.cells ROW 39)).mono HBS.out
      have HAP := Aside0.mk hap
      have HR := Aside0.mk (And.intro hRs (And.intro hRt (show Box (w.drew.alloc (.cells ROW 39)) w.heap.size 39 ROW from hbx)))
      have HBA := Aside0.mk hba
      have HVa := Aside0.mk (show Box (w.drew.alloc (.cells ROW 39)) vb 39 (rowA x) from blk_alloc (show Box w.drew vb 39 (rowA x) from HV.out) _)
      have HCa := Aside0.mk (show Box (w.drew.alloc (.cells ROW 39)) g 39 cur from blk_alloc (show Box w.drew g 39 cur from HC.out.1) _)
      have HGL := Aside0.mk (And.intro (show g < w.heap.size from (show Box w g 39 cur from HC.out.1).lt) (show vb < w.heap.size from HV.out.lt))
      clear hap hRs hRt hbx hba hROW hcu hold
      generalize hW1 : w.drew.alloc (.cells ROW 39) = W1 at *
      clear hW1
      generalize hgs : w.heap.size = gs at *
      have r1 : ¬ (G = k) := by omega
      have r2 : ¬ (G = k + 1) := by omega
      have r3 : (k : Int) ≤ (cap : Int) + 1 := by omega
      have r4 : (k : Int) + 1 ≤ (cap : Int) + 1 := by omega
      have r5 : (cap : Int) + 1 ≤ (G : Int) := by omega
      have HCP := Aside0.mk (fun ty => run_copy6 W1 ty gs (k * 6) (cap + 1 - k) (G - k) ⟨vb, 0, none⟩ 1 1 1 ROW (rowA x).toList HR.out.2.2 (by show min _ _ = _; omega) rfl (fun j u hu => by rw [Addr.add_mid, Nat.zero_add]; exact HVa.out.cell j u (by simpa using hu)) (by rw [HR.out.1, row6]; omega) (fun u hu => one39 [x] u (by simpa [cells39] using hu)))
      have HSB := Aside0.mk (setRow_box HR.out.2.2 (ROW.toList.take (k * 6) ++ (rowA x).toList ++ ROW.toList.drop (k * 6 + (rowA x).toList.length)).toArray)
      have HS1 := Aside0.mk (show (ROW.toList.take (k * 6) ++ (rowA x).toList ++ ROW.toList.drop (k * 6 + (rowA x).toList.length)).toArray.size = G * 6 by rw [write_size _ _ _ (by rw [HR.out.1, row6]; omega), HR.out.1])
      obtain ⟨c1, hc1⟩ : ∃ c1, c1 = (ROW.toList.take (k * 6) ++ (rowA x).toList ++ ROW.toList.drop (k * 6 + (rowA x).toList.length)).toArray := ⟨_, rfl⟩
      rw [← hc1] at HCP HSB HS1
      have HE1 := Aside0.mk hc1
      clear hc1
      generalize W1.setRow gs c1 = W2 at *
      go_enter Try.func36, Try.ntmps36
      go_wp2_with (at_builtin; refine wpList_append_run _ rfl _ _ 22 3 rfl _ _ rfl rfl (HAP.out _) ?_)
      rw [HCP.out]
      simp only [Result.andThen]
      rw [Oper.upon_value]
      go_wp2_with fail
      refine wp_put (fun a0 a' w' => a' = (((((((((a0.put (some 46) (.slice (some ⟨gs, 0, none⟩) (cap + 1) (G))).put (some 47) (.int .i64 (k : Nat))).put (some 48) (.int .i64 1)).put (some 49) (.int .i64 ((k : Int) + 1))).put (some 50) (.slice (some ⟨gs, (k + 1) * 6, none⟩) (cap + 1 - (k + 1)) (G - (k + 1)))).put (some 51) (.slice (some ⟨g, 0, none⟩) (cap) (cap))).put (some 52) (.int .i64 (k : Nat))).put (some 53) (.slice (some ⟨g, k * 6, none⟩) (cap - k) (cap - k))).put (some 54) (goInt ((cap - k : Nat) : Int))) ∧ ∃ c2, Box w' gs 39 c2 ∧ c2 = (c1.toList.take ((k + 1) * 6) ++ cells39 (l.drop k) ++ c1.toList.drop ((k + 1) * 6 + (cells39 (l.drop k)).length)).toArray ∧ But gs W2 w') ?hreg ?hnext
      case hreg =>
        refine wp_region_held_drew (S := fun X => But gs W2 X) (by kernel_rfl) ((But.refl gs W2).drew) (fun hHeld => ?_)
        have HCd := Aside0.mk (And.intro (show Box W2.drew gs 39 c1 from HSB.out.1) (show Box W2.drew g 39 cur from HSB.out.2.box HCa.out (by have := HGL.out.1; omega)))
        generalize W2.drew = W0 at *
        try simp only [Act.put, List.getElem_toArray, List.getElem_cons_zero, List.getElem_cons_succ, List.setIfInBounds_toArray, List.set_cons_zero, List.set_cons_succ]
        refine wpAnyH_take (i := 0) (v := .slice (some ⟨gs, 0, none⟩) (cap + 1) (G)) rfl (by kernel_rfl) (by kernel_rfl) (by kernel_rfl) (fun _ _ _ h => absurd h.1 (by simp)) (.inl ⟨by rfl, fun _ _ => by go_simp <;> first | (intro hh; exact absurd hh (by omega)) | exact W3.out⟩) hHeld ?_
        try simp only [Act.put, List.getElem_toArray, List.getElem_cons_zero, List.getElem_cons_succ, List.setIfInBounds_toArray, List.set_cons_zero, List.set_cons_succ]
        refine wpAnyH_take (i := 1) (v := .int .i64 (k : Nat)) rfl (by kernel_rfl) (by kernel_rfl) (by kernel_rfl) (fun _ _ _ h => absurd h.1 (by simp)) (.inl ⟨by rfl, fun _ _ => by go_simp <;> first | (intro hh; exact absurd hh (by omega)) | exact W3.out⟩) hHeld ?_
        try simp only [Act.put, List.getElem_toArray, List.getElem_cons_zero, List.getElem_cons_succ, List.setIfInBounds_toArray, List.set_cons_zero, List.set_cons_succ]
        refine wpAnyH_take (i := 2) (v := .int .i64 1) rfl (by kernel_rfl) (by kernel_rfl) (by kernel_rfl) (fun _ _ _ h => absurd h.1 (by simp)) (.inl ⟨by rfl, fun _ _ => by go_simp <;> first | (intro hh; exact absurd hh (by omega)) | exact W3.out⟩) hHeld ?_
        try simp only [Act.put, List.getElem_toArray, List.getElem_cons_zero, List.getElem_cons_succ, List.setIfInBounds_toArray, List.set_cons_zero, List.set_cons_succ]
        refine wpAnyH_take (i := 3) (v := .int .i64 ((k : Int) + 1)) rfl (by kernel_rfl) (by kernel_rfl) (by kernel_rfl) (fun _ _ _ h => absurd h.1 (by simp)) (.inl ⟨by rfl, fun _ _ => by go_simp <;> first | (intro hh; exact absurd hh (by omega)) | exact W3.out⟩) hHeld ?_
        try simp only [Act.put, List.getElem_toArray, List.getElem_cons_zero, List.getElem_cons_succ, List.setIfInBounds_toArray, List.set_cons_zero, List.set_cons_succ]
        refine wpAnyH_take (i := 4) (v := .slice (some ⟨gs, (k + 1) * 6, none⟩) (cap + 1 - (k + 1)) (G - (k + 1))) rfl (by kernel_rfl) (by kernel_rfl) (by kernel_rfl) (fun _ _ _ h => absurd h.1 (by simp)) (.inl ⟨by rfl, fun _ _ => by go_simp <;> first | (intro hh; exact absurd hh (by omega)) | exact W3.out⟩) hHeld ?_
        try simp only [Act.put, List.getElem_toArray, List.getElem_cons_zero, List.getElem_cons_succ, List.setIfInBounds_toArray, List.set_cons_zero, List.set_cons_succ]
        refine wpAnyH_take (i := 5) (v := .slice (some ⟨g, 0, none⟩) (cap) (cap)) rfl (by kernel_rfl) (by kernel_rfl) (by kernel_rfl) (fun _ _ _ h => absurd h.1 (by simp)) (.inl ⟨by rfl, fun _ _ => by go_simp <;> first | (intro hh; exact absurd hh (by omega)) | exact W3.out⟩) hHeld ?_
        try simp only [Act.put, List.getElem_toArray, List.getElem_cons_zero, List.getElem_cons_succ, List.setIfInBounds_toArray, List.set_cons_zero, List.set_cons_succ]
        refine wpAnyH_take (i := 6) (v := .int .i64 (k : Nat)) rfl (by kernel_rfl) (by kernel_rfl) (by kernel_rfl) (fun _ _ _ h => absurd h.1 (by simp)) (.inl ⟨by rfl, fun _ _ => by go_simp <;> first | (intro hh; exact absurd hh (by omega)) | exact W3.out⟩) hHeld ?_
        try simp only [Act.put, List.getElem_toArray, List.getElem_cons_zero, List.getElem_cons_succ, List.setIfInBounds_toArray, List.set_cons_zero, List.set_cons_succ]
        refine wpAnyH_take (i := 7) (v := .slice (some ⟨g, k * 6, none⟩) (cap - k) (cap - k)) rfl (by kernel_rfl) (by kernel_rfl) (by kernel_rfl) (fun _ _ _ h => absurd h.1 (by simp)) (.inl ⟨by rfl, fun _ _ => by go_simp <;> first | (intro hh; exact absurd hh (by omega)) | exact W3.out⟩) hHeld ?_
        try simp only [Act.put, List.getElem_toArray, List.getElem_cons_zero, List.getElem_cons_succ, List.setIfInBounds_toArray, List.set_cons_zero, List.set_cons_succ]
        refine wpAnyH_ready (rs := [8]) (by kernel_rfl) (by simp) ?_
        refine AllReadyH.cons rfl (fun K hK => ?_) AllReadyH.nil
        rw [if_pos (by rfl)]
        refine wp_copy_run _ _ _ 22 22 rfl _ _ rfl rfl (run_copy6 _ _ gs ((k + 1) * 6) (cap + 1 - (k + 1)) (G - (k + 1)) ⟨g, k * 6, none⟩ (cap - k) (cap - k) (cap - k) c1 (cells39 (l.drop k)) HCd.out.1 (by show min _ _ = _; omega) HDL.out (HSRC.out _ HCd.out.2) (by rw [HS1.out, HDL.out]; omega) (one39 _)) ?_
        have hsb := setRow_box HCd.out.1 (c1.toList.take ((k + 1) * 6) ++ cells39 (l.drop k) ++ c1.toList.drop ((k + 1) * 6 + (cells39 (l.drop k)).length)).toArray
        refine hK.out _ _ (hHeld.trans hsb.2) (fun hHeld => ?_)
        clear hK K
        try simp only [Act.put, List.getElem_toArray, List.getElem_cons_zero, List.getElem_cons_succ, List.setIfInBounds_toArray, List.set_cons_zero, List.set_cons_succ]
        refine wpAnyH_done (by kernel_rfl) ?_ _
        refine ⟨rfl, ?_, _, hsb.1, rfl, hHeld⟩
        try rfl
      case hnext =>
        rintro _ w4 ⟨rfl, c2, hc2, he2, hb4⟩
        try simp only [Act.put, List.getElem_toArray, List.getElem_cons_zero, List.getElem_cons_succ, List.setIfInBounds_toArray, List.set_cons_zero, List.set_cons_succ]
        go_wp2_with fail
        refine bodyPost_ret (v := .slice (some ⟨gs, 0, none⟩) (cap + 1) G) (by simp [results, Try.results36, go_sem]) rfl ⟨_, rfl, ?_, But.below (But.below HBA.out HSB.out.2 (by have := HBS.out; omega) (by have := HBS.out; omega)) hb4 (by have := HBS.out; omega) (by have := HBS.out; omega)⟩
        refine own_ins HN.out hk (by have := HBS.out; omega) hc2 (by omega) (by omega) (by rw [he2, write_size _ _ _ (by rw [HS1.out, HDL.out]; omega), HS1.out]) ?_
        have T := two_writes' (cells39 (l.take k)) (rowA x).toList (cells39 (l.drop k)) ROW.toList (k * 6) ((cap - k) * 6) HTL.out rfl HDL.out HR.out.2.1 (by have := HR.out.1; simp; omega)
        rw [he2, HE1.out]
        rw [show (k + 1) * 6 = k * 6 + 6 by omega]
        simpa using T
end Go.Proofs.Ytnedmaddjikmkaa.P

namespace Go.Proofs.Ytnedmaddjikmkaa.P
set_option linter.unusedVariables false
set_option linter.unusedSimpArgs false
open Go.RowKit Go.Shelf Go.Proofs.YtnedmaddjikmkaaW.PrintWords
attribute [local go_sem] Oper.semAt_some
attribute [local go_sem high] eqA25
/-! Accounts in which an address has an amount. -/
theorem split39 (LL : List S39) (p : Nat) (hp : p < LL.length) : LL = LL.take p ++ at39 LL p :: LL.drop (p + 1) := by
  rw [at39_get hp, ← List.drop_eq_getElem_cons hp, List.take_append_drop]
theorem cells39_put6 (L1 L2 : List S39) (a x : S39) :
    ((((((cells39 (L1 ++ a :: L2)).set (L1.length * 6) (.string x.f0)).set (L1.length * 6 + 1) (.string x.f1)).set (L1.length * 6 + 2) (.int .u64 x.f2.f0)).set (L1.length * 6 + 3) (.int .u64 x.f2.f1)).set (L1.length * 6 + 4) (.int .u64 x.f2.f2)).set (L1.length * 6 + 5) (.int .u64 x.f2.f3) = cells39 (L1 ++ x :: L2) := by
  have h : ∀ b, cells39 (L1 ++ b :: L2) = cells39 L1 ++ ((rowA b).toList ++ cells39 L2) := fun b => by simp [cells39]
  have hl := cells39_len L1
  rw [h, h]
  have st : ∀ (X : List Value) (i : Nat) (u : Value), (cells39 L1 ++ X).set (L1.length * 6 + i) u = cells39 L1 ++ X.set i u := fun X i u => by
    rw [List.set_append_right _ _ (by omega), hl, Nat.add_sub_cancel_left]
  have st0 : ∀ (X : List Value) (u : Value), (cells39 L1 ++ X).set (L1.length * 6) u = cells39 L1 ++ X.set 0 u := fun X u => st X 0 u
  rw [st0, st, st, st, st, st]
  congr 1
theorem own_put6 {W : World} {base go cap n : Nat} {LL : List S39} (h : W.ownsRow base 39 6 (.slice (some ⟨go, 0, none⟩) n cap) n (cells39 LL)) (p : Nat) (hp : p < LL.length) (x : S39) :
    (W.cell? ⟨go, p * 6, none⟩ = some (.string (at39 LL p).f0) ∧ W.frozen? ⟨go, p * 6, none⟩ = false) ∧ (W.cell? ⟨go, p * 6 + 1, none⟩ = some (.string (at39 LL p).f1) ∧ W.frozen? ⟨go, p * 6 + 1, none⟩ = false) ∧
    (W.cell? ⟨go, p * 6 + 2, none⟩ = some (.int .u64 (at39 LL p).f2.f0) ∧ W.frozen? ⟨go, p * 6 + 2, none⟩ = false) ∧ (W.cell? ⟨go, p * 6 + 3, none⟩ = some (.int .u64 (at39 LL p).f2.f1) ∧ W.frozen? ⟨go, p * 6 + 3, none⟩ = false) ∧
    (W.cell? ⟨go, p * 6 + 4, none⟩ = some (.int .u64 (at39 LL p).f2.f2) ∧ W.frozen? ⟨go, p * 6 + 4, none⟩ = false) ∧ (W.cell? ⟨go, p * 6 + 5, none⟩ = some (.int .u64 (at39 LL p).f2.f3) ∧ W.frozen? ⟨go, p * 6 + 5, none⟩ = false) ∧
    ((((((W.setCell ⟨go, p * 6, none⟩ (.string x.f0)).setCell ⟨go, p * 6 + 1, none⟩ (.string x.f1)).setCell ⟨go, p * 6 + 2, none⟩ (.int .u64 x.f2.f0)).setCell ⟨go, p * 6 + 3, none⟩ (.int .u64 x.f2.f1)).setCell ⟨go, p * 6 + 4, none⟩ (.int .u64 x.f2.f2)).setCell ⟨go, p * 6 + 5, none⟩ (.int .u64 x.f2.f3)).ownsRow base 39 6 (.slice (some ⟨go, 0, none⟩) n cap) n (cells39 (LL.set p x)) := by
  have hs := split39 LL p hp
  have hl : (LL.take p).length = p := by rw [List.length_take]; omega
  have hset : LL.set p x = LL.take p ++ x :: LL.drop (p + 1) := by rw [List.set_eq_take_append_cons_drop, if_pos hp]
  rw [hset]
  generalize LL.take p = L1 at *
  generalize LL.drop (p + 1) = L2 at *
  generalize at39 LL p = y at *
  subst hs
  have c := fun i u hu => own_cell h (p * 6 + i) u (by have := cells39_at L1 L2 y i u hu; rwa [hl] at this)
  refine ⟨c 0 _ rfl, c 1 _ rfl, c 2 _ rfl, c 3 _ rfl, c 4 _ rfl, c 5 _ rfl, ?_⟩
  have ho := own_write (own_write (own_write (own_write (own_write (own_write h (p * 6) (.string x.f0)) (p * 6 + 1) (.string x.f1)) (p * 6 + 2) (.int .u64 x.f2.f0)) (p * 6 + 3) (.int .u64 x.f2.f1)) (p * 6 + 4) (.int .u64 x.f2.f2)) (p * 6 + 5) (.int .u64 x.f2.f3)
  have hcp := cells39_put6 L1 L2 y x
  rw [hl] at hcp
  rw [hcp] at ho
  exact ho
instance (a b : S25) : Decidable (a = b) := if h : a.f0 = b.f0 ∧ a.f1 = b.f1 ∧ a.f2 = b.f2 ∧ a.f3 = b.f3 then .isTrue (by cases a; cases b; simp_all) else .isFalse (fun e => h (by subst e; exact ⟨rfl, rfl, rfl, rfl⟩))
def setA (l : List S39) (t : S39) (k : Nat) : List S39 :=
  if isAt l t.f0 t.f1 k = true then (if t.f2 = z25 then l.take k ++ l.drop (k + 1) else l.set k t) else (if t.f2 = z25 then l else insL l k t)
theorem s25_eta (a : S25) (h0 : a.f0 = 0) (h1 : a.f1 = 0) (h2 : a.f2 = 0) (h3 : a.f3 = 0) : a = z25 := by
  cases a; simp only at h0 h1 h2 h3; subst h0 h1 h2 h3; rfl
theorem none_flag (a : S25) (h : a ≠ z25) : (a.f0 == 0 && (a.f1 == 0 && (a.f2 == 0 && (a.f3 == 0)))) = false := by
  by_cases h0 : a.f0 = 0
  · by_cases h1 : a.f1 = 0
    · by_cases h2 : a.f2 = 0
      · by_cases h3 : a.f3 = 0
        · exact absurd (s25_eta a h0 h1 h2 h3) h
        · simp [h3]
      · simp [h2]
    · simp [h1]
  · simp [h0]
set_option maxRecDepth 100000 in
set_option maxHeartbeats 4000000 in
theorem set_any (l : List S39) (hup : Up l) (t : S39) (A : Option Addr) (c : Nat) (w : World) (hC : Kd.C k39 w A l.length l) (hlen : l.length ≤ c) (hl1 : l.length ≤ 1000) :
    Calls Try.prog 25 #[.slice A l.length c, .agg (rowA t)] w fun e w' =>
      ∃ k v, Place l t.f0 t.f1 k ∧ e = .returned v ∧ w'.ownsRow w.heap.size 39 6 v (setA l t k).length (cells39 (setA l t k)) ∧ Below w.heap.size w w' := by
  have hu25 := Try.underlying25
  have hu39 := Try.underlying39
  have HT := Aside0.mk (And.intro (show Box (w.alloc (.cells (rowA t) 39)) w.heap.size 39 (rowA t) from blk_new w _) (below_alloc (Below.refl w.heap.size w) (.cells (rowA t) 39)))
  have Hi39 := Aside0.mk (show (Try.prog.info? 39).map (·.size) = some 6 by kernel_rfl)
  have HC := Aside0.mk hC
  clear hC
  go_enter Try.func25, Try.ntmps25
  go_wp2_with (refine load_cs rfl 39 _ rfl w.heap.size rfl 39 (rowA t) _ HT.out.1 Try.underlying39 rfl Hi39.out ?_)
  refine (place_any l hup t A c _ (Kd.C_below HC.out HT.out.2) hlen (by omega)).mono ?_
  rintro e w1 ⟨k, hk, rfl, hb⟩
  have HW1 := Aside0.mk (below_step HT.out.2 hb)
  have HX1 := Aside0.mk (show Box w1 w.heap.size 39 (rowA t) from blk_below HT.out.1 hb)
  have HK := Aside0.mk hk
  clear hb hk
  go_wp2_with fail
  refine (clone_any A c l w1 (Kd.C_below HC.out HW1.out) hlen hl1).mono ?_
  rintro e w2 ⟨v, rfl, hown, hb⟩
  have HW2 := Aside0.mk (below_step HW1.out hb)
  have HX2 := Aside0.mk (show Box w2 w.heap.size 39 (rowA t) from blk_below HX1.out hb)
  have HO := Aside0.mk (own_weaken hown HW1.out.size)
  clear hb hown HX1
  have b0 := HX2.out.cell 0 (.string t.f0) rfl
  have b1 := HX2.out.cell 1 (.string t.f1) rfl
  have HSA := Aside0.mk (show setA l t k = if isAt l t.f0 t.f1 k = true then (if t.f2 = z25 then l.take k ++ l.drop (k + 1) else l.set k t) else (if t.f2 = z25 then l else insL l k t) from rfl)
  have hle := HK.out.le
  by_cases hz : t.f2 = z25
  · have b2 : w2.cell? ⟨w.heap.size, 2, none⟩ = some (.int .u64 0) := HX2.out.cell 2 (.int .u64 0) (by rw [show rowA t = #[.string t.f0, .string t.f1, .int .u64 t.f2.f0, .int .u64 t.f2.f1, .int .u64 t.f2.f2, .int .u64 t.f2.f3] from rfl, hz]; rfl)
    have b3 : w2.cell? ⟨w.heap.size, 3, none⟩ = some (.int .u64 0) := HX2.out.cell 3 (.int .u64 0) (by rw [show rowA t = #[.string t.f0, .string t.f1, .int .u64 t.f2.f0, .int .u64 t.f2.f1, .int .u64 t.f2.f2, .int .u64 t.f2.f3] from rfl, hz]; rfl)
    have b4 : w2.cell? ⟨w.heap.size, 4, none⟩ = some (.int .u64 0) := HX2.out.cell 4 (.int .u64 0) (by rw [show rowA t = #[.string t.f0, .string t.f1, .int .u64 t.f2.f0, .int .u64 t.f2.f1, .int .u64 t.f2.f2, .int .u64 t.f2.f3] from rfl, hz]; rfl)
    have b5 : w2.cell? ⟨w.heap.size, 5, none⟩ = some (.int .u64 0) := HX2.out.cell 5 (.int .u64 0) (by rw [show rowA t = #[.string t.f0, .string t.f1, .int .u64 t.f2.f0, .int .u64 t.f2.f1, .int .u64 t.f2.f2, .int .u64 t.f2.f3] from rfl, hz]; rfl)
    rw [if_pos hz, if_pos hz] at HSA
    cases hf : isAt l t.f0 t.f1 k
    · rw [hf, if_neg (by simp)] at HSA
      go_wp2_with fail
      refine bodyPost_ret (v := v) (by simp [results, Try.results25, go_sem]) rfl ⟨k, v, HK.out, rfl, ?_, HW2.out⟩
      rw [HSA.out]; exact HO.out
    · rw [hf, if_pos rfl] at HSA
      have hlt : k < l.length := by
        have := hf
        simp only [isAt, Bool.and_eq_true, decide_eq_true_eq] at this
        exact this.1
      rcases HO.out.2 with ⟨_, hz0⟩ | ⟨g, cap, cur, hv0, hbg, _⟩
      · omega
      subst hv0
      go_wp2_with fail
      refine (delete_any l l.length k rfl hlt hl1 (l.length - 1) (by omega) w.heap.size g cap w2 HO.out).mono ?_
      rintro e w3 ⟨rfl, ho3, hb3⟩
      have HO3 := Aside0.mk ho3
      have HB3 := Aside0.mk hb3
      clear ho3 hb3
      go_wp2_with fail
      refine bodyPost_ret (v := .slice (some ⟨g, 0, none⟩) (l.length - 1) cap) (by simp [results, Try.results25, go_sem]) rfl ⟨k, _, HK.out, rfl, ?_, But.below HW2.out HB3.out hbg (Nat.le_refl _)⟩
      rw [HSA.out, show (l.take k ++ l.drop (k + 1)).length = l.length - 1 by simp; omega]
      exact HO3.out
  · have hnf := none_flag t.f2 hz
    have b2 := HX2.out.cell 2 (.int .u64 t.f2.f0) rfl
    have b3 := HX2.out.cell 3 (.int .u64 t.f2.f1) rfl
    have b4 := HX2.out.cell 4 (.int .u64 t.f2.f2) rfl
    have b5 := HX2.out.cell 5 (.int .u64 t.f2.f3) rfl
    rw [if_neg hz, if_neg hz] at HSA
    cases hf : isAt l t.f0 t.f1 k
    · rw [hf, if_neg (by simp)] at HSA
      have hbn := blk_new w2 (.cells (rowA t) 39)
      have hba := below_alloc (Below.refl w2.heap.size w2) (.cells (rowA t) 39)
      have HBN := Aside0.mk (And.intro (show Box (w2.alloc (.cells (rowA t) 39)) w2.heap.size 39 (rowA t) from hbn) hba)
      clear hbn hba
      go_wp2_with fail
      refine (insert_any l l.length k rfl hle (by omega) t w.heap.size _ (by have := HW2.out.size; have := HBN.out.2.size; omega) v (own_below HO.out HBN.out.2) w2.heap.size HBN.out.1 (fun e => Nat.lt_irrefl _ (own_lt HO.out _ e))).mono ?_
      rintro e w3 ⟨v', rfl, ho3, hb3⟩
      have HO3 := Aside0.mk ho3
      have HB3 := Aside0.mk (((HW2.out.trans (HBN.out.2.mono HW2.out.size)).trans hb3))
      clear ho3 hb3
      go_wp2_with fail
      refine bodyPost_ret (v := v') (by simp [results, Try.results25, go_sem]) rfl ⟨k, _, HK.out, rfl, ?_, HB3.out⟩
      rw [HSA.out, insL_len _ _ _ hle]
      exact HO3.out
    · rw [hf, if_pos rfl] at HSA
      have hlt : k < l.length := by
        have := hf
        simp only [isAt, Bool.and_eq_true, decide_eq_true_eq] at this
        exact this.1
      rcases HO.out.2 with ⟨_, hz0⟩ | ⟨g, cap, cur, hv0, hbg, _⟩
      · omega
      subst hv0
      obtain ⟨⟨q0, z0⟩, ⟨q1, z1⟩, ⟨q2, z2⟩, ⟨q3, z3⟩, ⟨q4, z4⟩, ⟨q5, z5⟩, ho⟩ := own_put6 HO.out k hlt t
      have HO3 := Aside0.mk ho
      clear ho
      have i1 : decide ((k : Int) < l.length) = true := decide_eq_true (by omega)
      go_wp2_with fail
      refine bodyPost_ret (v := .slice (some ⟨g, 0, none⟩) l.length cap) (by simp [results, Try.results25, go_sem]) rfl ⟨k, _, HK.out, rfl, ?_, ?_⟩
      · rw [HSA.out, List.length_set]; exact HO3.out
      · exact below_set (below_set (below_set (below_set (below_set (below_set HW2.out hbg) hbg) hbg) hbg) hbg) hbg
end Go.Proofs.Ytnedmaddjikmkaa.P

namespace Go.Proofs.Ytnedmaddjikmkaa.P
set_option linter.unusedVariables false
set_option linter.unusedSimpArgs false
open Go.RowKit Go.Shelf Go.Proofs.YtnedmaddjikmkaaW.PrintWords
/-! What acct.Get and acct.set tell, as functions. -/
/-- How many come before a key. -/
def placeK (l : List S39) (b0 b1 : ByteArray) : Nat := (l.takeWhile fun x => decide (ordA x b0 b1 < 0)).length
instance (l : List S39) : Decidable (Up l) := decidable_of_iff (∀ i, i < l.length - 1 → ordA (at39 l i) (at39 l (i + 1)).f0 (at39 l (i + 1)).f1 < 0) ⟨fun h i hi => h i (by omega), fun h i hi => h i (by omega)⟩
theorem at39_cons (x : S39) (l : List S39) (i : Nat) : at39 (x :: l) (i + 1) = at39 l i := by simp [at39]
theorem placeK_ok {l : List S39} (h : Up l) (b0 b1 : ByteArray) : Place l b0 b1 (placeK l b0 b1) := by
  induction l with
  | nil => exact ⟨Nat.le_refl _, fun i hi => absurd hi (Nat.not_lt_zero _), fun i _ hi => absurd hi (Nat.not_lt_zero _)⟩
  | cons x l ih =>
    have hl : Up l := fun i hi => by
      have := h (i + 1) (by simp; omega)
      rw [at39_cons, at39_cons] at this
      exact this
    have ih := ih hl
    by_cases hx : ordA x b0 b1 < 0
    · have e : placeK (x :: l) b0 b1 = placeK l b0 b1 + 1 := by simp [placeK, hx]
      rw [e]
      refine ⟨by have := ih.le; simp; omega, fun i hi => ?_, fun i h1 h2 => ?_⟩
      · cases i with
        | zero => exact hx
        | succ i => rw [at39_cons]; exact ih.lo i (by omega)
      · cases i with
        | zero => omega
        | succ i => rw [at39_cons]; exact ih.hi i (by omega) (by simp at h2; omega)
    · have e : placeK (x :: l) b0 b1 = 0 := by simp [placeK, hx]
      rw [e]
      refine ⟨Nat.zero_le _, fun i hi => absurd hi (Nat.not_lt_zero _), fun i _ h2 => ?_⟩
      by_cases hz : ordA (at39 (x :: l) i) b0 b1 < 0
      · exact absurd (ordA_mono h b0 b1 (i := 0) (j := i) (Nat.zero_le _) h2 hz) hx
      · omega
def acct_Get.f (l : List S39) (b0 b1 : ByteArray) : Option (Int × Int × Int × Int) :=
  if Up l ∧ l.length ≤ 100000 then some ((getA l b0 b1 (placeK l b0 b1)).f0, (getA l b0 b1 (placeK l b0 b1)).f1, (getA l b0 b1 (placeK l b0 b1)).f2, (getA l b0 b1 (placeK l b0 b1)).f3) else none
theorem acct_Get.calls (A0 : Option Addr) (c0 : Nat) (l0 : List S39) (a1 a2 : ByteArray) (r1 r2 r3 r4 : Int) (w : World) (hr0 : Kd.C k39 w A0 l0.length l0) (hc0 : l0.length ≤ c0) (h : acct_Get.f l0 a1 a2 = some (r1, r2, r3, r4)) :
    Calls Try.prog 21 #[.slice A0 l0.length c0, .string a1, .string a2] w fun e w' => e = .returned (.agg #[.int .u64 r1, .int .u64 r2, .int .u64 r3, .int .u64 r4]) ∧ Below w.heap.size w w' := by
  unfold acct_Get.f at h
  split at h
  · rename_i hk
    injection h with h
    injection h with e1 h
    injection h with e2 h
    injection h with e3 e4
    subst e1 e2 e3 e4
    refine (get_any l0 hk.1 a1 a2 A0 c0 w hr0 hc0 hk.2).mono ?_
    rintro e w' ⟨k, hp, rfl, hb⟩
    rw [Place.one hp (placeK_ok hk.1 a1 a2)]
    exact ⟨rfl, hb⟩
  · cases h
def acct_set.f (l : List S39) (t0 t1 : ByteArray) (t2 t3 t4 t5 : Int) : Option (List S39) :=
  if Up l ∧ l.length ≤ 1000 then some (setA l ⟨t0, t1, ⟨t2, t3, t4, t5⟩⟩ (placeK l t0 t1)) else none
theorem acct_set.calls (A0 : Option Addr) (c0 : Nat) (l0 : List S39) (a1_0 a1_1 : ByteArray) (a1_2 a1_3 a1_4 a1_5 : Int) (r : List S39) (w : World) (hr0 : Kd.C k39 w A0 l0.length l0) (hc0 : l0.length ≤ c0) (h : acct_set.f l0 a1_0 a1_1 a1_2 a1_3 a1_4 a1_5 = some r) :
    Calls Try.prog 25 #[.slice A0 l0.length c0, .agg #[.string a1_0, .string a1_1, .int .u64 a1_2, .int .u64 a1_3, .int .u64 a1_4, .int .u64 a1_5]] w fun e w' => ∃ v0_ : Value, e = .returned (v0_) ∧ Kd.R k39 39 w' w.heap.size (fun _ => True) v0_ r ∧ Below w.heap.size w w' := by
  unfold acct_set.f at h
  split at h
  · rename_i hk
    injection h with h
    subst h
    refine (set_any l0 hk.1 ⟨a1_0, a1_1, ⟨a1_2, a1_3, a1_4, a1_5⟩⟩ A0 c0 w hr0 hc0 hk.2).mono ?_
    rintro e w' ⟨k, v, hp, rfl, ho, hb⟩
    have hp : Place l0 a1_0 a1_1 k := hp
    rw [Place.one hp (placeK_ok hk.1 a1_0 a1_1)] at ho
    exact ⟨v, rfl, R_of_cells39 ho (fun _ => True) (fun _ _ => trivial), hb⟩
  · cases h
#print axioms acct_set.calls
end Go.Proofs.Ytnedmaddjikmkaa.P


