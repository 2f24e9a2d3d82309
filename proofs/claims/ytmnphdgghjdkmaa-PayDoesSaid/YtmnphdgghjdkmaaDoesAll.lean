import Derived.Test.YtmnphdgghjdkmaaPayF
import Derived.ProofKit
import Derived.OpenShut
import Derived.ShutString
import Derived.Lib.SmallJoins
import Derived.Deep.Slices
import Derived.Test.YtmnphdgghjdkmaaPureO
import Derived.Test.YtmnphdgghjdkmaaPtruceref17Transfer
import Derived.Test.YtmnphdgghjdkmaaPtrucelaw17PayDoes
namespace Go.Proofs.Ytmnphdgghjdkmaa.P
set_option linter.unusedSectionVars false
set_option linter.unusedSimpArgs false
open Go.ChangeShapes Go.WideShapes Go.ChangeAt Go.RowKit Go.Joins Go.Deep Go.Proofs.YtmnphdgghjdkmaaW.PrintWords
/-! Parameters opened: rows, and numbers of four words. -/
theorem word_in {n : Int} (h : (Lit.int .u64 n).wf = true) : 0 ≤ n ∧ n < 18446744073709551616 := by
  simp only [Lit.wf, Bool.and_eq_true, decide_eq_true_eq] at h
  have h1 : (0 : Int) ≤ n := h.1
  have h2 : n ≤ 18446744073709551615 := h.2
  omega
section
variable {H : Type} {enc : TypeId × Value → H} {W : World} {base : Nat} {spare : Nat → Bool} {held : Bool} {d : DataW H} {p : List MemPlace}
theorem okWide_array {P : Program} {w : World} {r : Reach} {base : Nat} {t e : TypeId} {n : Nat} {v : Value} (ht : P.underlying t = some (.array n e)) (h : Value.okWide P w r base t v) : ∃ cs, v = .agg cs ∧ cs.size = P.cellsOf t := by
  simp only [Value.okWide, ht] at h
  obtain ⟨cs, h1, h2, _⟩ := h
  exact ⟨cs, h1, h2⟩
/-- A row of whatever elements. -/
theorem open_rowC {α : Type} {k : Kd α} {P : Program} {t e : TypeId} {v : Value} {b0 : Nat} {r : Reach} (ok : α → Prop) (ht : P.underlying t = some (.slice e)) (hc : P.cellsOf e = k.sz)
    (hel : ∀ n cs x, cs.length = k.sz → DataW.trod enc P W base spare held n e cs = some x → ∃ a, ok a ∧ k.K W a cs)
    (hv : Value.okWide P W r b0 t v) (h : DataW.Trod enc P W base spare held t v d p) : ∃ (l : List α) (A : Option Addr) (c : Nat), v = .slice A l.length c ∧ l.length ≤ c ∧ k.C W A l.length l ∧ ∀ a ∈ l, ok a := by
  obtain ⟨a0, len0, cap0, rfl⟩ := okWide_slice ht hv
  obtain ⟨fuel, hf⟩ := h
  rcases open_slice ht hf with ⟨hcs, _⟩ | ⟨a, len, cap, m, n, D, Pl, hcs, _, hl, hcap, hm, _, hx⟩
  · simp only [Value.cells, List.cons.injEq, and_true] at hcs
    exact ⟨[], none, 0, hcs, Nat.le_refl _, Kd.C_nil k W, fun a ha => by simp at ha⟩
  · have hv' : Value.slice a0 len0 cap0 = .slice (some a) len cap := by simpa [Value.cells] using hcs
    have hlm : len ≤ m := by rw [hm]; split <;> omega
    have hone : ∀ i : Fin len, ∃ x, ok x ∧ ∃ cs, cs.length = k.sz ∧ k.K W x cs ∧ ∀ j u, cs[j]? = some u → W.cell? (a.add (i * k.sz + j)) = some u := by
      intro i
      obtain ⟨cs, h1, h2⟩ := hx i (by omega)
      obtain ⟨_, hlen, hcell⟩ := World.cells?_some h1
      rw [hc] at hlen hcell
      obtain ⟨x, hok, hK⟩ := hel _ _ _ hlen h2
      refine ⟨x, hok, cs, hlen, hK, fun j u hj => ?_⟩
      have hjl := (List.getElem?_eq_some_iff.1 hj).1
      rw [← Go.Deep.add_add, hcell j (by omega), hj]
    obtain ⟨f, hf'⟩ := Classical.axiomOfChoice hone
    have hll : (List.ofFn f).length = len := List.length_ofFn
    refine ⟨List.ofFn f, some a, cap, by rw [hv', hll], by omega, ?_, ?_⟩
    · refine ⟨rfl, ?_, fun _ => ⟨a, rfl, fun j x hj => ?_⟩⟩
      · rw [hll]
        have : cap ≤ 9223372036854775807 := hcap
        omega
      · have hjl := (List.getElem?_eq_some_iff.1 hj).1
        rw [hll] at hjl
        have hx' : f ⟨j, hjl⟩ = x := by
          have := (List.getElem?_eq_some_iff.1 hj).2
          simpa using this
        obtain ⟨_, cs, h1, h2, h3⟩ := hf' ⟨j, hjl⟩
        rw [hx'] at h2
        exact ⟨cs, h1, h2, h3⟩
    · intro x hx'
      obtain ⟨i, rfl⟩ := List.mem_ofFn.1 hx'
      exact (hf' i).1
theorem trod_u4 {n : Nat} {cs : List Value} {x : DataW H × List MemPlace} (h : DataW.trod enc Try.prog W base spare held n 24 cs = some x) : ∃ a : S24, ok4 a.f0 a.f1 a.f2 a.f3 ∧ cs = [.int .u64 a.f0, .int .u64 a.f1, .int .u64 a.f2, .int .u64 a.f3] := by
  obtain ⟨xs, m, _, _, hl, hx, hi⟩ := DataW.trod_array Try.underlying24 h
  have hc : Try.prog.cellsOf 22 = 1 := by kernel_rfl
  have hc4 : Try.prog.cellsOf 24 = 4 := by kernel_rfl
  rw [hc4] at hl
  rw [hc] at hi
  match cs, hl with
  | [c0, c1, c2, c3], _ =>
    match xs, hx with
    | [x0, x1, x2, x3], _ =>
      have i0 := hi 0 (by omega)
      have i1 := hi 1 (by omega)
      have i2 := hi 2 (by omega)
      have i3 := hi 3 (by omega)
      simp only [Nat.zero_mul, Nat.one_mul, List.drop_zero, List.drop_succ_cons, List.take_succ_cons, List.take_zero, List.getElem?_cons_zero, List.getElem?_cons_succ] at i0 i1 i2 i3
      obtain ⟨n0, e0, _, w0⟩ := DataW.trod_int Try.underlying22 i0
      obtain ⟨n1, e1, _, w1⟩ := DataW.trod_int Try.underlying22 i1
      obtain ⟨n2, e2, _, w2⟩ := DataW.trod_int Try.underlying22 i2
      obtain ⟨n3, e3, _, w3⟩ := DataW.trod_int Try.underlying22 i3
      simp only [List.cons.injEq, and_true] at e0 e1 e2 e3
      subst e0 e1 e2 e3
      exact ⟨⟨n0, n1, n2, n3⟩, ⟨word_in w0, word_in w1, word_in w2, word_in w3⟩, rfl⟩
theorem open_u4 {v : Value} {b0 : Nat} {r : Reach} (hv : Value.okWide Try.prog W r b0 24 v) (h : DataW.Trod enc Try.prog W base spare held 24 v d p) : ∃ a : S24, v = .agg #[.int .u64 a.f0, .int .u64 a.f1, .int .u64 a.f2, .int .u64 a.f3] ∧ ok4 a.f0 a.f1 a.f2 a.f3 := by
  obtain ⟨cs, rfl, hsz⟩ := okWide_array Try.underlying24 hv
  obtain ⟨fuel, hf⟩ := h
  obtain ⟨a, hok, hcs⟩ := trod_u4 hf
  refine ⟨a, ?_, hok⟩
  congr 1
  apply Array.ext'
  exact hcs
theorem trod_alloc {n : Nat} {cs : List Value} {x : DataW H × List MemPlace} (hlen : cs.length = k40.sz) (h : DataW.trod enc Try.prog W base spare held n 40 cs = some x) : ∃ a : S40, okA a ∧ k40.K W a cs := by
  obtain ⟨xs, m, _, _, hl, hx, hi⟩ := DataW.trod_struct Try.underlying40 h
  have h8 : cs.length = 8 := hlen
  have hc9 : Try.prog.cellsOf 9 = 1 := by kernel_rfl
  have hc3 : Try.prog.cellsOf 3 = 1 := by kernel_rfl
  have hc24 : Try.prog.cellsOf 24 = 4 := by kernel_rfl
  have i0 : DataW.trod enc Try.prog W base spare held m 9 ((cs.drop 0).take (Try.prog.cellsOf 9)) = xs[0]? := hi 0 _ rfl
  have i1 : DataW.trod enc Try.prog W base spare held m 24 ((cs.drop 1).take (Try.prog.cellsOf 24)) = xs[1]? := hi 1 _ rfl
  have i2 : DataW.trod enc Try.prog W base spare held m 3 ((cs.drop 5).take (Try.prog.cellsOf 3)) = xs[2]? := hi 2 _ rfl
  have i3 : DataW.trod enc Try.prog W base spare held m 9 ((cs.drop 6).take (Try.prog.cellsOf 9)) = xs[3]? := hi 3 _ rfl
  have i4 : DataW.trod enc Try.prog W base spare held m 9 ((cs.drop 7).take (Try.prog.cellsOf 9)) = xs[4]? := hi 4 _ rfl
  match cs, h8 with
  | [c0, c1, c2, c3, c4, c5, c6, c7], _ =>
    match xs, hx with
    | [x0, x1, x2, x3, x4], _ =>
      simp only [hc9, hc3, hc24, List.drop_zero, List.drop_succ_cons, List.take_succ_cons, List.take_zero, List.getElem?_cons_zero, List.getElem?_cons_succ] at i0 i1 i2 i3 i4
      obtain ⟨s0, e0, _, _⟩ := DataW.trod_string Try.underlying9 i0
      obtain ⟨u, hok, e1⟩ := trod_u4 i1
      obtain ⟨n2, e2, _, w2⟩ := DataW.trod_int Try.underlying3 i2
      obtain ⟨s3, e3, _, _⟩ := DataW.trod_string Try.underlying9 i3
      obtain ⟨s4, e4, _, _⟩ := DataW.trod_string Try.underlying9 i4
      simp only [List.cons.injEq, and_true] at e0 e1 e2 e3 e4
      obtain ⟨rfl, rfl, rfl, rfl⟩ := e1
      subst e0 e2 e3 e4
      exact ⟨⟨s0, u, n2, s3, s4⟩, hok, k40_mk W _⟩
theorem open_allocs {v : Value} {b0 : Nat} {r : Reach} (hv : Value.okWide Try.prog W r b0 25 v) (h : DataW.Trod enc Try.prog W base spare held 25 v d p) : ∃ (l : List S40) (A : Option Addr) (c : Nat), v = .slice A l.length c ∧ l.length ≤ c ∧ k40.C W A l.length l ∧ okL l :=
  open_rowC okA Try.underlying25 (by kernel_rfl) (fun n cs x hl hx => trod_alloc hl hx) hv h
theorem open_places {v : Value} {b0 : Nat} {r : Reach} (hv : Value.okWide Try.prog W r b0 26 v) (h : DataW.Trod enc Try.prog W base spare held 26 v d p) : ∃ (l : List Int) (A : Option Addr) (c : Nat), v = .slice A l.length c ∧ l.length ≤ c ∧ (Kd.int .i64).C W A l.length l ∧ ∀ a ∈ l, True :=
  open_rowC (fun _ => True) Try.underlying26 (by kernel_rfl) (fun n cs x hl hx => by
    obtain ⟨n2, e2, _, w2⟩ := DataW.trod_int Try.underlying3 hx
    exact ⟨n2, trivial, e2⟩) hv h
end
end Go.Proofs.Ytmnphdgghjdkmaa.P

namespace Go.Proofs.Ytmnphdgghjdkmaa.P
set_option linter.unusedVariables false
set_option linter.unusedSimpArgs false
set_option linter.unusedSectionVars false
open Go.RowKit Go.Proofs.YtmnphdgghjdkmaaW.PrintWords
/-! Payments are the document's. -/
theorem rd_nat (W : List Int) (i : Nat) : rd W (i : Int) = W.getD i 0 := by simp [rd]
theorem subF_sw (A B : List W64) (hA : A.length = 4) (hB : B.length = 4) : truceref01_Sub.f (sw A).f0 (sw A).f1 (sw A).f2 (sw A).f3 (sw B).f0 (sw B).f1 (sw B).f2 (sw B).f3 =
    some ((sw (subk A B 4).1).f0, (sw (subk A B 4).1).f1, (sw (subk A B 4).1).f2, (sw (subk A B 4).1).f3, decide ((subk A B 4).2 > 0)) := by
  unfold truceref01_Sub.f subF
  rw [if_pos ⟨ok4_sw A, ok4_sw B⟩, wl4_sw A hA, wl4_sw B hB]
  rfl
theorem subF_am (a : S40) (h : okA a) (B : List W64) (hB : B.length = 4) : truceref01_Sub.f a.f1.f0 a.f1.f1 a.f1.f2 a.f1.f3 (sw B).f0 (sw B).f1 (sw B).f2 (sw B).f3 =
    some ((sw (subk (am a) B 4).1).f0, (sw (subk (am a) B 4).1).f1, (sw (subk (am a) B 4).1).f2, (sw (subk (am a) B 4).1).f3, decide ((subk (am a) B 4).2 > 0)) := by
  have := subF_sw (am a) B rfl hB
  rwa [sw_am a h] at this
theorem least_sw (A : List W64) (hA : A.length = 4) (a : S40) (h : okA a) : truceref17_least.f (sw A).f0 (sw A).f1 (sw A).f2 (sw A).f3 a.f1.f0 a.f1.f1 a.f1.f2 a.f1.f3 =
    some ((sw (covN A (am a))).f0, (sw (covN A (am a))).f1, (sw (covN A (am a))).f2, (sw (covN A (am a))).f3) := by
  unfold truceref17_least.f truceref01_Cmp.f cmpF
  rw [if_pos ⟨ok4_sw A, h⟩, Option.bind_some]
  unfold uv
  rw [wl4_sw A hA, covN, ncmp_val _ _ hA (am_len a)]
  show (if cmpN (val A) (val (am a)) < 0 then _ else _) = _
  split
  · rfl
  · rw [sw_am a h]
section
variable {H : List W64} {l : List S40} {W : List Int} (hH : H.length = 4) (hl : okL l) (h60 : l.length ≤ 60) (hW : W.length ≤ 100)
theorem rd40_nat (l : List S40) (i : Nat) : rd_T40 l (i : Int) = at40 l i := by simp [rd_T40, at40]
theorem at40_mem' {l : List S40} {k : Nat} (hk : k < l.length) : at40 l k ∈ l := by simp only [at40, List.getD_eq_getElem?_getD, List.getElem?_eq_getElem hk, Option.getD_some]; exact List.getElem_mem hk
theorem range_snoc {α : Type} (f : Nat → α) (i : Nat) : (List.range i).map f ++ [f i] = (List.range (i + 1)).map f := by rw [List.range_succ, List.map_append]; rfl
include hH hl h60 in
theorem afford_l0 : ∀ (d i k : Nat), l.length - i ≤ d → i ≤ l.length → d < k →
    truceref17_Afford.l0 k l ((List.range i).map fun k => sw (cAt H l k)) (i : Int) (sw (hAt H l i)).f0 (sw (hAt H l i)).f1 (sw (hAt H l i)).f2 (sw (hAt H l i)).f3 = some ((List.range l.length).map fun k => sw (cAt H l k)) := by
  intro d
  induction d with
  | zero =>
    intro i k hd hi hk
    obtain ⟨k, rfl⟩ : ∃ j, k = j + 1 := ⟨k - 1, by omega⟩
    obtain rfl : i = l.length := by omega
    rw [truceref17_Afford.l0, if_neg (by omega)]
  | succ d ih =>
    intro i k hd hi hk
    by_cases h : i < l.length
    · obtain ⟨k, rfl⟩ : ∃ j, k = j + 1 := ⟨k - 1, by omega⟩
      have hA := hAt_len H l hH i
      have hC : (covN (hAt H l i) (am (at40 l i))).length = 4 := covN_len hA (am_len _)
      rw [truceref17_Afford.l0, if_pos (by omega), if_pos (by omega), rd40_nat, least_sw _ hA _ (hl _ (at40_mem' h)), Option.bind_some]
      dsimp only
      rw [if_pos (by simp; omega), subF_sw _ _ hA hC, Option.bind_some, wrap_nat1 i (by omega)]
      have e := range_snoc (fun k => sw (cAt H l k)) i
      have := ih (i + 1) k (by omega) (by omega) (by omega)
      rw [← e] at this
      exact this
    · exact ih i k (by omega) hi (by omega)
theorem named_l0 (W : List Int) (hW : W.length ≤ 100) (x : Int) : ∀ (d i k : Nat), W.length - i ≤ d → i ≤ W.length → d < k → (∀ j, j < i → W.getD j 0 ≠ x) →
    truceref17_named.l0 k W x (i : Int) = some (decide (x ∈ W ∨ W.length = 0)) := by
  intro d
  induction d with
  | zero =>
    intro i k hd hi hk hn
    obtain ⟨k, rfl⟩ : ∃ j, k = j + 1 := ⟨k - 1, by omega⟩
    obtain rfl : i = W.length := by omega
    rw [truceref17_named.l0, if_neg (by omega)]
    congr 1
    have : x ∉ W := by
      intro hm
      obtain ⟨j, hj, e⟩ := List.getElem_of_mem hm
      refine hn j hj ?_
      rw [List.getD_eq_getElem?_getD, List.getElem?_eq_getElem hj]
      exact e
    by_cases h0 : W.length = 0
    · simp [h0]
    · simp [h0, this]
  | succ d ih =>
    intro i k hd hi hk hn
    by_cases h : i < W.length
    · obtain ⟨k, rfl⟩ : ∃ j, k = j + 1 := ⟨k - 1, by omega⟩
      rw [truceref17_named.l0, if_pos (by omega), if_pos (by omega), rd_nat]
      by_cases hx : W.getD i 0 = x
      · rw [if_pos hx]
        have : x ∈ W := by
          rw [List.getD_eq_getElem?_getD, List.getElem?_eq_getElem h] at hx
          rw [← hx]
          exact List.getElem_mem h
        simp [this]
      · rw [if_neg hx, wrap_nat1 i (by omega)]
        refine ih (i + 1) k (by omega) (by omega) (by omega) (fun j hj => ?_)
        by_cases hji : j = i
        · subst hji; exact hx
        · exact hn j (by omega)
    · exact ih i k (by omega) hi (by omega) hn
theorem named_val (W : List Int) (hW : W.length ≤ 100) (x : Int) (k : Nat) (hk : 100 < k) : truceref17_named.f k W x = some (decide (x ∈ W ∨ W.length = 0)) :=
  named_l0 W hW x W.length 0 k (by omega) (by omega) (by omega) (fun j hj => by omega)
theorem rd24_p (f : Nat → List W64) (n i : Nat) (hi : i < n) : rd_T24 ((List.range n).map fun k => sw (f k)) (i : Int) = sw (f i) := by
  simp [rd_T24, List.getD_eq_getElem?_getD, hi]
include hH hl h60 hW in
theorem trans_l2 : ∀ (d i k : Nat), l.length - i ≤ d → i ≤ l.length → 2 * d + 150 < k →
    truceref17_Transfer.l2 k l W ((List.range l.length).map fun k => sw (cAt H l k)) ((List.range i).map (oAt H l W)) ((List.range i).map fun k => sw (nAt H l W k)) (i : Int) (sw (lAt H l W i)).f0 (sw (lAt H l W i)).f1 (sw (lAt H l W i)).f2 (sw (lAt H l W i)).f3 =
      some ((List.range l.length).map (oAt H l W), (List.range l.length).map (fun k => sw (nAt H l W k)), (sw (lAt H l W l.length)).f0, (sw (lAt H l W l.length)).f1, (sw (lAt H l W l.length)).f2, (sw (lAt H l W l.length)).f3, 0) := by
  intro d
  induction d with
  | zero =>
    intro i k hd hi hk
    obtain ⟨k, rfl⟩ : ∃ j, k = j + 1 := ⟨k - 1, by omega⟩
    obtain rfl : i = l.length := by omega
    rw [truceref17_Transfer.l2, if_neg (by omega)]
  | succ d ih =>
    intro i k hd hi hk
    by_cases h : i < l.length
    · obtain ⟨k, rfl⟩ : ∃ j, k = j + 2 := ⟨k - 2, by omega⟩
      have hA := lAt_len H l W hH i
      have hN := nAt_len H l W hH i
      have hok := hl _ (at40_mem' h)
      have e1 := range_snoc (oAt H l W) i
      have e2 := range_snoc (fun k => sw (nAt H l W k)) i
      have := ih (i + 1) k (by omega) (by omega) (by omega)
      rw [← e1, ← e2] at this
      rw [truceref17_Transfer.l2, if_pos (by omega), if_pos (by omega), named_val W hW _ _ (by omega), Option.bind_some, rd40_nat]
      have l1 : ((List.range i).map (oAt H l W)).length < 1599289640401 := by simp; omega
      have l2 : ((List.range i).map fun k => sw (nAt H l W k)).length < 4398046511104 := by simp; omega
      have key : ∀ b : Bool, (b = true → nAt H l W i = cAt H l i) → (b = false → nAt H l W i = zero4) →
          truceref17_Transfer.j3 (k + 1) l W ((List.range l.length).map fun k => sw (cAt H l k)) ((List.range i).map (oAt H l W)) ((List.range i).map fun k => sw (nAt H l W k)) (i : Int) b (sw (lAt H l W i)).f0 (sw (lAt H l W i)).f1 (sw (lAt H l W i)).f2 (sw (lAt H l W i)).f3
            (at40 l i).f0 (at40 l i).f1.f0 (at40 l i).f1.f1 (at40 l i).f1.f2 (at40 l i).f1.f3 (at40 l i).f2 (at40 l i).f3 (at40 l i).f4 0 0 0 0 = some ((List.range l.length).map (oAt H l W), (List.range l.length).map (fun k => sw (nAt H l W k)), (sw (lAt H l W l.length)).f0, (sw (lAt H l W l.length)).f1, (sw (lAt H l W l.length)).f2, (sw (lAt H l W l.length)).f3, 0) := by
        intro b hb1 hb0
        rw [truceref17_Transfer.j3]
        cases b with
        | true =>
          have hn := hb1 rfl
          rw [if_pos rfl, if_pos (by omega), if_pos (by simp; omega), rd24_p _ _ i h, ← hn, subF_am _ hok _ hN, Option.bind_some]
          dsimp only
          rw [subF_sw _ _ hA hN, Option.bind_some]
          dsimp only
          rw [if_pos l1, if_pos l2, wrap_nat1 i (by omega)]
          exact this
        | false =>
          have hn := hb0 rfl
          have hz : (0 : Int) = (sw (nAt H l W i)).f0 ∧ (0 : Int) = (sw (nAt H l W i)).f1 ∧ (0 : Int) = (sw (nAt H l W i)).f2 ∧ (0 : Int) = (sw (nAt H l W i)).f3 := by rw [hn]; exact ⟨rfl, rfl, rfl, rfl⟩
          have s1 := subF_am _ hok _ hN
          have s2 := subF_sw _ _ hA hN
          rw [← hz.1, ← hz.2.1, ← hz.2.2.1, ← hz.2.2.2] at s1 s2
          rw [if_neg (by simp), s1, Option.bind_some]
          dsimp only
          rw [s2, Option.bind_some]
          dsimp only
          rw [if_pos l1, if_pos l2, wrap_nat1 i (by omega)]
          have hz4 : (⟨0, 0, 0, 0⟩ : S24) = sw (nAt H l W i) := by rw [hn]; rfl
          rw [hz4]
          exact this
      by_cases hm : (i : Int) ∈ W ∨ W.length = 0
      · rw [decide_eq_true hm, if_pos rfl]
        refine key _ (fun hb => ?_) (fun hb => ?_)
        · have h0 : (at40 l i).f2 = 0 := by simpa using hb
          rw [nAt, if_neg]
          rintro (h1 | ⟨h1, h2⟩)
          · exact h1 h0
          · rcases hm with hm | hm
            · exact h2 hm
            · omega
        · have h0 : (at40 l i).f2 ≠ 0 := by simpa using hb
          rw [nAt, if_pos (.inl h0)]
      · rw [decide_eq_false hm, if_neg (by simp)]
        refine key _ (fun hb => by cases hb) (fun _ => ?_)
        rw [nAt, if_pos (.inr ⟨by omega, fun h2 => hm (.inl h2)⟩)]
    · exact ih i k (by omega) hi (by omega)
end
end Go.Proofs.Ytmnphdgghjdkmaa.P

namespace Go.Proofs.Ytmnphdgghjdkmaa.P
set_option linter.unusedVariables false
set_option linter.unusedSimpArgs false
set_option linter.unusedSectionVars false
open Go.RowKit Go.Proofs.YtmnphdgghjdkmaaW.PrintWords
section
variable {H : List W64} {l : List S40} {W : List Int} (hH : H.length = 4) (hl : okL l) (h60 : l.length ≤ 60) (hW : W.length ≤ 100)
/-- What is told in the end. -/
def endV (H : List W64) (l : List S40) (W : List Int) : Option (List S40 × List S24 × Int × Int × Int × Int × Int) :=
  some ((List.range l.length).map (oAt H l W), (List.range l.length).map (fun k => sw (nAt H l W k)), (sw (lAt H l W l.length)).f0, (sw (lAt H l W l.length)).f1, (sw (lAt H l W l.length)).f2, (sw (lAt H l W l.length)).f3, 0)
include hH hl h60 hW in
theorem trans_l1 (hr : rises l.length W) : ∀ (d i k : Nat), W.length - i ≤ d → i ≤ W.length → d + 400 < k → (∀ j, j < i → (at40 l (W.getD j 0).toNat).f2 = 0) →
    truceref17_Transfer.l1 k l W (i : Int) (sw H).f0 (sw H).f1 (sw H).f2 (sw H).f3 = if rough l W then some (l, [], (sw H).f0, (sw H).f1, (sw H).f2, (sw H).f3, 2) else endV H l W := by
  intro d
  induction d with
  | zero =>
    intro i k hd hi hk hz
    obtain ⟨k, rfl⟩ : ∃ j, k = j + 1 := ⟨k - 1, by omega⟩
    obtain rfl : i = W.length := by omega
    have hro : ¬ rough l W := by
      rintro ⟨x, hx, hne⟩
      obtain ⟨j, hj, rfl⟩ := List.getElem_of_mem hx
      have := hz j hj
      rw [List.getD_eq_getElem?_getD, List.getElem?_eq_getElem hj, Option.getD_some] at this
      exact hne this
    have ha := afford_l0 hH hl h60 l.length 0 k (by omega) (by omega) (by omega)
    have hb := trans_l2 hH hl h60 hW l.length 0 k (by omega) (by omega) (by omega)
    rw [truceref17_Transfer.l1, if_neg (by omega), if_neg hro, truceref17_Afford.f]
    have ha' : truceref17_Afford.l0 k l [] 0 (sw H).f0 (sw H).f1 (sw H).f2 (sw H).f3 = some ((List.range l.length).map fun k => sw (cAt H l k)) := ha
    rw [ha', Option.bind_some]
    exact hb
  | succ d ih =>
    intro i k hd hi hk hz
    by_cases h : i < W.length
    · obtain ⟨k, rfl⟩ : ∃ j, k = j + 1 := ⟨k - 1, by omega⟩
      have hn := rises_nonneg hr i h
      obtain ⟨p, hp⟩ : ∃ p : Nat, W.getD i 0 = (p : Int) := ⟨(W.getD i 0).toNat, by omega⟩
      rw [truceref17_Transfer.l1, if_pos (by omega), if_pos (by omega), rd_nat, hp]
      rw [hp] at hn
      rw [if_pos (by omega), if_pos (by omega), rd40_nat]
      by_cases h0 : (at40 l p).f2 = 0
      · rw [if_pos h0, wrap_nat1 i (by omega)]
        refine ih (i + 1) k (by omega) (by omega) (by omega) (fun j hj => ?_)
        by_cases hji : j = i
        · subst hji; rw [hp, Int.toNat_natCast]; exact h0
        · exact hz j (by omega)
      · have hro : rough l W := ⟨W.getD i 0, by simp only [List.getD_eq_getElem?_getD, List.getElem?_eq_getElem h, Option.getD_some]; exact List.getElem_mem h, by rw [hp, Int.toNat_natCast]; exact h0⟩
        rw [if_neg h0, if_pos hro]
    · exact ih i k (by omega) hi (by omega) hz
include hH hl h60 hW in
theorem trans_l0 : ∀ (d i k : Nat), W.length - i ≤ d → i ≤ W.length → d + 600 < k → (∀ j, j < i → (if j = 0 then -1 else W.getD (j - 1) 0) < W.getD j 0 ∧ W.getD j 0 < l.length) →
    truceref17_Transfer.l0 k l W (i : Int) (sw H).f0 (sw H).f1 (sw H).f2 (sw H).f3 = if rises l.length W then (if rough l W then some (l, [], (sw H).f0, (sw H).f1, (sw H).f2, (sw H).f3, 2) else endV H l W) else some (l, [], (sw H).f0, (sw H).f1, (sw H).f2, (sw H).f3, 3) := by
  intro d
  induction d with
  | zero =>
    intro i k hd hi hk hz
    obtain ⟨k, rfl⟩ : ∃ j, k = j + 1 := ⟨k - 1, by omega⟩
    obtain rfl : i = W.length := by omega
    have hr : rises l.length W := hz
    rw [truceref17_Transfer.l0, if_neg (by omega), if_pos hr]
    exact trans_l1 hH hl h60 hW hr W.length 0 k (by omega) (by omega) (by omega) (fun j hj => by omega)
  | succ d ih =>
    intro i k hd hi hk hz
    by_cases h : i < W.length
    · obtain ⟨k, rfl⟩ : ∃ j, k = j + 1 := ⟨k - 1, by omega⟩
      rw [truceref17_Transfer.l0, if_pos (by omega), if_pos (by omega), rd_nat]
      have go : ((if i = 0 then -1 else W.getD (i - 1) 0) < W.getD i 0 ∧ W.getD i 0 < l.length) → truceref17_Transfer.l0 k l W ((i + 1 : Nat) : Int) (sw H).f0 (sw H).f1 (sw H).f2 (sw H).f3 = if rises l.length W then (if rough l W then some (l, [], (sw H).f0, (sw H).f1, (sw H).f2, (sw H).f3, 2) else endV H l W) else some (l, [], (sw H).f0, (sw H).f1, (sw H).f2, (sw H).f3, 3) := fun hc => by
        refine ih (i + 1) k (by omega) (by omega) (by omega) (fun j hj => ?_)
        by_cases hji : j = i
        · subst hji; exact hc
        · exact hz j (by omega)
      by_cases h0 : W.getD i 0 < 0
      · have hn : ¬ rises l.length W := fun hr => by have := rises_nonneg hr i h; omega
        rw [if_pos h0, if_neg hn]
      · rw [if_neg h0]
        by_cases h1 : W.getD i 0 ≥ (l.length : Int)
        · have hn : ¬ rises l.length W := fun hr => by have := rises_nonneg hr i h; omega
          rw [if_pos h1, if_neg hn]
        · rw [if_neg h1]
          by_cases h2 : i = 0
          · subst h2
            have hg := go ⟨by rw [if_pos rfl]; omega, by omega⟩
            rw [if_neg (by decide), wrap_nat1 0 (by omega)]
            exact hg
          · have hw : wrap64 ((i : Int) - 1) = ((i - 1 : Nat) : Int) := by unfold wrap64; omega
            rw [if_pos (by omega), hw, if_pos (by omega), if_pos (by omega), rd_nat]
            by_cases h3 : W.getD (i - 1) 0 ≥ W.getD i 0
            · have hn : ¬ rises l.length W := fun hr => by
                have := hr i h
                rw [if_neg h2] at this
                omega
              rw [if_pos h3, if_neg hn]
            · have hg := go ⟨by rw [if_neg h2]; omega, by omega⟩
              rw [if_neg h3, wrap_nat1 i (by omega)]
              exact hg
    · exact ih i k (by omega) hi (by omega) hz
end
theorem sw_of4 (a0 a1 a2 a3 : Int) (h : ok4 a0 a1 a2 a3) : sw (wl4 a0 a1 a2 a3) = ⟨a0, a1, a2, a3⟩ := sw_am ⟨ByteArray.empty, ⟨a0, a1, a2, a3⟩, 0, ByteArray.empty, ByteArray.empty⟩ h
theorem rtrans_val (a0 a1 a2 a3 : Int) (h4 : ok4 a0 a1 a2 a3) (l : List S40) (hl : okL l) (h60 : l.length ≤ 60) (W : List Int) (hW : W.length ≤ 100) (k : Nat) (hk : 800 < k) :
    truceref17_Transfer.f k a0 a1 a2 a3 l W = pay_Transfer.f a0 a1 a2 a3 l W := by
  have e := sw_of4 a0 a1 a2 a3 h4
  have t := trans_l0 (H := wl4 a0 a1 a2 a3) rfl hl h60 hW W.length 0 k (by omega) (by omega) (by omega) (fun j hj => by omega)
  rw [pay_Transfer.f, if_pos ⟨h4, hl, by omega, by omega⟩, checkV, truceref17_Transfer.f]
  rw [e] at t
  refine Eq.trans t ?_
  by_cases h1 : rises l.length W
  · rw [if_pos h1, if_pos h1]
    by_cases h2 : rough l W
    · rw [if_pos h2, if_pos h2, if_neg (by decide)]
    · rw [if_neg h2, if_neg h2, if_pos rfl]
      rfl
  · rw [if_neg h1, if_neg h1, if_neg (by decide)]
theorem rafford_val (a0 a1 a2 a3 : Int) (h4 : ok4 a0 a1 a2 a3) (l : List S40) (hl : okL l) (h60 : l.length ≤ 60) (k : Nat) (hk : 200 < k) :
    truceref17_Afford.f k a0 a1 a2 a3 l = pay_Afford.f a0 a1 a2 a3 l := by
  have e := sw_of4 a0 a1 a2 a3 h4
  have t := afford_l0 (H := wl4 a0 a1 a2 a3) rfl hl h60 l.length 0 k (by omega) (by omega) (by omega)
  rw [pay_Afford.f, if_pos ⟨h4, hl, by omega⟩, truceref17_Afford.f]
  rw [hAt, e] at t
  exact t
theorem does_true (a0 a1 a2 a3 : Int) (h4 : ok4 a0 a1 a2 a3) (l : List S40) (hl : okL l) (W : List Int) : ∃ k, trucelaw17_PayDoes.f k a0 a1 a2 a3 l W = some true := by
  refine ⟨1000, ?_⟩
  by_cases hf : l.length ≤ 60 ∧ W.length ≤ 100
  · obtain ⟨h60, hW⟩ := hf
    rw [trucelaw17_PayDoes.f, few_true l W h60 hW, Option.bind_some, if_pos rfl, rtrans_val a0 a1 a2 a3 h4 l hl h60 W hW 1000 (by omega), rafford_val a0 a1 a2 a3 h4 l hl h60 1000 (by omega)]
    have hlen : ∀ r, pay_Transfer.f a0 a1 a2 a3 l W = some r → r.1.length ≤ 60 ∧ r.2.1.length ≤ 60 := by
      intro r h
      rw [pay_Transfer.f, if_pos ⟨h4, hl, by omega, by omega⟩] at h
      split at h
      · obtain rfl := Option.some.inj h
        simp
        omega
      · obtain rfl := Option.some.inj h
        exact ⟨h60, by simp⟩
    have hT : ∃ r, pay_Transfer.f a0 a1 a2 a3 l W = some r := by
      rw [pay_Transfer.f, if_pos ⟨h4, hl, by omega, by omega⟩]
      split <;> exact ⟨_, rfl⟩
    have hA : ∃ r : List S24, pay_Afford.f a0 a1 a2 a3 l = some r ∧ r.length ≤ 60 := by
      rw [pay_Afford.f, if_pos ⟨h4, hl, by omega⟩]
      exact ⟨_, rfl, by simp; omega⟩
    obtain ⟨r, hr⟩ := hT
    obtain ⟨q, hq, hq2⟩ := hA
    obtain ⟨n1, n2⟩ := hlen r hr
    rw [hr, hq]
    simp only [Option.bind_some]
    rw [numbers_refl q (by omega) 1000 (by omega), Option.bind_some, if_pos rfl, same_refl r.1 (by omega) 1000 (by omega), Option.bind_some, if_pos rfl, numbers_refl r.2.1 (by omega) 1000 (by omega), Option.bind_some, if_pos rfl, if_pos (by simp), if_pos trivial, awake_true 1000 (by omega)]
    rfl
  · rw [trucelaw17_PayDoes.f, few_false l W hf, Option.bind_some, if_neg (by simp), awake_true 1000 (by omega)]
    rfl
#print axioms does_true
end Go.Proofs.Ytmnphdgghjdkmaa.P

namespace Go.Proofs.Ytmnphdgghjdkmaa.P
set_option linter.unusedVariables false
open Go.RowKit Go.Proofs.YtmnphdgghjdkmaaW.PrintWords
/-! PayDoes, called. -/
theorem payDoes_law (a : S24) (h4 : ok4 a.f0 a.f1 a.f2 a.f3) (l : List S40) (A : Option Addr) (c : Nat) (hl : l.length ≤ c) (w : World) (hC : k40.C w A l.length l) (hok : okL l) (W : List Int) (A2 : Option Addr) (c2 : Nat) (hW : W.length ≤ c2) (hC2 : (Kd.int .i64).C w A2 W.length W) :
    Calls Try.prog 3 #[.agg #[.int .u64 a.f0, .int .u64 a.f1, .int .u64 a.f2, .int .u64 a.f3], .slice A l.length c, .slice A2 W.length c2] w fun e w' => e = .returned (.bool true) ∧ Below w.heap.size w w' := by
  obtain ⟨k, hk⟩ := does_true a.f0 a.f1 a.f2 a.f3 h4 l hok W
  exact trucelaw17_PayDoes.callsT k a.f0 a.f1 a.f2 a.f3 A c l A2 c2 W true w hC hl hC2 hW (Aside0.mk rfl) hk
end Go.Proofs.Ytmnphdgghjdkmaa.P
