/- A range over an iterator that has a state of its own: both sides tell their steps by the number of the round. -/
import Derived.Test.YtmnphdgghjdkmaaProg
import Derived.RangeFuncWrites
import Derived.RangeFuncLeaves
namespace Go.Proofs.Ytmnphdgghjdkmaa.P
set_option linter.unusedSimpArgs false
open Go Go.RowKit
/-- An iterator of N rounds: between two rounds stands I k; a round finds M k. Rc: what the caller's books say. -/
def Rounds (F : Fence) (m : Nat) (P : Program) (gf : Nat) (lb : Array Value) (encs : Nat → Array Value) (I M : Nat → World → Prop) (N : Nat) : Prop :=
  ∀ (l : Nat) (Rc : World → Prop), (∀ W W', Rc W → KeepsOthers W W' → Rc W') →
    (∀ k W, k < N → M k W → Rc W → YieldAt F (m - 1) P l (encs k) W fun e W' => e = .returned (.bool true) ∧ I (k + 1) W' ∧ Rc W') →
    ∀ W, I 0 W → Rc W → CallsIn F m P gf (#[.func (.yield l) #[] #[]] ++ lb) W fun e W' => (∃ v, e = .returned v) ∧ I N W' ∧ Rc W'
theorem range_rounds {F : Fence} {n : Nat} {P : Program} {g : Operand} {ps : Array Tmp} {assign body : Code} {Q : Exit → Act → World → Prop} {a : Act} {w : World}
    (hro : F.round = none) (h1 : 1 ≤ n) {gf : Nat} {lb : Array Value} (hg : a.eval g = .func (.func gf) #[] lb) (hFg : F.fn gf) (eg : ∀ args w, (callFunc gf args).run P w = .ok (.enter gf args) w)
    {encs : Nat → Array Value} {I M : Nat → World → Prop} {N : Nat} (hit : Rounds F (n - 1) P gf lb encs I M N) (hps : ∀ k, (encs k).size = ps.size)
    (hI : ∀ k W l o o', I k W → w.heap.size ≤ l → W.heap[l]? = some o' → o'.isCells = false → I k (W.putObj l o))
    (hI0 : ∀ o o', I 0 ((w.alloc o).alloc o')) (B : Nat → Act → World → Prop)
    (hB : ∀ k a1 W l o o', B k a1 W → w.heap.size ≤ l → W.heap[l]? = some o' → o'.isCells = false → B k a1 (W.putObj l o))
    (hassign : ∀ (l k : Nat) (W : World) (K : Act → World → Prop), k < N → M k W → (∀ a1 W1, KeepsOthers W W1 → B k a1 W1 → K a1 W1) →
      assign.wpIn (F.inRound l) (n - 1 - 1) P (Exit.then K (fun _ _ _ => False)) { tmps := (ps.zip (encs k)).foldl (fun t (p, v) => t.setIfInBounds p v) a.tmps, defers := [] } W)
    (hbody : ∀ (l k : Nat) (a1 : Act) (W : World), k < N → B k a1 W → body.wpIn (F.inRound l) (n - 1 - 1) P (fun e _ W' => e = .normal ∧ KeepsOthers W W' ∧ I (k + 1) W') a1 W)
    (hdone : ∀ (D : Nat) (W : World), w.heap.size ≤ D → I N W → W.heap[D]? = some (.deferred (some [])) → Q .normal { a with defers := { target := .collected D, args := #[] } :: a.defers } W) :
    (Code.rangeFunc g ps assign body).wpIn F n P Q a w := by
  apply wpIn_rangeFunc
  intro fn hfn
  rw [hro]
  generalize hr : ({ state := .ready, pending := none, fn, tmps := a.tmps, params := ps, assign, body, defers := w.heap.size } : Loop) = r0
  have hst : r0.state = .ready := by rw [← hr]
  have hpa : r0.params = ps := by rw [← hr]
  generalize hW : (w.alloc (.deferred (some []))).alloc (.loop r0) = W1
  have b0 : W1.heap[w.heap.size]? = some (.deferred (some [])) := by
    rw [← hW]
    exact (Below.heap_alloc _ _ _ (by simp)).trans (World.alloc_heap_new w _)
  have b1 : W1.heap[w.heap.size + 1]? = some (.loop r0) := by
    rw [← hW]
    simpa using World.alloc_heap_new (w.alloc (.deferred (some []))) (.loop r0)
  have i0 : I 0 W1 := by rw [← hW]; exact hI0 _ _
  have hel := run_enterLoop_outer (P := P) (w := w) fn a.tmps ps assign body
  rw [hr, hW] at hel
  refine ⟨_, _, W1, { target := .fn (.func gf) lb, args := #[.func (.yield (w.heap.size + 1)) #[] #[]] }, W1, gf, #[.func (.yield (w.heap.size + 1)) #[] #[]] ++ lb, W1, hel, ?_, ?_, ?_, fun _ => h1, ?_⟩
  · simp only [resolve, hg]
    simp [go_sem]
  · intro f' hf
    obtain rfl : gf = f' := by simpa [Target.leads] using hf
    exact hFg
  · simp [invoke, go_sem, eg]
  refine (hit (w.heap.size + 1) (fun W => W.heap[w.heap.size + 1]? = some (.loop r0) ∧ W.heap[w.heap.size]? = some (.deferred (some []))) ?stable ?round W1 i0 ⟨b1, b0⟩).mono ?after
  case stable =>
    intro W W' h k
    exact ⟨k.same _ _ h.1 rfl, k.same _ _ h.2 rfl⟩
  case round =>
    intro k W hk hm hrc
    have hy := run_yield (P := P) (args := encs k) hrc.1 (by rw [hpa]; exact hps k)
    have f1 : r0.fn = fn := by rw [← hr]
    have f2 : r0.tmps = a.tmps := by rw [← hr]
    have f3 : r0.assign = assign := by rw [← hr]
    have f4 : r0.body = body := by rw [← hr]
    rw [f1, f2, f3, f4, hpa] at hy
    refine ⟨_, _, _, _, hy, roundIn_of_wpIn hfn (hassign _ k W _ hk hm fun a1 Wa hka hba => ?_)⟩
    have l1 := hka.same _ _ hrc.1 rfl
    have l0 := hka.same _ _ hrc.2 rfl
    have hlt := (Array.getElem?_eq_some_iff.1 l1).1
    refine ⟨_, run_beginRound l1 hst, wpIn_mono (hbody _ k a1 _ hk (hB k a1 Wa _ _ _ hba (by omega) l1 rfl)) ?_⟩
    rintro e a3 W3 ⟨rfl, hk3, hi3⟩
    have m1 := hk3.same _ _ (World.putObj_heap_same hlt) rfl
    have m0 := hk3.same _ _ ((World.putObj_heap_other (by omega)).trans l0) rfl
    have hlt3 := (Array.getElem?_eq_some_iff.1 m1).1
    have he := run_endRound (P := P) none m1
    refine ⟨_, _, he, rfl, hI _ _ _ _ _ hi3 (by omega) m1 rfl, ?_, (World.putObj_heap_other (by omega)).trans m0⟩
    have hfin : ({ ({ r0 with state := .busy } : Loop) with state := if (none : Option Code).isNone then LoopState.ready else .done, pending := none } : Loop) = r0 := by
      rw [← hr]; rfl
    rw [hfin]
    exact World.putObj_heap_same hlt3
  case after =>
    rintro e W2 ⟨⟨v, rfl⟩, hi, hl, hd⟩
    have hp : r0.pending = none := by rw [← hr]
    have he := run_endLoop (P := P) hl (by rw [hst]; simp)
    rw [hp] at he
    exact ⟨none, _, he, hdone _ _ (Nat.le_refl _) (hI _ _ _ _ _ hi (by omega) hl rfl) ((World.putObj_heap_other (by omega)).trans hd)⟩
end Go.Proofs.Ytmnphdgghjdkmaa.P
