/- A region without calls that draws its order, walked once, inside whatever fence. -/
import Derived.StillTail
import Derived.StillTailTactics
import Derived.OrdersIn
import Derived.TacticsIn
import Derived.Test.YtmnphdgghjdkmaaWs
namespace Go.Proofs.Ytmnphdgghjdkmaa.P
set_option linter.unusedVariables false
set_option linter.unusedSimpArgs false
open Go
/-- Operations that call nothing. -/
def callFree : Op → Bool
  | .move _ | .assign _ | .load _ _ | .store _ _ _ | .binOp _ _ _ _ _ | .unOp _ _ _ | .convert _ _ _ | .index _ _ _ | .indexAddr _ _ _ => true
  | _ => false
def onlyNormal (Q : Exit → Act → World → Prop) : Exit → Act → World → Prop := fun e a w => e = .normal ∧ Q .normal a w
theorem not_letsOut (Q : Exit → Act → World → Prop) : ¬ LetsOut (onlyNormal Q) := by
  rintro ⟨a, w, h, _⟩
  cases h
theorem wpIn_of_callFree {F : Fence} {n : Nat} {P : Program} {o : Oper} {a : Act} {w : World} {K K' : Act → World → Prop} {Q : Exit → Act → World → Prop} (hc : callFree o.op = true) (hK : ∀ a w, K a w → K' a w)
    (h : o.wp P a w K (onlyNormal Q)) : o.wpIn F n P a w K' Q := by
  have hd : ∀ c, o.op ≠ .defer c := by intro c e; rw [e] at hc; simp [callFree] at hc
  refine ⟨?_, ?_⟩
  · intro f hf
    unfold Oper.about at hf
    cases ho : o.op <;> rw [ho] at hc hf <;> simp [callFree] at hc hf
  · rw [Oper.semAt_eq _ _ _ hd]
    unfold Oper.wp at h
    have hk : ∀ r : Result Next, (execOp a.eval o).run P w = r → (∃ v w', r = .ok (.value v) w') ∨ (∃ w', r = .ok .skip w') ∨ ∃ x w', r = .halt x w' := by
      intro r hr
      subst hr
      unfold execOp
      cases ho : o.op <;> rw [ho] at hc <;> simp [callFree] at hc <;> simp only [Sem.run_bind, Sem.run_pure] <;> first
        | exact .inl ⟨_, _, rfl⟩
        | (generalize (Sem.run _ _ _) = r; cases r with
           | ok x w' => (simp only [Result.andThen]; first | (split <;> simp; done) | simp)
           | halt x w' => exact .inr (.inr ⟨_, _, rfl⟩))
    generalize (execOp a.eval o).run P w = r at *
    rcases hk r rfl with ⟨v, w', rfl⟩ | ⟨w', rfl⟩ | ⟨x, w', rfl⟩
    · exact hK _ _ h
    · exact hK _ _ h
    · cases x <;> simp only [Oper.upon] at h <;> first | exact h.elim | exact absurd h.1 (by simp)
theorem wpOpIn_of_callFree {F : Fence} {n : Nat} {P : Program} {ops : Array Oper} {i : Nat} {a : Act} {w : World} {K K' : Act → World → Prop} {Q : Exit → Act → World → Prop} (hc : ∀ o : Oper, ops[i]? = some o → callFree o.op = true) (hK : ∀ a w, K a w → K' a w)
    (h : wpOp P ops (onlyNormal Q) i K a w) : wpOpIn F n P ops Q i K' a w := by
  unfold wpOp at h
  unfold wpOpIn
  cases ho : ops[i]? with
  | none => rw [ho] at h; exact hK _ _ h
  | some o =>
    rw [ho] at h
    simp only [] at h ⊢
    have hco := hc o ho
    split
    · rename_i hw
      rw [if_pos hw] at h
      rcases h with h | ⟨_, h⟩
      · exact wpIn_of_callFree hco hK h
      · exact absurd h (not_letsOut Q)
    · rename_i hw
      rw [if_neg hw] at h
      refine ⟨?_, hK _ _ h⟩
      intro f hf
      unfold Oper.about at hf
      cases ho : o.op <;> rw [ho] at hco hf <;> simp [callFree] at hco hf
theorem wpAnyIn_of_callFree {F : Fence} {n : Nat} {P : Program} {md : Region.Mode} {ops : Array Oper} {Q : Exit → Act → World → Prop} (hc : ∀ (i : Nat) (o : Oper), ops[i]? = some o → callFree o.op = true) :
    ∀ (fuel : Nat) (listed : Array Bool) (a : Act) (w : World), wpAny P md ops (onlyNormal Q) fuel listed a w → wpAnyIn F n P md ops Q fuel listed a w
  | 0, _, _, _, h => ⟨h.1, h.2.2⟩
  | fuel + 1, listed, a, w, h => ⟨fun h0 => (h.1 h0).2, fun i hi => wpOpIn_of_callFree (hc i) (fun a w h => wpAnyIn_of_callFree hc fuel _ a w h) (h.2 i hi)⟩
theorem wpIn_region_still_tail {F : Fence} {m : Nat} {P : Program} {id : Nat} {Q : Exit → Act → World → Prop} {a : Act} {w : World} {l : List Oper} (n : Nat) (hm : P.follows .mixedOrders = true) (hB : Region.lexTailB .any l.toArray n = true)
    (hcf : l.all (fun o => callFree o.op) = true)
    (h : wpStill P l.toArray { w with drawn := w.drawn + 1 } (fun a' => wpList P l.toArray (onlyNormal Q) (l.drop n) a' { w with drawn := w.drawn + 1 }) (l.take n) a) : (Code.region id l.toArray true).wpIn F m P Q a w := by
  simp only [Region.lexTailB, Bool.and_eq_true, decide_eq_true_eq] at hB
  obtain ⟨⟨⟨⟨hsel, hn⟩, hs⟩, hc⟩, hlex⟩ := hB
  have hn' : n < l.length := by simpa using hn
  have htl : (l.take n).length = n := by simp; omega
  have hdl : (l.drop n).length = l.toArray.size - n := by simp
  have inv0 : HeadInv .any l.toArray n (Array.replicate l.toArray.size false) :=
    ⟨by simp, fun j oj _ hl => (by rw [getD_replicate_false] at hl; cases hl), fun t _ ht => getD_in (by simpa using ht) (getD_replicate_false _ _)⟩
  have H := wpAnyL_lex (md := .any) (g := l.toArray.size - n) hsel hs hc hn (l.take n) 0 _ a (fun j hj => by
    have hj' : j < n := by rw [htl] at hj; exact hj
    simp [hj']) (by simpa using htl) inv0 (by rw [htl]; exact hlex) h
  refine wpIn_region_any hm (wpAnyIn_of_callFree (fun i o ho => ?_) _ _ _ _ ?_)
  · rw [List.all_eq_true] at hcf
    exact hcf o (List.mem_of_getElem? (by simpa using ho))
  have := wpAny_of_head (Q' := onlyNormal Q) (g := l.toArray.size - n) (fun listed a' hL => by
    have := wpAny_of_seq (md := .any) (Q' := onlyNormal Q) (l.drop n) n listed a' { w with drawn := w.drawn + 1 } (fun j => by simp [List.getElem?_drop]) (by rw [hdl]; exact hL.1) hL.2
    rwa [hdl] at this) _ _ _ H
  rw [htl, show n + (l.toArray.size - n) = l.toArray.size by omega] at this
  exact this
open Go.RowKit Go.Proofs.YtmnphdgghjdkmaaW.PrintWords
section
variable {F : Fence} {m : Nat} {P : Program} {ops : Array Oper} {rest : List Oper} {o : Oper} {a : Act} {w : World} {Q : Exit → Act → World → Prop}
theorem load_wsIn (hgd : o.guard = none) (ty : TypeId) (x : Operand) (ho : o.op = .load ty x) (g : Nat) (hx : a.eval x = .pointer (some ⟨g, 0, none⟩)) (t : TypeId) (L : List W64) (n : Nat) (d : TypeDesc)
    (hK : Holds w g t L) (hn : L.length = n) (hu : P.underlying ty = some d) (hd : (match d with | .struct _ | .array _ _ => true | _ => false) = true) (hi : (P.info? ty).map (·.size) = some n)
    (h : wpListIn F m P ops Q rest (a.put o.dst (.agg (ws L))) w) : wpListIn F m P ops Q (o :: rest) a w :=
  wpListIn_plain hgd fun K hk => wpIn_of_callFree (by rw [ho]; rfl) (fun _ _ h => h) (wp_load_row ty x ho g hx t (ws L) (0, 0) d hK hu hd (by rw [hi, ws_size, hn]) (hk _ _ h))
theorem store_wsIn (hgd : o.guard = none) (ty : TypeId) (x y : Operand) (ho : o.op = .store ty x y) (g : Nat) (hx : a.eval x = .pointer (some ⟨g, 0, none⟩)) (t : TypeId) (L0 L : List W64) (n : Nat)
    (hy : a.eval y = .agg (ws L)) (hK : Holds w g t L0) (hn0 : L0.length = n) (hn : L.length = n) (hi : (P.info? ty).map (·.size) = some n)
    (h : ∀ w1, Holds w1 g t L → (∀ B, B ≤ g → Below B w w1) → (∀ g' : Nat, g' ≠ g → w1.heap[g']? = w.heap[g']?) → w1.heap.size = w.heap.size → wpListIn F m P ops Q rest (a.put o.dst undef) w1) : wpListIn F m P ops Q (o :: rest) a w := by
  refine wpListIn_plain hgd fun K hk => wpIn_of_callFree (by rw [ho]; rfl) (fun _ _ h => h) (wp_store_row ty x y ho g (ws L) hx hy t (ws L0) hK (by rw [hi, ws_size, hn]) (by rw [ws_size, ws_size, hn0, hn]) (by simp [ws, Value.oneCell']) (hk _ _ (h _ ?_ ?_ ?_ ?_)))
  · exact setRow_heap w g (ws L0) (ws L) t (0, 0) hK
  · intro B hB
    exact ⟨rfl, rfl, rfl, by simp, fun i hi => by rw [setRow_other w g i (ws L) (by omega)]⟩
  · intro g' hne
    exact setRow_other w g g' (ws L) hne
  · simp
end
end Go.Proofs.Ytmnphdgghjdkmaa.P
