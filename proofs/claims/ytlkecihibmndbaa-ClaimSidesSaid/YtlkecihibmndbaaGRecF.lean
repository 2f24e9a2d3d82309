import Derived.Test.YtlkecihibmndbaaGBound
import Derived.Test.YtlkecihibmndbaaGDelete
namespace Go.Proofs.Ytlkecihibmndbaa.P
set_option linter.unusedVariables false
set_option linter.unusedSimpArgs false
open Go.RowKit Go.Shelf Go.Proofs.YtlkecihibmndbaaW.PrintWords
/-! What claim.Reclaim tells. -/
def delL (l : List S39) (k : Nat) : List S39 := l.take k ++ l.drop (k + 1)
def sideT (x : S39) (i : Nat) : ByteArray := if i = 0 then x.f3 else x.f4
def giveL (o : List S39) (p : Nat) (s : List W64) : List S39 := o.set p (putA (at39 o p) s)
/-- The allocations behind as many sides have got theirs. -/
def gv (l m : List S39) (k : Nat) : Nat → List S39
  | 0 => delL l k
  | i + 1 => giveL (gv l m k i) (plainI (gv l m k i) (sideT (at39 l k) i)).toNat (addk (am (at39 (gv l m k i) (plainI (gv l m k i) (sideT (at39 l k) i)).toNat)) (am (at39 m i)) 4).1
def gp (l m : List S39) (k i : Nat) : Nat := (plainI (gv l m k i) (sideT (at39 l k) i)).toNat
def gsum (l m : List S39) (k i : Nat) : List W64 × Nat := addk (am (at39 (gv l m k i) (gp l m k i))) (am (at39 m i)) 4
theorem gv_succ (l m : List S39) (k i : Nat) : gv l m k (i + 1) = giveL (gv l m k i) (gp l m k i) (gsum l m k i).1 := rfl
def recE (l : List S39) (k : Int) (m : List S39) : Int :=
  if boundE l k m ≠ 0 then boundE l k m else if (gsum l m k.toNat 0).2 = 1 ∨ (gsum l m k.toNat 1).2 = 1 then 7 else 0
/-- A plain one is found where it stands. -/
theorem firstI_spec (f : S39 → Bool) (l : List S39) : firstI f l 0 = -1 ∧ (∀ j, j < l.length → f (at39 l j) = false) ∨ ∃ p, p < l.length ∧ firstI f l 0 = (p : Nat) ∧ f (at39 l p) = true ∧ ∀ j, j < p → f (at39 l j) = false := by
  have h : ∀ n, n ≤ l.length → (∀ j, j < n → f (at39 l j) = false) ∨ ∃ p, p < n ∧ f (at39 l p) = true ∧ ∀ j, j < p → f (at39 l j) = false := by
    intro n
    induction n with
    | zero => intro _; exact .inl fun j hj => absurd hj (by omega)
    | succ n ih =>
      intro hn
      rcases ih (by omega) with h | ⟨p, hp, h1, h2⟩
      · by_cases hf : f (at39 l n) = true
        · exact .inr ⟨n, by omega, hf, h⟩
        · refine .inl fun j hj => ?_
          by_cases hjn : j = n
          · subst hjn; simpa using hf
          · exact h j (by omega)
      · exact .inr ⟨p, by omega, h1, h2⟩
  rcases h l.length (Nat.le_refl _) with h | ⟨p, hp, h1, h2⟩
  · exact .inl ⟨firstI_none f l h, h⟩
  · exact .inr ⟨p, hp, firstI_at f l p hp h2 h1, h1, h2⟩
theorem plainI_ge {l : List S39} {d : ByteArray} {p : Nat} (hp : p < l.length) (h : plainB d (at39 l p) = true) : 0 ≤ plainI l d := by
  rcases firstI_spec (plainB d) l with ⟨_, h2⟩ | ⟨q, _, h2, _⟩
  · rw [h2 p hp] at h; cases h
  · show 0 ≤ firstI _ _ _; rw [h2]; omega
theorem plainI_at {l : List S39} {d : ByteArray} (h : 0 ≤ plainI l d) : ∃ p : Nat, p < l.length ∧ plainI l d = (p : Int) ∧ plainB d (at39 l p) = true := by
  rcases firstI_spec (plainB d) l with ⟨h1, _⟩ | ⟨q, hq, h2, h3, _⟩
  · have : plainI l d = -1 := h1; omega
  · exact ⟨q, hq, h2, h3⟩
theorem delL_len {l : List S39} {k : Nat} (hk : k < l.length) : (delL l k).length = l.length - 1 := by
  rw [delL, List.length_append, List.length_take, List.length_drop]; omega
theorem delL_at {l : List S39} {k : Nat} (hk : k < l.length) (j : Nat) : at39 (delL l k) j = if j < k then at39 l j else at39 l (j + 1) := by
  simp only [at39, delL, List.getD_eq_getElem?_getD]
  split
  · rw [List.getElem?_append_left (by rw [List.length_take]; omega), List.getElem?_take_of_lt (by assumption)]
  · rw [List.getElem?_append_right (by rw [List.length_take]; omega), List.getElem?_drop, List.length_take]
    congr 2; omega
theorem giveL_len (o : List S39) (p : Nat) (s : List W64) : (giveL o p s).length = o.length := by rw [giveL, List.length_set]
theorem giveL_at (o : List S39) (p : Nat) (s : List W64) (hp : p < o.length) (j : Nat) : at39 (giveL o p s) j = if j = p then putA (at39 o p) s else at39 o j := by
  split
  · rename_i h
    subst h
    rw [at39_get (by rw [giveL_len]; exact hp)]
    simp [giveL]
  · rename_i h
    exact at39_set o _ p j (fun e => h e.symm)
theorem plainB_putA (d : ByteArray) (a : S39) (s : List W64) : plainB d (putA a s) = plainB d a := rfl
theorem gv_len {l m : List S39} {k : Nat} (hk : k < l.length) (i : Nat) : (gv l m k i).length = l.length - 1 := by
  induction i with
  | zero => exact delL_len hk
  | succ i ih => rw [gv_succ, giveL_len, ih]
theorem okL_del {l : List S39} (h : okL l) (k : Nat) : okL (delL l k) := fun a ha => by
  rw [delL, List.mem_append] at ha
  rcases ha with ha | ha
  · exact h a (List.mem_of_mem_take ha)
  · exact h a (List.mem_of_mem_drop ha)
theorem okL_give {o : List S39} (h : okL o) (p : Nat) (s : List W64) : okL (giveL o p s) := fun a ha => by
  rcases List.mem_or_eq_of_mem_set ha with ha | rfl
  · exact h a ha
  · exact okA_putA _ _
theorem okL_gv {l m : List S39} (h : okL l) (k i : Nat) : okL (gv l m k i) := by
  induction i with
  | zero => exact okL_del h k
  | succ i ih => rw [gv_succ]; exact okL_give ih _ _
theorem plain_del {l : List S39} {k : Nat} (hk : k < l.length) (d : ByteArray) (hb : (at39 l k).f2 ≠ 0) (h : 0 ≤ plainI l d) : 0 ≤ plainI (delL l k) d := by
  obtain ⟨p, hp, _, hpl⟩ := plainI_at h
  have hne : p ≠ k := by rintro rfl; simp [plainB, hb] at hpl
  by_cases hpk : p < k
  · exact plainI_ge (p := p) (by rw [delL_len hk]; omega) (by rw [delL_at hk, if_pos hpk]; exact hpl)
  · exact plainI_ge (p := p - 1) (by rw [delL_len hk]; omega) (by rw [delL_at hk, if_neg (by omega), show p - 1 + 1 = p by omega]; exact hpl)
theorem plain_give {o : List S39} {p : Nat} (hp : p < o.length) (s : List W64) (d : ByteArray) (h : 0 ≤ plainI o d) : 0 ≤ plainI (giveL o p s) d := by
  obtain ⟨q, hq, _, hpl⟩ := plainI_at h
  refine plainI_ge (p := q) (by rw [giveL_len]; exact hq) ?_
  rw [giveL_at _ _ _ hp]
  split
  · rename_i e; subst e; exact hpl
  · exact hpl
/-- What bound asked. -/
structure Fine (l m : List S39) (k : Nat) : Prop where
  hk : k < l.length
  two : m.length = 2
  one : (at39 l k).f2 = 1
  left : 0 ≤ plainI l (at39 l k).f3
  right : 0 ≤ plainI l (at39 l k).f4
  smooth : ¬ 0 ≤ firstI roughB m 0
  sum : (addk (am (at39 m 0)) (am (at39 m 1)) 4).2 ≠ 1 ∧ (addk (am (at39 m 0)) (am (at39 m 1)) 4).1 = am (at39 l k)
theorem fine_of {l m : List S39} {k : Int} (h : boundE l k m = 0) : ∃ q : Nat, k = (q : Int) ∧ Fine l m q := by
  unfold boundE at h
  split at h
  · cases h
  rename_i h1
  split at h
  · cases h
  rename_i h2
  split at h
  · cases h
  rename_i h3
  split at h
  · cases h
  rename_i h4
  have h1 : isThere l.length k := Classical.not_not.1 h1
  unfold isThere at h1
  simp only [not_or, ne_eq, Classical.not_not] at h2 h3 h4
  exact ⟨k.toNat, by omega, by omega, h2.2.1, h2.1, by have := h4.1; show 0 ≤ plainI l (at' l k).f3; omega, by have := h4.2; show 0 ≤ plainI l (at' l k).f4; omega, h2.2.2, h3⟩
theorem Fine.side {l m : List S39} {k : Nat} (h : Fine l m k) (i : Nat) : 0 ≤ plainI l (sideT (at39 l k) i) := by
  unfold sideT; split
  · exact h.left
  · exact h.right
theorem Fine.found {l m : List S39} {k : Nat} (h : Fine l m k) (i : Nat) : ∀ d, 0 ≤ plainI l d → 0 ≤ plainI (gv l m k i) d := by
  induction i with
  | zero => intro d hd; exact plain_del h.hk d (by rw [h.one]; decide) hd
  | succ i ih =>
    intro d hd
    obtain ⟨p, hp, e, _⟩ := plainI_at (ih _ (h.side i))
    rw [gv_succ, gp, e]
    exact plain_give (by simpa using hp) _ d (ih d hd)
theorem Fine.at {l m : List S39} {k : Nat} (h : Fine l m k) (i : Nat) : gp l m k i < l.length - 1 ∧ plainI (gv l m k i) (sideT (at39 l k) i) = ((gp l m k i : Nat) : Int) := by
  obtain ⟨p, hp, e, _⟩ := plainI_at (h.found i _ (h.side i))
  rw [gv_len h.hk] at hp
  rw [gp, e]
  exact ⟨by simpa using hp, by simp⟩
def claim_Reclaim.f (l : List S39) (k : Int) (m : List S39) : Option (List S39 × Int) :=
  if okL l ∧ l.length ≤ 1000 ∧ okL m ∧ m.length ≤ 1000 then some (if recE l k m = 0 then gv l m k.toNat 2 else l, recE l k m) else none
end Go.Proofs.Ytlkecihibmndbaa.P
