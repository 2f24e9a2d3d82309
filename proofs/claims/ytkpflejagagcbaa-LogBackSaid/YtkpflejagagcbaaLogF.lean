import Derived.Test.YtkpflejagagcbaaLogH
import Derived.Test.YtkpflejagagcbaaPlogsum
import Derived.Test.YtkpflejagagcbaaPlogFrame
namespace Go.Proofs.Ytkpflejagagcbaa.P
set_option linter.unusedVariables false
set_option linter.unusedSimpArgs false
open Go.RowKit Go.Proofs.YtkpflejagagcbaaW.PrintWords
/-! Records: what log.Frames tells. -/
/-- The number that the first bytes tell, byte by byte. -/
def numI (s : ByteArray) : Nat → Nat
  | 0 => 0
  | i + 1 => numI s i * 256 + (sb s i).toNat
def numB (s : ByteArray) : Nat := numI s 4
theorem numI_lt (s : ByteArray) (i : Nat) : numI s i < 256 ^ i := by
  induction i with
  | zero => exact Nat.one_pos
  | succ i ih =>
    have := (sb s i).toNat_lt
    rw [numI, Nat.pow_succ]
    omega
def lsum (h t : ByteArray) : ByteArray := (hsum (h ++ t)).extract 0 4
def recT (s : ByteArray) : ByteArray := s.extract 8 (8 + numB s)
def recR (s : ByteArray) : ByteArray := s.extract (8 + numB s) s.size
/-- The bytes begin with a record. -/
def recOk (s : ByteArray) : Prop := 8 ≤ s.size ∧ numB s ≤ 65536 ∧ numB s ≤ s.size - 8 ∧ (lsum (s.extract 0 4) (recT s)).toList = (s.extract 4 8).toList
instance (s : ByteArray) : Decidable (recOk s) := inferInstanceAs (Decidable (_ ∧ _))
/-- What is left behind as many records. -/
def rAt (s : ByteArray) : Nat → ByteArray
  | 0 => s
  | k + 1 => recR (rAt s k)
def cntF : Nat → ByteArray → Nat
  | 0, _ => 0
  | f + 1, s => if recOk s then cntF f (recR s) + 1 else 0
/-- How many records bytes begin with. -/
def cnt (s : ByteArray) : Nat := cntF s.size s
theorem recR_size {s : ByteArray} (h : recOk s) : (recR s).size + (8 + numB s) = s.size := by
  have h1 := h.1
  have h2 := h.2.2.1
  rw [recR, ByteArray.size_extract]
  omega
theorem recT_size {s : ByteArray} (h : recOk s) : (recT s).size = numB s := by
  have h1 := h.1
  have h2 := h.2.2.1
  rw [recT, ByteArray.size_extract]
  omega
theorem rAt_succ (s : ByteArray) (k : Nat) : rAt s (k + 1) = rAt (recR s) k := by
  induction k with
  | zero => rfl
  | succ k ih => rw [rAt, ih, rAt]
theorem cntF_spec : ∀ (f : Nat) (s : ByteArray), s.size ≤ f → (∀ k, k < cntF f s → recOk (rAt s k)) ∧ ¬ recOk (rAt s (cntF f s)) := by
  intro f
  induction f with
  | zero => intro s hs; exact ⟨fun k hk => absurd hk (by simp [cntF]), fun h => by have := h.1; simp only [cntF, rAt] at this; omega⟩
  | succ f ih =>
    intro s hs
    rw [cntF]
    by_cases h : recOk s
    · rw [if_pos h]
      have := recR_size h
      obtain ⟨h1, h2⟩ := ih (recR s) (by omega)
      refine ⟨fun k hk => ?_, by rw [rAt_succ]; exact h2⟩
      cases k with
      | zero => exact h
      | succ k => rw [rAt_succ]; exact h1 k (by omega)
    · rw [if_neg h]
      exact ⟨fun k hk => absurd hk (by omega), h⟩
theorem rAt_ok {s : ByteArray} {k : Nat} (hk : k < cnt s) : recOk (rAt s k) := (cntF_spec s.size s (Nat.le_refl _)).1 k hk
theorem rAt_end (s : ByteArray) : ¬ recOk (rAt s (cnt s)) := (cntF_spec s.size s (Nat.le_refl _)).2
theorem rAt_size {s : ByteArray} : ∀ {k : Nat}, k ≤ cnt s → (rAt s k).size + 8 * k ≤ s.size := by
  intro k
  induction k with
  | zero => intro _; exact Nat.le_refl _
  | succ k ih =>
    intro hk
    have h1 := ih (by omega)
    have h2 := recR_size (rAt_ok (show k < cnt s by omega))
    rw [rAt]
    omega
/-- How many bytes as many records have. -/
def nAt (s : ByteArray) (k : Nat) : Nat := s.size - (rAt s k).size
theorem nAt_succ {s : ByteArray} {k : Nat} (hk : k < cnt s) : nAt s (k + 1) = nAt s k + (8 + (recT (rAt s k)).size) := by
  have h1 := rAt_size (show k + 1 ≤ cnt s by omega)
  have h2 := rAt_size (show k ≤ cnt s by omega)
  have h3 := recR_size (rAt_ok hk)
  rw [recT_size (rAt_ok hk), nAt, nAt, rAt]
  omega
def textAt (s : ByteArray) (k : Nat) : ByteArray := recT (rAt s k)
def texts (s : ByteArray) (k : Nat) : List ByteArray := (List.range k).map (textAt s)
theorem texts_succ (s : ByteArray) (k : Nat) : texts s (k + 1) = texts s k ++ [textAt s k] := by simp [texts, List.range_succ]
theorem texts_len (s : ByteArray) (k : Nat) : (texts s k).length = k := by simp [texts]
def log_Frames.f (s : ByteArray) : Option (List ByteArray × Int) := if s.size ≤ 90000 then some (texts s (cnt s), ((nAt s (cnt s) : Nat) : Int)) else none
theorem lsum_val (h t : ByteArray) (hs : h.size + t.size ≤ 100000) : log_sum.f h t = some (lsum h t) := by
  have h32 := hsum_size (h ++ t)
  rw [log_sum.f, if_pos (by omega), hash_Sum.f, if_pos (by rw [ByteArray.size_append]; omega), Option.bind_some, if_pos (by omega), if_pos (by omega)]
  rfl
end Go.Proofs.Ytkpflejagagcbaa.P
