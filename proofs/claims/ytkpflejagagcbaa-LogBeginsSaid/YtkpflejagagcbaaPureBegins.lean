import Derived.Test.YtkpflejagagcbaaPureL
import Derived.Test.YtkpflejagagcbaaPtrucelaw23LogBegins
namespace Go.Proofs.Ytkpflejagagcbaa.P
set_option linter.unusedVariables false
set_option linter.unusedSimpArgs false
open Go.RowKit Go.Proofs.YtkpflejagagcbaaW.PrintWords
/-! A beginning of bytes tells a beginning of their texts; the records of what is told are the bytes told of. -/
theorem rdOf_nat (l : List ByteArray) (i : Nat) : rdOf ByteArray.empty l (i : Int) = l.getD i ByteArray.empty := by simp [rdOf]
theorem joinB_take (l : List ByteArray) (i : Nat) (h : i < l.length) : joinB (l.take (i + 1)) = joinB (l.take i) ++ frameB (l.getD i ByteArray.empty) := by
  rw [List.take_succ_eq_append_getElem h, joinB_snoc, List.getD_eq_getElem?_getD, List.getElem?_eq_getElem h]
  rfl
theorem joinB_size_mono (l : List ByteArray) (i : Nat) : (joinB (l.take i)).size ≤ (joinB l).size := by
  have h : ∀ (a b : List ByteArray), (joinB a).size ≤ (joinB (a ++ b)).size := by
    intro a b
    have : joinB (a ++ b) = joinB a ++ joinB b := by
      rw [show joinB (a ++ b) = (a ++ b).foldl (fun x t => x ++ frameB t) ⟨#[]⟩ from rfl, List.foldl_append, joinB_from]
      rfl
    rw [this, ByteArray.size_append]
    omega
  have := h (l.take i) (l.drop i)
  rwa [List.take_append_drop] at this
theorem cut_mod (c : Int) (n : Nat) (hn : n ≤ 90000) (h0 : 0 < n) : ∃ j : Nat, j < n ∧ wrap64 (Int.tmod (IntKind.u64.wrap c) (n : Int)) = (j : Int) := by
  have hw : 0 ≤ IntKind.u64.wrap c := by rw [IntKind.wrap_u64]; omega
  generalize IntKind.u64.wrap c = x at *
  rw [Int.tmod_eq_emod_of_nonneg hw]
  have h1 := Int.emod_nonneg x (show (n : Int) ≠ 0 by omega)
  have h2 := Int.emod_lt_of_pos x (show (0 : Int) < n by omega)
  refine ⟨(x % (n : Int)).toNat, by omega, ?_⟩
  unfold wrap64
  omega
theorem begins_j1 (b : ByteArray) (hb : b.size ≤ 20000) (c : Int) (k : Nat) (hk : 30000 < k) : trucelaw23_LogBegins.j1 (k + 1) b c (allT b) ((allN b : Nat) : Int) false = some true := by
  have hw : IntKind.u64.wrap (wrap64 ((b.size : Int) + 1)) = ((b.size + 1 : Nat) : Int) := by
    rw [IntKind.wrap_u64]; unfold wrap64; omega
  obtain ⟨j, hj, ej⟩ := cut_mod c (b.size + 1) (by omega) (by omega)
  rw [trucelaw23_LogBegins.j1, if_neg (by simp), hw, if_neg (by omega), ej, if_pos (by omega), if_pos (by omega), Int.toNat_natCast]
  have hsz : (b.extract 0 j).size ≤ 20000 := by rw [ByteArray.size_extract]; omega
  have hsp : b = b.extract 0 j ++ b.extract j b.size := by
    apply D_inj
    have := D_len b
    rw [D_app, D_ext, D_ext, List.drop_zero, Nat.sub_zero, List.take_of_length_le (l := (D b).drop j) (by rw [List.length_drop]; omega), List.take_append_drop]
  obtain ⟨⟨m, hm⟩, hle⟩ := all_begin _ (b.extract 0 j) (b.extract j b.size) (Nat.le_refl _)
  rw [← hsp] at hm hle
  have hcl : (allT (b.extract 0 j)).length ≤ 20000 := by
    rw [allT, texts_len]
    have := rAt_size (s := b.extract 0 j) (Nat.le_refl _)
    omega
  rw [frames_val _ (by omega), Option.bind_some]
  dsimp only
  have hlen : (allT (b.extract 0 j)).length ≤ (allT b).length := by rw [hm, List.length_append]; omega
  rw [if_pos (by omega), if_pos (by omega), Int.toNat_natCast, hm, List.take_left, same_refl _ (by omega) k (by omega), Option.bind_some, if_pos rfl, if_pos (by omega)]
  rfl
theorem begins_l0 (b : ByteArray) (hb : b.size ≤ 20000) (c : Int) : ∀ (d i k : Nat), (allT b).length - i ≤ d → i ≤ (allT b).length → d + 40000 < k →
    trucelaw23_LogBegins.l0 k b c (allT b) ((allN b : Nat) : Int) (joinB ((allT b).take i)) (allT b) ((allT b).length : Int) (i : Int) = some true := by
  obtain ⟨j1, j2, r, j3⟩ := join_back _ b (Nat.le_refl _)
  have hnl := allN_le b
  have hcl : (allT b).length ≤ 20000 := by
    rw [allT, texts_len]
    have := rAt_size (s := b) (Nat.le_refl _)
    omega
  intro d
  induction d with
  | zero =>
    intro i k hd hi hk
    obtain ⟨k, rfl⟩ : ∃ m, k = m + 2 := ⟨k - 2, by omega⟩
    obtain rfl : i = (allT b).length := by omega
    have e : (b.extract 0 (allN b)) = joinB (allT b) := by
      have : (joinB (allT b) ++ r).extract 0 (allN b) = joinB (allT b) := by
        rw [ext_app (by omega)]
        apply D_inj
        rw [D_ext, List.drop_zero, List.take_of_length_le (by rw [D_len]; omega)]
      rwa [← j3] at this
    rw [trucelaw23_LogBegins.l0, if_neg (by omega), if_neg (by omega), if_neg (by omega), if_pos (by omega), if_pos (by omega), List.take_length, Int.toNat_natCast, e]
    have hb0 : ((joinB (allT b)).toList != (joinB (allT b)).toList) = false := by simp
    rw [hb0]
    exact begins_j1 b hb c k (by omega)
  | succ d ih =>
    intro i k hd hi hk
    by_cases h : i < (allT b).length
    · obtain ⟨k, rfl⟩ : ∃ m, k = m + 1 := ⟨k - 1, by omega⟩
      have ht := j1 _ (List.getElem_mem h)
      have hg : (allT b).getD i ByteArray.empty = (allT b)[i] := by rw [List.getD_eq_getElem?_getD, List.getElem?_eq_getElem h]; rfl
      have hs := joinB_take (allT b) i h
      have hm := joinB_size_mono (allT b) (i + 1)
      have hm0 := joinB_size_mono (allT b) i
      rw [hs, ByteArray.size_append, hg] at hm
      rw [trucelaw23_LogBegins.l0, if_pos (by omega), if_pos (by omega), if_pos (by omega), rdOf_nat, frame_val _ (by rw [hg]; omega), Option.bind_some, if_pos (by rw [hg]; omega), wrap_nat1 i (by omega), ← hs]
      exact ih (i + 1) k (by omega) (by omega) (by omega)
    · exact ih i k (by omega) hi (by omega)
theorem begins_true (b : ByteArray) (c : Int) : ∃ k, trucelaw23_LogBegins.f k b c = some true := by
  refine ⟨70000, ?_⟩
  rw [trucelaw23_LogBegins.f]
  by_cases h : (b.size : Int) > 20000
  · rw [if_pos h]; rfl
  · have hcl : (allT b).length ≤ 20000 := by
      rw [allT, texts_len]
      have := rAt_size (s := b) (Nat.le_refl _)
      omega
    rw [if_neg h, frames_val b (by omega), Option.bind_some]
    exact begins_l0 b (by omega) c (allT b).length 0 70000 (by omega) (by omega) (by omega)
#print axioms begins_true
end Go.Proofs.Ytkpflejagagcbaa.P
