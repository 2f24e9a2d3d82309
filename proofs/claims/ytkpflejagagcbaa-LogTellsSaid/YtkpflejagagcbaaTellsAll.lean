import Derived.Test.YtkpflejagagcbaaPureL
import Derived.Test.YtkpflejagagcbaaPtrucelaw23LogTells
namespace Go.Proofs.Ytkpflejagagcbaa.P
set_option linter.unusedVariables false
set_option linter.unusedSimpArgs false
open Go.RowKit Go.Proofs.YtkpflejagagcbaaW.PrintWords
/-! Records are the document's. -/
theorem head_val (n : Nat) (h : n ≤ 65536) : truceref23_head.f (n : Int) = some (head4 n) := by
  rw [truceref23_head.f, head4, show ((n : Nat) : Int) / 16777216 % 256 = 0 by omega]
theorem rframe_val (s : ByteArray) (hs : s.size ≤ 90000) : truceref23_Frame.f s = some (frameB s) := by
  rw [truceref23_Frame.f, frameB]
  by_cases h : s.size > 65536
  · rw [if_pos (by omega), if_pos h]
  · have h4 := head4_size s.size
    have h32 := hsum_size (head4 s.size ++ s)
    have hl := lsum_size (head4 s.size) s
    rw [if_neg (by omega), if_neg h, head_val _ (by omega), Option.bind_some, if_pos (by omega), truceref05_Sum.f, if_pos (by rw [ByteArray.size_append]; omega), Option.bind_some, if_pos (by omega), if_pos (by omega)]
    show (if (head4 s.size).size + (lsum (head4 s.size) s).size ≤ _ then (if (head4 s.size ++ lsum (head4 s.size) s).size + _ ≤ _ then some (head4 s.size ++ lsum (head4 s.size) s ++ s) else none) else none) = _
    rw [if_pos (by omega), if_pos (by rw [ByteArray.size_append]; omega)]
theorem or_add (i x y : Nat) (hy : y < 2 ^ i) (hx : x * 2 ^ i + y < 9223372036854775808) : bits .or .i64 ((x * 2 ^ i : Nat) : Int) (y : Int) = ((x * 2 ^ i + y : Nat) : Int) := by
  show IntKind.i64.wrap ((BitVec.ofInt 64 ((x * 2 ^ i : Nat) : Int) ||| BitVec.ofInt 64 (y : Int)).toNat : Int) = _
  have h1 : (x * 2 ^ i) % 2 ^ 64 = x * 2 ^ i := Nat.mod_eq_of_lt (by omega)
  have h2 : y % 2 ^ 64 = y := Nat.mod_eq_of_lt (by omega)
  rw [BitVec.ofInt_natCast, BitVec.ofInt_natCast, BitVec.toNat_or, BitVec.toNat_ofNat, BitVec.toNat_ofNat, h1, h2]
  have := Nat.shiftLeft_add_eq_or_of_lt hy x
  rw [Nat.shiftLeft_eq] at this
  rw [← this, IntKind.wrap_i64]
  omega
theorem bt_sb (s : ByteArray) (i : Nat) : bt s (i : Int) = ((sb s i).toNat : Int) := by
  unfold bt
  rw [Int.toNat_natCast]
  split
  · rename_i h
    have : i < s.data.size := h
    have e : s[i] = sb s i := by simp only [sb, Array.getD, dif_pos this]; rfl
    rw [e]
  · rename_i h
    simp [sb, Array.getD, h]
theorem num_or (b0 b1 b2 b3 : Nat) (h0 : b0 < 256) (h1 : b1 < 256) (h2 : b2 < 256) (h3 : b3 < 256) :
    Go.bits .or .i64 (Go.bits .or .i64 (Go.bits .or .i64 (wrap64 ((wrap64 (b0 : Int)) * 16777216)) (wrap64 ((wrap64 (b1 : Int)) * 65536))) (wrap64 ((wrap64 (b2 : Int)) * 256))) (wrap64 (b3 : Int)) = ((((b0 * 256 + b1) * 256 + b2) * 256 + b3 : Nat) : Int) := by
  have e0 : wrap64 ((wrap64 (b0 : Int)) * 16777216) = ((b0 * 2 ^ 24 : Nat) : Int) := by unfold wrap64; omega
  have e1 : wrap64 ((wrap64 (b1 : Int)) * 65536) = ((b1 * 65536 : Nat) : Int) := by unfold wrap64; omega
  have e2 : wrap64 ((wrap64 (b2 : Int)) * 256) = ((b2 * 256 : Nat) : Int) := by unfold wrap64; omega
  have e3 : wrap64 (b3 : Int) = ((b3 : Nat) : Int) := by unfold wrap64; omega
  rw [e0, e1, e2, e3, or_add 24 b0 (b1 * 65536) (by omega) (by omega)]
  rw [show b0 * 2 ^ 24 + b1 * 65536 = (b0 * 256 + b1) * 2 ^ 16 by omega, or_add 16 _ (b2 * 256) (by omega) (by omega)]
  rw [show (b0 * 256 + b1) * 2 ^ 16 + b2 * 256 = ((b0 * 256 + b1) * 256 + b2) * 2 ^ 8 by omega, or_add 8 _ b3 (by omega) (by omega)]
theorem ext_ext (b : ByteArray) (m i j : Nat) : (b.extract m b.size).extract i j = b.extract (m + i) (m + j) := by
  apply D_inj
  have := D_len b
  rw [D_ext, D_ext, D_ext, List.take_of_length_le (l := (D b).drop m) (by rw [List.length_drop]; omega), List.drop_drop]
  congr 1
  omega
theorem ext_end (b : ByteArray) (m i : Nat) : (b.extract m b.size).extract i (b.extract m b.size).size = b.extract (m + i) b.size := by
  apply D_inj
  have := D_len b
  rw [D_ext, D_ext, D_ext, List.take_of_length_le (l := (D b).drop m) (by rw [List.length_drop]; omega), List.drop_drop, List.take_of_length_le (by rw [List.length_drop, ByteArray.size_extract]; omega), List.take_of_length_le (by rw [List.length_drop]; omega)]
theorem sb_ext (b : ByteArray) (m i : Nat) : sb (b.extract m b.size) i = sb b (m + i) := by
  have := D_len b
  rw [sb_D, sb_D, D_ext, List.take_of_length_le (by rw [List.length_drop]; omega), List.getD_eq_getElem?_getD, List.getElem?_drop, ← List.getD_eq_getElem?_getD]
theorem ext_key (b r : ByteArray) (m n : Nat) (h : r = b.extract m b.size) : r.extract (8 + n) r.size = b.extract (m + (8 + n)) b.size ∧ b.extract (m + 8) (m + (8 + n)) = r.extract 8 (8 + n) ∧ b.extract m (m + (8 + n)) = r.extract 0 (8 + n) := by
  subst h
  exact ⟨ext_end _ _ _, by rw [ext_ext], by rw [ext_ext, Nat.add_zero]⟩
theorem ext_take (r : ByteArray) (N i j : Nat) (h : j ≤ N) : (r.extract 0 N).extract i j = r.extract i j := by
  apply D_inj
  rw [D_ext, D_ext, D_ext, List.drop_zero, List.drop_take, List.take_take, show min (j - i) (N - 0 - i) = j - i by omega]
theorem rAt_ext (b : ByteArray) : ∀ k, k ≤ cnt b → rAt b k = b.extract (nAt b k) b.size := by
  intro k
  induction k with
  | zero =>
    intro _
    apply D_inj
    have := D_len b
    rw [D_ext, show nAt b 0 = 0 from Nat.sub_self _, List.drop_zero, List.take_of_length_le (by omega)]
    rfl
  | succ k ih =>
    intro hk
    have ih := ih (by omega)
    have hn := nAt_succ (s := b) (k := k) (by omega)
    rw [recT_size (rAt_ok (by omega))] at hn
    rw [hn]
    exact (ext_key b (rAt b k) (nAt b k) (numB (rAt b k)) ih).1
/-- The record that is told is the one that stands there. -/
theorem frame_iff {r : ByteArray} (h8 : 8 ≤ r.size) (h2 : numB r ≤ 65536) (h3 : numB r ≤ r.size - 8) : frameB (recT r) = r.extract 0 (8 + numB r) ↔ recOk r := by
  have ht : (recT r).size = numB r := by rw [recT, ByteArray.size_extract]; omega
  constructor
  · intro h
    refine ⟨h8, h2, h3, ?_⟩
    have hp := frame_parts (s := recT r) (by omega) ⟨#[]⟩
    rw [app_nil, h] at hp
    obtain ⟨_, p2, p3, _, _⟩ := hp
    rw [ext_take _ _ _ _ (by omega)] at p2
    rw [ext_take _ _ _ _ (by omega), ← p2] at p3
    rw [p3]
  · intro h
    have hb := (frame_back h).1
    have hs := frame_size (s := recT r) (by omega)
    have : (frameB (recT r) ++ recR r).extract 0 (8 + numB r) = frameB (recT r) := by
      rw [ext_app (by omega)]
      apply D_inj
      rw [D_ext, List.drop_zero, List.take_of_length_le (by rw [D_len]; omega)]
    rw [hb] at this
    exact this.symm
theorem num_at (r : ByteArray) : Go.bits .or .i64 (Go.bits .or .i64 (Go.bits .or .i64 (wrap64 ((wrap64 ((sb r 0).toNat : Int)) * 16777216)) (wrap64 ((wrap64 ((sb r 1).toNat : Int)) * 65536))) (wrap64 ((wrap64 ((sb r 2).toNat : Int)) * 256))) (wrap64 ((sb r 3).toNat : Int)) = ((numB r : Nat) : Int) := by
  rw [numB_eq]
  exact num_or _ _ _ _ (UInt8.toNat_lt _) (UInt8.toNat_lt _) (UInt8.toNat_lt _) (UInt8.toNat_lt _)
theorem round_small (b : ByteArray) (hb : b.size ≤ 70000) (o : List ByteArray) (m : Nat) (r : ByteArray) (he : r = b.extract m b.size) (hnl : m + r.size = b.size) (k : Nat) (h8 : ¬ 8 ≤ r.size) :
    truceref23_Frames.l0 (k + 1) b o (m : Int) = some (o, (m : Int)) := by
  have w0 : wrap64 ((b.size : Int) - (m : Int)) = (r.size : Int) := by unfold wrap64; omega
  rw [truceref23_Frames.l0, w0, if_neg (by omega)]
theorem round_head (b : ByteArray) (hb : b.size ≤ 70000) (o : List ByteArray) (m : Nat) (r : ByteArray) (he : r = b.extract m b.size) (hnl : m + r.size = b.size) (k : Nat) (h8 : 8 ≤ r.size) (n : Nat) (hn : numB r = n) :
    truceref23_Frames.l0 (k + 1) b o (m : Int) = truceref23_Frames.j1 k b o (m : Int) (n : Int) (decide (65536 < n ∨ r.size - 8 < n)) := by
  have w0 : wrap64 ((b.size : Int) - (m : Int)) = (r.size : Int) := by unfold wrap64; omega
  have w1 : wrap64 ((m : Int) + 1) = ((m + 1 : Nat) : Int) := by unfold wrap64; omega
  have w2 : wrap64 ((m : Int) + 2) = ((m + 2 : Nat) : Int) := by unfold wrap64; omega
  have w3 : wrap64 ((m : Int) + 3) = ((m + 3 : Nat) : Int) := by unfold wrap64; omega
  have w4 : wrap64 ((r.size : Int) - 8) = ((r.size - 8 : Nat) : Int) := by unfold wrap64; omega
  have sbm : ∀ j, sb b (m + j) = sb r j := fun j => by rw [he, sb_ext]
  have hnum := num_at r
  rw [hn] at hnum
  have e0 := bt_sb b m
  have e1 := bt_sb b (m + 1)
  have e2 := bt_sb b (m + 2)
  have e3 := bt_sb b (m + 3)
  rw [show sb b m = sb r 0 from sbm 0] at e0
  rw [sbm 1] at e1
  rw [sbm 2] at e2
  rw [sbm 3] at e3
  rw [truceref23_Frames.l0, w0, w1, w2, w3, if_pos (by omega), if_pos (by omega), if_pos (by omega), if_pos (by omega), if_pos (by omega), if_pos (by omega), if_pos (by omega), if_pos (by omega), if_pos (by omega), e0, e1, e2, e3, hnum, w4]
  clear hnum e0 e1 e2 e3 sbm hn he
  by_cases h2 : 65536 < n
  · have d1 : decide (65536 < n ∨ r.size - 8 < n) = true := decide_eq_true (.inl h2)
    rw [if_pos (by omega), d1]
  · rw [if_neg (by omega)]
    by_cases h3 : r.size - 8 < n
    · have d1 : decide (65536 < n ∨ r.size - 8 < n) = true := decide_eq_true (.inr h3)
      have d2 : decide ((n : Int) > ((r.size - 8 : Nat) : Int)) = true := decide_eq_true (by omega)
      rw [d1, d2]
    · have d1 : decide (65536 < n ∨ r.size - 8 < n) = false := decide_eq_false (fun h => h.elim h2 h3)
      have d2 : decide ((n : Int) > ((r.size - 8 : Nat) : Int)) = false := decide_eq_false (by omega)
      rw [d1, d2]
theorem round_body (b : ByteArray) (hb : b.size ≤ 70000) (o : List ByteArray) (m : Nat) (r : ByteArray) (he : r = b.extract m b.size) (hnl : m + r.size = b.size) (k : Nat) (h8 : 8 ≤ r.size) (n : Nat) (hn : numB r = n) (h2 : n ≤ 65536) (h3 : n ≤ r.size - 8) (ho : o.length ≤ 100000) :
    truceref23_Frames.j1 (k + 1) b o (m : Int) (n : Int) false = if recOk r then truceref23_Frames.l0 k b (o ++ [recT r]) ((m + (8 + n) : Nat) : Int) else some (o, (m : Int)) := by
  have w5 : wrap64 ((m : Int) + 8) = ((m + 8 : Nat) : Int) := by unfold wrap64; omega
  have w6 : wrap64 (((m + 8 : Nat) : Int) + (n : Int)) = ((m + (8 + n) : Nat) : Int) := by unfold wrap64; omega
  obtain ⟨_, k2, k3⟩ := ext_key b r m n he
  have ht : (recT r).size = n := by rw [recT, hn, ByteArray.size_extract]; omega
  have et : r.extract 8 (8 + n) = recT r := by rw [recT, hn]
  have hif := frame_iff h8 (by omega) (by omega)
  rw [hn] at hif
  rw [truceref23_Frames.j1, if_neg (by simp), w5, w6, if_pos (by omega), if_pos (by omega), if_pos (by omega), Int.toNat_natCast, Int.toNat_natCast, k2, et, rframe_val _ (by omega), Option.bind_some, if_pos (by omega), if_pos (by omega), Int.toNat_natCast, k3]
  by_cases hok : recOk r
  · rw [if_pos (toList_inj.2 (hif.2 hok)), if_pos (by omega), if_pos hok]
  · rw [if_neg (fun h => hok (hif.1 (toList_inj.1 h))), if_neg hok]
theorem rframes_l0 (b : ByteArray) (hb : b.size ≤ 70000) : ∀ (d i k : Nat), cnt b - i ≤ d → i ≤ cnt b → 2 * d + 2 < k →
    truceref23_Frames.l0 k b (texts b i) ((nAt b i : Nat) : Int) = some (allT b, ((allN b : Nat) : Int)) := by
  intro d
  induction d with
  | zero =>
    intro i k hd hi hk
    obtain ⟨k, rfl⟩ : ∃ m, k = m + 2 := ⟨k - 2, by omega⟩
    obtain rfl : i = cnt b := by omega
    have hno := rAt_end b
    have he := rAt_ext b (cnt b) (Nat.le_refl _)
    have hsz := rAt_size (s := b) (Nat.le_refl _)
    have hnl : nAt b (cnt b) + (rAt b (cnt b)).size = b.size := by unfold nAt; omega
    have htl := texts_len b (cnt b)
    have hgoal : allT b = texts b (cnt b) ∧ allN b = nAt b (cnt b) := ⟨rfl, rfl⟩
    rw [hgoal.1, hgoal.2]
    have hcl : cnt b ≤ 70000 := by omega
    generalize texts b (cnt b) = o at *
    generalize nAt b (cnt b) = m at *
    generalize rAt b (cnt b) = r at *
    by_cases h8 : 8 ≤ r.size
    · rw [round_head b hb o m r he hnl _ h8 _ rfl]
      by_cases h2 : 65536 < numB r ∨ r.size - 8 < numB r
      · rw [decide_eq_true h2, truceref23_Frames.j1, if_pos rfl]
      · rw [decide_eq_false h2, round_body b hb o m r he hnl _ h8 _ rfl (by omega) (by omega) (by omega), if_neg hno]
    · exact round_small b hb o m r he hnl _ h8
  | succ d ih =>
    intro i k hd hi hk
    by_cases h : i < cnt b
    · obtain ⟨k, rfl⟩ : ∃ m, k = m + 2 := ⟨k - 2, by omega⟩
      have hok := rAt_ok h
      have he := rAt_ext b i (by omega)
      have hsz := rAt_size (s := b) (show i ≤ cnt b by omega)
      have hnl : nAt b i + (rAt b i).size = b.size := by unfold nAt; omega
      have hns := nAt_succ h
      have hts := texts_succ b i
      rw [show textAt b i = recT (rAt b i) from rfl] at hts
      rw [recT_size hok] at hns
      have hI := ih (i + 1) k (by omega) (by omega) (by omega)
      rw [hns, hts] at hI
      have htl := texts_len b i
      have hcl : i ≤ 70000 := by omega
      generalize rAt b i = r at *
      generalize nAt b i = m at *
      generalize texts b i = o at *
      obtain ⟨h8, h2, h3, _⟩ := id hok
      rw [round_head b hb o m r he hnl _ h8 _ rfl, decide_eq_false (by omega), round_body b hb o m r he hnl _ h8 _ rfl h2 h3 (by omega), if_pos hok]
      exact hI
    · exact ih i k (by omega) hi (by omega)
theorem tells_true (s b : ByteArray) : ∃ k, trucelaw23_LogTells.f k s b = some true := by
  refine ⟨200001, ?_⟩
  have haw : ∀ k, trucelaw23_LogTells.j0 (k + 1) s b true = some true := fun k => by rw [trucelaw23_LogTells.j0, if_pos rfl]; rfl
  rw [trucelaw23_LogTells.f]
  by_cases h : (s.size : Int) > 70000
  · rw [if_pos h]; exact haw 200000
  · rw [if_neg h]
    by_cases h2 : (b.size : Int) > 70000
    · rw [decide_eq_true h2]; exact haw 200000
    · have hcl : cnt b ≤ 70000 := by have := rAt_size (s := b) (Nat.le_refl _); omega
      have hal : (allT b).length ≤ 70000 := by rw [allT, texts_len]; exact hcl
      have hF : truceref23_Frames.f 200000 b = some (allT b, ((allN b : Nat) : Int)) := by
        have := rframes_l0 b (by omega) (cnt b) 0 200000 (by omega) (by omega) (by omega)
        rw [show nAt b 0 = 0 from Nat.sub_self _] at this
        exact this
      rw [decide_eq_false h2]
      show trucelaw23_LogTells.j0 (200000 + 1) s b false = some true
      rw [trucelaw23_LogTells.j0, if_neg (by simp), frames_val b (by omega), Option.bind_some, hF, Option.bind_some, frame_val s (by omega), Option.bind_some, rframe_val s (by omega), Option.bind_some, if_pos rfl]
      dsimp only
      rw [same_refl _ (by omega) 200000 (by omega), Option.bind_some, if_pos rfl, if_pos rfl]
      rfl
#print axioms tells_true
end Go.Proofs.Ytkpflejagagcbaa.P

namespace Go.Proofs.Ytkpflejagagcbaa.P
set_option linter.unusedVariables false
open Go.RowKit Go.Proofs.YtkpflejagagcbaaW.PrintWords
/-! LogTells, called. -/
theorem logTells_law (s b : ByteArray) (w : World) : Calls Try.prog 3 #[.string s, .string b] w fun e w' => e = .returned (.bool true) ∧ Below w.heap.size w w' := by
  obtain ⟨k, hk⟩ := tells_true s b
  exact trucelaw23_LogTells.callsT k s b true w (Aside0.mk rfl) hk
end Go.Proofs.Ytkpflejagagcbaa.P
