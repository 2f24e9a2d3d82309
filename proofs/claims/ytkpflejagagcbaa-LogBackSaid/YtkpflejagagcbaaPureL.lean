import Derived.Test.YtkpflejagagcbaaLogF
import Derived.Laws.Strings
namespace Go.Proofs.Ytkpflejagagcbaa.P
set_option linter.unusedVariables false
set_option linter.unusedSimpArgs false
open Go.RowKit Go.Proofs.YtkpflejagagcbaaW.PrintWords
/-! Records, put one behind the other, and told. -/
abbrev D (b : ByteArray) : List UInt8 := b.data.toList
theorem D_inj {a b : ByteArray} (h : D a = D b) : a = b := ByteArray.ext (Array.ext' h)
theorem D_ext (b : ByteArray) (i j : Nat) : D (b.extract i j) = ((D b).drop i).take (j - i) := by
  show (b.extract i j).data.toList = _
  rw [ByteArray.data_extract, Array.toList_extract]
theorem D_app (a b : ByteArray) : D (a ++ b) = D a ++ D b := by
  show (a ++ b).data.toList = _
  rw [ByteArray.data_append, Array.toList_append]
theorem D_len (b : ByteArray) : (D b).length = b.size := by
  show b.data.toList.length = b.data.size
  exact Array.length_toList
theorem toList_D (b : ByteArray) : b.toList = D b := ByteArray.toList_eq b
theorem toList_inj {a b : ByteArray} : a.toList = b.toList ↔ a = b := ⟨fun h => D_inj (by rwa [toList_D, toList_D] at h), fun h => by rw [h]⟩
theorem sb_D (b : ByteArray) (i : Nat) : sb b i = (D b).getD i 0 := by
  simp [sb, D, Array.getD_eq_getD_getElem?, List.getD_eq_getElem?_getD]
theorem numB_eq (b : ByteArray) : numB b = (((sb b 0).toNat * 256 + (sb b 1).toNat) * 256 + (sb b 2).toNat) * 256 + (sb b 3).toNat := by
  simp [numB, numI]
theorem numB_of {a b : ByteArray} (h : ∀ i, i < 4 → sb a i = sb b i) : numB a = numB b := by
  rw [numB_eq, numB_eq, h 0 (by omega), h 1 (by omega), h 2 (by omega), h 3 (by omega)]
theorem sb_app {a b : ByteArray} {i : Nat} (h : i < a.size) : sb (a ++ b) i = sb a i := by
  rw [sb_D, sb_D, D_app, List.getD_eq_getElem?_getD, List.getElem?_append_left (by rw [D_len]; exact h), ← List.getD_eq_getElem?_getD]
theorem ext_app {a b : ByteArray} {i j : Nat} (h : j ≤ a.size) : (a ++ b).extract i j = a.extract i j := by
  apply D_inj
  have hl := D_len a
  rw [D_ext, D_ext, D_app]
  by_cases hi : i ≤ a.size
  · rw [List.drop_append_of_le_length (by omega), List.take_append_of_le_length (by rw [List.length_drop]; omega)]
  · rw [show j - i = 0 by omega, List.take_zero, List.take_zero]
/-- The four bytes of a number. -/
def head4 (n : Nat) : ByteArray := strOfNums [0, ((n : Nat) : Int) / 65536 % 256, ((n : Nat) : Int) / 256 % 256, ((n : Nat) : Int) % 256]
theorem head4_size (n : Nat) : (head4 n).size = 4 := rfl
theorem head4_D (n : Nat) : D (head4 n) = [0, UInt8.ofNat (n / 65536 % 256), UInt8.ofNat (n / 256 % 256), UInt8.ofNat (n % 256)] := by
  have e1 : (((n : Nat) : Int) / 65536 % 256).toNat = n / 65536 % 256 := by omega
  have e2 : (((n : Nat) : Int) / 256 % 256).toNat = n / 256 % 256 := by omega
  have e3 : (((n : Nat) : Int) % 256).toNat = n % 256 := by omega
  show (strOfNums _).data.toList = _
  rw [strOfNums_data]
  simp only [List.map_cons, List.map_nil, e1, e2, e3]
  rfl
theorem byte_nat (k : Nat) (h : k < 256) : (UInt8.ofNat k).toNat = k := by simp; omega
theorem numB_head (n : Nat) (h : n ≤ 65536) : numB (head4 n) = n := by
  rw [numB_eq, sb_D, sb_D, sb_D, sb_D, head4_D]
  show (((0 : UInt8).toNat * 256 + (UInt8.ofNat (n / 65536 % 256)).toNat) * 256 + (UInt8.ofNat (n / 256 % 256)).toNat) * 256 + (UInt8.ofNat (n % 256)).toNat = n
  rw [byte_nat _ (by omega), byte_nat _ (by omega), byte_nat _ (by omega)]
  show ((0 * 256 + n / 65536 % 256) * 256 + n / 256 % 256) * 256 + n % 256 = n
  omega
def frameB (s : ByteArray) : ByteArray := if s.size > 65536 then ⟨#[]⟩ else head4 s.size ++ lsum (head4 s.size) s ++ s
theorem lsum_size (h t : ByteArray) : (lsum h t).size = 4 := by rw [lsum, ByteArray.size_extract, hsum_size]; rfl
theorem frame_val (s : ByteArray) (hs : s.size ≤ 90000) : log_Frame.f s = some (frameB s) := by
  rw [log_Frame.f, frameB]
  by_cases h : s.size > 65536
  · rw [if_pos (by omega), if_pos h]
  · have h4 := head4_size s.size
    have hl := lsum_size (head4 s.size) s
    rw [if_neg (by omega), if_neg h, Option.bind_some]
    show (log_sum.f (head4 s.size) s).bind _ = _
    rw [lsum_val _ _ (by omega), Option.bind_some]
    show (if (head4 s.size).size + _ ≤ _ then (if (head4 s.size ++ _).size + _ ≤ _ then some (head4 s.size ++ _ ++ s) else none) else none) = _
    rw [if_pos (by omega), if_pos (by rw [ByteArray.size_append]; omega)]
theorem frame_le {s : ByteArray} (h : s.size ≤ 65536) : frameB s = head4 s.size ++ lsum (head4 s.size) s ++ s := by rw [frameB, if_neg (by omega)]
theorem frame_size {s : ByteArray} (h : s.size ≤ 65536) : (frameB s).size = s.size + 8 := by
  rw [frame_le h, ByteArray.size_append, ByteArray.size_append, head4_size, lsum_size]; omega
theorem frame_D {s : ByteArray} (h : s.size ≤ 65536) : D (frameB s) = D (head4 s.size) ++ (D (lsum (head4 s.size) s) ++ D s) := by rw [frame_le h, D_app, D_app, List.append_assoc]
theorem frame_parts {s : ByteArray} (h : s.size ≤ 65536) (r : ByteArray) :
    (∀ i, i < 4 → sb (frameB s ++ r) i = sb (head4 s.size) i) ∧ (frameB s ++ r).extract 0 4 = head4 s.size ∧ (frameB s ++ r).extract 4 8 = lsum (head4 s.size) s ∧ (frameB s ++ r).extract 8 (8 + s.size) = s ∧ (frameB s ++ r).extract (8 + s.size) (frameB s ++ r).size = r := by
  have h4 := D_len (head4 s.size)
  have hl := D_len (lsum (head4 s.size) s)
  have hs := D_len s
  have hr := D_len r
  rw [head4_size] at h4
  rw [lsum_size] at hl
  have hD : D (frameB s ++ r) = D (head4 s.size) ++ (D (lsum (head4 s.size) s) ++ (D s ++ D r)) := by rw [D_app, frame_D h, List.append_assoc, List.append_assoc]
  have hsz : (frameB s ++ r).size = s.size + 8 + r.size := by rw [ByteArray.size_append, frame_size h]
  generalize frameB s ++ r = b at *
  generalize head4 s.size = H at *
  generalize lsum H s = S at *
  refine ⟨fun i hi => ?_, D_inj ?_, D_inj ?_, D_inj ?_, D_inj ?_⟩
  · rw [sb_D, sb_D, hD, List.getD_eq_getElem?_getD, List.getElem?_append_left (by omega), ← List.getD_eq_getElem?_getD]
  · rw [D_ext, hD, List.drop_zero, List.take_append_of_le_length (by omega), List.take_of_length_le (by omega)]
  · rw [D_ext, hD, List.drop_append, List.drop_of_length_le (by omega), List.nil_append, h4, Nat.sub_self, List.drop_zero, List.take_append_of_le_length (by omega), List.take_of_length_le (by omega)]
  · rw [D_ext, hD, List.drop_append, List.drop_of_length_le (by omega), List.nil_append, h4, List.drop_append, List.drop_of_length_le (by omega), List.nil_append, hl, Nat.sub_self, List.drop_zero, List.take_append_of_le_length (by omega), List.take_of_length_le (by omega)]
  · rw [D_ext, hD, hsz, List.drop_append, List.drop_of_length_le (by omega), List.nil_append, h4, List.drop_append, List.drop_of_length_le (by omega), List.nil_append, hl, List.drop_append, List.drop_of_length_le (by omega), List.nil_append, hs, show 8 + s.size - 4 - 4 - s.size = 0 by omega, List.drop_zero, List.take_of_length_le (by omega)]
theorem frame_first {s : ByteArray} (h : s.size ≤ 65536) (r : ByteArray) : recOk (frameB s ++ r) ∧ recT (frameB s ++ r) = s ∧ recR (frameB s ++ r) = r ∧ numB (frameB s ++ r) = s.size := by
  obtain ⟨p1, p2, p3, p4, p5⟩ := frame_parts h r
  have hn : numB (frameB s ++ r) = s.size := (numB_of p1).trans (numB_head _ h)
  have hsz : (frameB s ++ r).size = s.size + 8 + r.size := by rw [ByteArray.size_append, frame_size h]
  have ht : recT (frameB s ++ r) = s := by rw [recT, hn, p4]
  refine ⟨⟨by omega, by omega, by omega, ?_⟩, ht, by rw [recR, hn, p5], hn⟩
  rw [ht, p2, p3]
/-! All records that bytes begin with. -/
theorem cntF_more : ∀ (f g : Nat) (s : ByteArray), s.size ≤ f → s.size ≤ g → cntF f s = cntF g s := by
  intro f
  induction f with
  | zero =>
    intro g s hf hg
    cases g with
    | zero => rfl
    | succ g => rw [cntF, cntF, if_neg (fun h => by have := h.1; omega)]
  | succ f ih =>
    intro g s hf hg
    cases g with
    | zero => rw [cntF, cntF, if_neg (fun h => by have := h.1; omega)]
    | succ g =>
      rw [cntF, cntF]
      split
      · rename_i h
        have := recR_size h
        rw [ih g _ (by omega) (by omega)]
      · rfl
theorem cnt_ok {b : ByteArray} (h : recOk b) : cnt b = cnt (recR b) + 1 := by
  have h1 := h.1
  have h2 := recR_size h
  obtain ⟨n, hn⟩ : ∃ n, b.size = n + 1 := ⟨b.size - 1, by omega⟩
  rw [cnt, hn, cntF, if_pos h, cnt, cntF_more n (recR b).size _ (by omega) (Nat.le_refl _)]
theorem cnt_no {b : ByteArray} (h : ¬ recOk b) : cnt b = 0 := by
  rw [cnt]
  cases b.size with
  | zero => rfl
  | succ n => rw [cntF, if_neg h]
def allT (b : ByteArray) : List ByteArray := texts b (cnt b)
def allN (b : ByteArray) : Nat := nAt b (cnt b)
theorem allT_no {b : ByteArray} (h : ¬ recOk b) : allT b = [] ∧ allN b = 0 := by
  rw [allT, allN, cnt_no h]
  exact ⟨rfl, Nat.sub_self _⟩
theorem texts_cons (b : ByteArray) (n : Nat) : texts b (n + 1) = recT b :: texts (recR b) n := by
  have e : ∀ k, textAt b (k + 1) = textAt (recR b) k := fun k => by rw [textAt, textAt, rAt_succ]
  unfold texts
  rw [List.range_succ_eq_map, List.map_cons, List.map_map]
  refine congrArg (recT b :: ·) ?_
  apply List.map_congr_left
  intro k _
  exact e k
theorem allT_ok {b : ByteArray} (h : recOk b) : allT b = recT b :: allT (recR b) ∧ allN b = 8 + numB b + allN (recR b) := by
  have hs := recR_size h
  have hr := rAt_size (s := recR b) (Nat.le_refl _)
  have hc := cnt_ok h
  unfold allT allN
  rw [hc]
  refine ⟨texts_cons b _, ?_⟩
  unfold nAt
  rw [rAt_succ]
  generalize rAt (recR b) (cnt (recR b)) = z at *
  omega
theorem frames_val (b : ByteArray) (h : b.size ≤ 90000) : log_Frames.f b = some (allT b, ((allN b : Nat) : Int)) := by rw [log_Frames.f, if_pos h]; rfl
theorem allN_le (b : ByteArray) : allN b ≤ b.size := by unfold allN nAt; omega
theorem all_frame {s : ByteArray} (h : s.size ≤ 65536) (r : ByteArray) : allT (frameB s ++ r) = s :: allT r ∧ allN (frameB s ++ r) = (frameB s).size + allN r := by
  obtain ⟨p1, p2, p3, p4⟩ := frame_first h r
  have := allT_ok p1
  rw [p2, p3, p4] at this
  rw [frame_size h, this.1, this.2]
  exact ⟨rfl, by omega⟩
def joinB (l : List ByteArray) : ByteArray := l.foldl (fun x t => x ++ frameB t) ⟨#[]⟩
theorem joinB_from (l : List ByteArray) : ∀ x, l.foldl (fun x t => x ++ frameB t) x = x ++ joinB l := by
  induction l with
  | nil => intro x; show x = x ++ ⟨#[]⟩; apply D_inj; rw [D_app]; simp [D]
  | cons t l ih =>
    intro x
    have h : joinB (t :: l) = ((⟨#[]⟩ : ByteArray) ++ frameB t) ++ joinB l := ih _
    rw [List.foldl_cons, ih, h]
    apply D_inj
    rw [D_app, D_app, D_app, D_app, D_app]
    simp [D]
theorem nil_app (x : ByteArray) : (⟨#[]⟩ : ByteArray) ++ x = x := by apply D_inj; rw [D_app]; simp [D]
theorem app_nil (x : ByteArray) : x ++ (⟨#[]⟩ : ByteArray) = x := by apply D_inj; rw [D_app]; simp [D]
theorem app_assoc (x y z : ByteArray) : x ++ y ++ z = x ++ (y ++ z) := by apply D_inj; rw [D_app, D_app, D_app, D_app, List.append_assoc]
theorem joinB_cons (t : ByteArray) (l : List ByteArray) : joinB (t :: l) = frameB t ++ joinB l := by rw [joinB, List.foldl_cons, joinB_from, nil_app]
theorem joinB_snoc (t : ByteArray) (l : List ByteArray) : joinB (l ++ [t]) = joinB l ++ frameB t := by rw [joinB, List.foldl_append]; rfl
theorem all_join (l : List ByteArray) (hl : ∀ t ∈ l, t.size ≤ 65536) (r : ByteArray) : allT (joinB l ++ r) = l ++ allT r ∧ allN (joinB l ++ r) = (joinB l).size + allN r := by
  induction l with
  | nil => show allT ((⟨#[]⟩ : ByteArray) ++ r) = _ ∧ allN ((⟨#[]⟩ : ByteArray) ++ r) = 0 + _; rw [nil_app]; exact ⟨rfl, by omega⟩
  | cons t l ih =>
    obtain ⟨i1, i2⟩ := ih (fun t h => hl t (List.mem_cons_of_mem _ h))
    obtain ⟨a1, a2⟩ := all_frame (hl t (List.mem_cons_self ..)) (joinB l ++ r)
    rw [joinB_cons, app_assoc, a1, a2, i1, i2, ByteArray.size_append]
    exact ⟨rfl, by omega⟩
/-- A record that is cut is none. -/
theorem cut_no {t : ByteArray} (h : t.size ≤ 65536) {c : Nat} (hc : c < (frameB t).size) : ¬ recOk ((frameB t).extract 0 c) := by
  intro hok
  have hs := frame_size h
  have hsz : ((frameB t).extract 0 c).size = c := by rw [ByteArray.size_extract]; omega
  have h8 := hok.1
  have h3 := hok.2.2.1
  have p := frame_parts h ⟨#[]⟩
  rw [app_nil] at p
  have hn : numB ((frameB t).extract 0 c) = t.size := by
    refine (numB_of fun i hi => ?_).trans (numB_head _ h)
    rw [← p.1 i hi, sb_D, sb_D, D_ext, List.drop_zero, List.getD_eq_getElem?_getD, List.getElem?_take_of_lt (by omega), ← List.getD_eq_getElem?_getD]
  omega
/-! A beginning of bytes tells a beginning of their texts. -/
theorem ok_app {b : ByteArray} (h : recOk b) (r : ByteArray) : recOk (b ++ r) ∧ recT (b ++ r) = recT b ∧ recR (b ++ r) = recR b ++ r ∧ numB (b ++ r) = numB b := by
  have h1 := h.1
  have h3 := h.2.2.1
  have hn : numB (b ++ r) = numB b := numB_of fun i hi => sb_app (by omega)
  have ht : recT (b ++ r) = recT b := by rw [recT, recT, hn, ext_app (by omega)]
  refine ⟨⟨by rw [ByteArray.size_append]; omega, by rw [hn]; exact h.2.1, by rw [hn, ByteArray.size_append]; omega, ?_⟩, ht, ?_, hn⟩
  · rw [ht, ext_app (by omega), ext_app (by omega)]; exact h.2.2.2
  · apply D_inj
    have hb := D_len b
    have hr := D_len r
    rw [recR, recR, hn, D_app, D_ext, D_ext, D_app, ByteArray.size_append, List.drop_append_of_le_length (by omega), List.take_of_length_le (by rw [List.length_append, List.length_drop]; omega), List.take_of_length_le (by rw [List.length_drop]; omega)]
theorem all_begin : ∀ (n : Nat) (b r : ByteArray), b.size ≤ n → (∃ m, allT (b ++ r) = allT b ++ m) ∧ allN b ≤ allN (b ++ r) := by
  intro n
  induction n with
  | zero =>
    intro b r hb
    have h : ¬ recOk b := fun h => by have := h.1; omega
    rw [(allT_no h).1, (allT_no h).2]
    exact ⟨⟨_, rfl⟩, Nat.zero_le _⟩
  | succ n ih =>
    intro b r hb
    by_cases h : recOk b
    · obtain ⟨a1, a2, a3, a4⟩ := ok_app h r
      have hs := recR_size h
      obtain ⟨⟨m, hm⟩, hle⟩ := ih (recR b) r (by omega)
      rw [(allT_ok h).1, (allT_ok h).2, (allT_ok a1).1, (allT_ok a1).2, a2, a3, a4, hm]
      exact ⟨⟨m, rfl⟩, by omega⟩
    · rw [(allT_no h).1, (allT_no h).2]
      exact ⟨⟨_, rfl⟩, Nat.zero_le _⟩
/-- The record of what is told are the bytes told of. -/
theorem frame_back {b : ByteArray} (h : recOk b) : frameB (recT b) ++ recR b = b ∧ (recT b).size ≤ 65536 := by
  have h1 := h.1
  have h2 := h.2.1
  have h3 := h.2.2.1
  have ht := recT_size h
  have hb := D_len b
  have hh : head4 (numB b) = b.extract 0 4 := by
    have hn := numB_eq b
    have b0 := (sb b 0).toNat_lt
    have b1 := (sb b 1).toNat_lt
    have b2 := (sb b 2).toNat_lt
    have b3 := (sb b 3).toNat_lt
    apply D_inj
    rw [head4_D, D_ext, List.drop_zero]
    have e0 : (0 : UInt8) = sb b 0 := UInt8.toNat_inj.1 (by show 0 = _; omega)
    have e1 : UInt8.ofNat (numB b / 65536 % 256) = sb b 1 := UInt8.toNat_inj.1 (by rw [byte_nat _ (by omega)]; omega)
    have e2 : UInt8.ofNat (numB b / 256 % 256) = sb b 2 := UInt8.toNat_inj.1 (by rw [byte_nat _ (by omega)]; omega)
    have e3 : UInt8.ofNat (numB b % 256) = sb b 3 := UInt8.toNat_inj.1 (by rw [byte_nat _ (by omega)]; omega)
    rw [e1, e2, e3]
    rw [show ([0, sb b 1, sb b 2, sb b 3] : List UInt8) = [sb b 0, sb b 1, sb b 2, sb b 3] by rw [← e0]]
    rw [sb_D, sb_D, sb_D, sb_D]
    match hD : D b, hb with
    | a :: c :: d :: e :: l, _ => rfl
    | [], hb => simp at hb; omega
    | [_], hb => simp at hb; omega
    | [_, _], hb => simp at hb; omega
    | [_, _, _], hb => simp at hb; omega
  refine ⟨?_, by omega⟩
  have hl : lsum (head4 (numB b)) (recT b) = b.extract 4 8 := by rw [hh]; exact toList_inj.1 h.2.2.2
  apply D_inj
  rw [D_app, frame_D (by omega), ht, hl, hh, recR, recT, D_ext, D_ext, D_ext, D_ext, List.drop_zero]
  generalize D b = l at *
  generalize numB b = n at *
  rw [List.append_assoc, List.append_assoc, List.take_of_length_le (l := l.drop (8 + n)) (by rw [List.length_drop]; omega)]
  have e : l.drop (8 + n) = (l.drop 8).drop (8 + n - 8) := by rw [List.drop_drop]; congr 1; omega
  rw [e, List.take_append_drop]
  have e : l.drop 8 = (l.drop 4).drop (8 - 4) := by rw [List.drop_drop]
  rw [e, List.take_append_drop, show 4 - 0 = 4 from rfl, List.take_append_drop]
theorem join_back : ∀ (n : Nat) (b : ByteArray), b.size ≤ n → (∀ t ∈ allT b, t.size ≤ 65536) ∧ (joinB (allT b)).size = allN b ∧ ∃ r, b = joinB (allT b) ++ r := by
  intro n
  induction n with
  | zero =>
    intro b hb
    have h : ¬ recOk b := fun h => by have := h.1; omega
    rw [(allT_no h).1, (allT_no h).2]
    exact ⟨fun t ht => by simp at ht, rfl, b, (nil_app b).symm⟩
  | succ n ih =>
    intro b hb
    by_cases h : recOk b
    · have hs := recR_size h
      obtain ⟨f1, f2⟩ := frame_back h
      obtain ⟨i1, i2, r, i3⟩ := ih (recR b) (by omega)
      have hz := frame_size f2
      have ht := recT_size h
      rw [(allT_ok h).1, (allT_ok h).2, joinB_cons, ByteArray.size_append]
      refine ⟨fun t hm => ?_, by omega, r, ?_⟩
      · rcases List.mem_cons.1 hm with rfl | hm
        · exact f2
        · exact i1 t hm
      · rw [app_assoc, ← i3, f1]
    · rw [(allT_no h).1, (allT_no h).2]
      exact ⟨fun t ht => by simp at ht, rfl, b, (nil_app b).symm⟩
end Go.Proofs.Ytkpflejagagcbaa.P
