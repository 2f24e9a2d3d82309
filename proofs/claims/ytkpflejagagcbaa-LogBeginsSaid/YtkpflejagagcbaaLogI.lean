import Derived.Test.YtkpflejagagcbaaCs
import Derived.Test.YtkpflejagagcbaaRangeV
import Derived.Test.YtkpflejagagcbaaLogF
import Derived.RangeFuncBox
import Derived.RangeFuncCalls
import Derived.OwnWalkIn
import Derived.TacticsInMore
import Derived.LoopNIn
import Derived.LoopIn
import Derived.Shelf.Abstract
import Derived.OrdersIn
namespace Go.Proofs.Ytkpflejagagcbaa.P
set_option linter.unusedVariables false
set_option linter.unusedSimpArgs false
open Go.RowKit Go.Shelf Go.Proofs.YtkpflejagagcbaaW.PrintWords
attribute [local go_sem] Oper.semAt_some
/-! The iterator over records. -/
theorem or_byte64 (n b : Nat) (hb : b < 256) (hn : n < 4294967296) : bits .or .i64 ((n : Int) * 256) (b : Int) = ((n * 256 + b : Nat) : Int) := by
  show IntKind.i64.wrap ((BitVec.ofInt 64 ((n : Int) * 256) ||| BitVec.ofInt 64 (b : Int)).toNat : Int) = _
  have h : BitVec.ofInt 64 ((n : Int) * 256) = BitVec.ofNat 64 (n * 256) := by
    rw [show ((n : Int) * 256) = ((n * 256 : Nat) : Int) by omega, BitVec.ofInt_natCast]
  have h1 : (n * 256) % 2 ^ 64 = n * 256 := Nat.mod_eq_of_lt (by omega)
  have h2 : b % 2 ^ 64 = b := Nat.mod_eq_of_lt (by omega)
  rw [h, BitVec.ofInt_natCast, BitVec.toNat_or, BitVec.toNat_ofNat, BitVec.toNat_ofNat, h1, h2]
  have := Nat.shiftLeft_add_eq_or_of_lt (i := 8) (b := b) (by omega) n
  rw [Nat.shiftLeft_eq] at this
  rw [show n * 256 = n * 2 ^ 8 from rfl, ← this, IntKind.wrap_i64]
  omega
theorem sb_get (x : ByteArray) (j : Nat) (h : j < x.size) : x[j] = sb x j := by
  have : j < x.data.size := h
  simp only [sb, Array.getD, dif_pos this]
  rfl
theorem numI_step (x : ByteArray) (j : Nat) (hj : j < 4) (h : j < x.size) : bits .or .i64 (wrap64 ((numI x j : Int) * 256)) (wrap64 ((x[j].toNat : Nat) : Int)) = (numI x (j + 1) : Int) := by
  have h1 := numI_lt x j
  have h2 : (256 : Nat) ^ j ≤ 256 ^ 3 := Nat.pow_le_pow_right (by decide) (by omega)
  have h3 := x[j].toNat_lt
  have e1 : wrap64 ((numI x j : Int) * 256) = (numI x j : Int) * 256 := by unfold wrap64; omega
  have e2 : wrap64 ((x[j].toNat : Nat) : Int) = ((x[j].toNat : Nat) : Int) := by unfold wrap64; omega
  rw [e1, e2, or_byte64 _ _ h3 (by omega), numI, sb_get x j h]
/-- A region that ends in good order: what it leaves is told by what it found. -/
theorem wpIn_put {F : Fence} {n : Nat} {P : Program} {c : Code} {K : Exit → Act → World → Prop} {a : Act} {w : World} (Good : Act → Act → World → Prop) (h : c.wpIn F n P (fun e a' w' => e = .normal ∧ Good a a' w') a w) (hn : ∀ a' w', Good a a' w' → K .normal a' w') : c.wpIn F n P K a w :=
  wpIn_mono h (fun e a' w' hh => by obtain ⟨rfl, h2⟩ := hh; exact hn a' w' h2)
theorem records_any (s : ByteArray) (w : World) :
    Calls Try.prog 13 #[.string s] w fun e w' => e = .returned (.func (.func 17) #[] #[.pointer (some ⟨w.heap.size, 0, none⟩)]) ∧ Box w' w.heap.size 9 #[.string s] ∧ Below w.heap.size w w' := by
  go_enter Try.func13, Try.ntmps13
  go_wp2
  exact bodyPost_ret (v := .func (.func 17) #[] #[.pointer (some ⟨w.heap.size, 0, none⟩)]) (by simp [results, Try.results13, go_sem]) rfl ⟨rfl, blk_new w _, below_alloc (Below.refl _ _) _⟩
/-- What stands between two rounds. -/
structure Hd (s : ByteArray) (g0 gs : Nat) (w : World) (k : Nat) (W : World) : Prop where
  box : Box W gs 9 #[.string (rAt s k)]
  below : Below g0 w W
def encs (s : ByteArray) (k : Nat) : Array Value := #[.string (textAt s k)]
def strLen (W : World) (g : Nat) : Nat := match W.cell? ⟨g, 0, none⟩ with
  | some (.string x) => x.size
  | _ => 0
set_option maxRecDepth 100000 in
set_option maxHeartbeats 4000000 in
theorem rec_rounds (n : Nat) (hn : 3 ≤ n) (s : ByteArray) (hs : s.size ≤ 90000) (gs : Nat) (w : World) (h1 : w.heap.size ≤ gs) (C : Nat → World → Prop) (hC : ∀ k W W', C k W → But gs W W' → C k W') :
    Rounds Fence.wide n Try.prog 17 #[.pointer (some ⟨gs, 0, none⟩)] (encs s) (fun k W => Hd s w.heap.size gs w k W ∧ C k W) (fun k W => Hd s w.heap.size gs w k W ∧ C k W) (fun k W => Hd s w.heap.size gs w k W ∧ C (k + 1) W) (cnt s) := by
  intro lp Rc hRc hY W hI hR
  refine callsIn_of_wp Try.func17 rfl trivial ?_ rfl
  simp only [Try.ntmps17, List.size_toArray, List.length_cons, List.length_nil, Nat.reduceAdd, Nat.reduceSub, Array.replicate_succ, Array.replicate_zero, List.push_toArray, List.append_toArray, List.nil_append, List.cons_append]
  have HI := Aside0.mk hI
  have HR := Aside0.mk hR
  clear hI hR
  gi_wp2_with fail
  gi_loopw [3] (fun _ wr => ∃ k : Nat, k ≤ cnt s ∧ (Hd s w.heap.size gs w k wr ∧ C k wr) ∧ Rc wr) (fun _ wr => strLen wr gs)
  case atStart => exact ⟨0, by omega, HI.out, HR.out⟩
  case round =>
    clear HI HR
    obtain ⟨k, hk, hI, hR⟩ := hrel
    have HI := Aside0.mk hI
    have HR := Aside0.mk hR
    clear hI hR
    have hsz := rAt_size hk
    have HOK := Aside0.mk (fun h : k < cnt s => rAt_ok h)
    have HEND := Aside0.mk (fun h : k = cnt s => by have := rAt_end s; rw [← h] at this; exact this)
    have b0 := HI.out.1.box.cell 0 (.string (rAt s k)) rfl
    have bf := HI.out.1.box.free 0
    have HBOX := Aside0.mk HI.out.1.box
    have HX := Aside0.mk (show encs s k = #[.string (recT (rAt s k))] ∧ rAt s (k + 1) = recR (rAt s k) from ⟨rfl, rfl⟩)
    obtain ⟨x, hx⟩ : ∃ x, rAt s k = x := ⟨_, rfl⟩
    rw [hx] at hsz HOK HEND b0 HBOX HX
    have HXX := Aside0.mk hx
    clear hx
    by_cases h8 : 8 ≤ x.size
    · have i8 : (8 : Int) ≤ (x.size : Int) := by omega
      gi_wp2_with fail
      gi_loopw [3, 9] (fun n i wq => ∃ j : Nat, j ≤ 4 ∧ n = .int .i64 (numI x j : Nat) ∧ i = .int .i64 (j : Nat) ∧ wq = wr) (fun _ i _ => 4 - (intOf i).toNat)
      case atStart => exact ⟨0, by omega, rfl, rfl, rfl⟩
      case round =>
        obtain ⟨j, hj, rfl, rfl, rfl⟩ := hrel
        by_cases hlt : j < 4
        · have hst := numI_step x j hlt (by omega)
          have HST := Aside0.mk hst
          clear hst
          gi_wp2
          exact ⟨⟨j + 1, by omega, by rw [HST.out], by go_num, trivial⟩, by simp [intOf]; omega⟩
        · obtain rfl : j = 4 := by omega
          have hnb : numI x 4 = numB x := rfl
          have hnl : numB x < 4294967296 := numI_lt x 4
          rw [hnb]
          have HT := Aside0.mk (show recT x = x.extract 8 (8 + numB x) ∧ recR x = x.extract (8 + numB x) x.size from ⟨rfl, rfl⟩)
          have HOKD := Aside0.mk (show recOk x ↔ 8 ≤ x.size ∧ numB x ≤ 65536 ∧ numB x ≤ x.size - 8 ∧ (lsum (x.extract 0 4) (recT x)).toList = (x.extract 4 8).toList from Iff.rfl)
          have HSZ := Aside0.mk (fun h : recOk x => recR_size h)
          generalize numB x = m at *
          clear hnb
          have hw8 : (x.size : Int) - 8 < 9223372036854775808 := by omega
          by_cases c1 : m ≤ 65536
          · have d1 : ¬ (m : Int) > 65536 := by omega
            by_cases c2 : m ≤ x.size - 8
            · have d2 : ¬ (x.size : Int) - 8 < (m : Int) := by omega
              have i9 : 8 + (m : Int) ≤ (x.size : Int) := by omega
              have i10 : (8 : Int) ≤ 8 + (m : Int) := by omega
              have i11 : (8 + (m : Int)).toNat = 8 + m := by omega
              gi_wp2_with fail
              obtain ⟨t, ht⟩ : ∃ t, x.extract 8 (8 + m) = t := ⟨_, rfl⟩
              obtain ⟨h4, hh4⟩ : ∃ t, x.extract 0 4 = t := ⟨_, rfl⟩
              obtain ⟨q4, hq4⟩ : ∃ t, x.extract 4 8 = t := ⟨_, rfl⟩
              have hts : t.size ≤ 65536 := by rw [← ht, ByteArray.size_extract]; omega
              have hhs : h4.size ≤ 4 := by rw [← hh4, ByteArray.size_extract]; omega
              have hrt : recT x = t := HT.out.1.trans ht
              rw [ht]
              have HSUM := Aside0.mk (fun W => log_sum.calls h4 t (lsum h4 t) W (lsum_val _ _ (by omega)))
              have hen := HX.out.1
              rw [hrt] at hen
              have HOKD' := HOKD.out
              rw [hrt, hh4, hq4] at HOKD'
              have HH4 := Aside0.mk hh4
              have HQ4 := Aside0.mk hq4
              clear ht hh4 hq4
              obtain ⟨y, hy⟩ : ∃ y, lsum h4 t = y := ⟨_, rfl⟩
              rw [hy] at HSUM HOKD'
              have HOKE := Aside0.mk HOKD'
              have HEN := Aside0.mk hen
              have HRT := Aside0.mk hrt
              clear HOKD' hen hrt hy
              by_cases c3 : y.toList = q4.toList
              · have hrok : recOk x := HOKE.out.2 ⟨h8, c1, c2, c3⟩
                have hlt : k < cnt s := by
                  by_cases h : k < cnt s
                  · exact h
                  · exact absurd hrok (HEND.out (by omega))
                have d3 : (y.toList == q4.toList) = true := beq_iff_eq.2 c3
                have HRK := Aside0.mk hrok
                have HYD := Aside0.mk (fun (W : World) (hb : Below wr.heap.size wr W) (hx : Box W gs 9 #[.string x]) => hY k W hlt ⟨⟨by rw [HXX.out]; exact hx, below_step HI.out.1.below hb⟩, hC _ _ _ HI.out.2 (But.of_below hb)⟩ (hRc _ _ HR.out ⟨hb.size, fun i o hi ho => (hb.block i (Array.getElem?_eq_some_iff.1 hi).1).trans hi⟩))
                rw [HEN.out] at HYD
                clear c3 hrok
                refine wpIn_put (fun a0 a' w' => a' = (((((((((((((a0.put (some 33) (.string x)).put (some 34) (.string h4)).put (some 35) (.string t)).put (some 36) (.string y)).put (some 37) (.string x)).put (some 38) (.string q4)).put (some 39) (.bool false)).put (some 40) (.bool false)).put (some 41) (.func (.yield lp) #[] #[])).put (some 42) (.string t)).put (some 43) (.bool true)).put (some 44) (.bool false)).put (some 45) (.bool false)) ∧ (Hd s w.heap.size gs w k w' ∧ C (k + 1) w') ∧ Rc w') ?hreg ?hnext
                case hreg =>
                  refine wpIn_region_any (by kernel_rfl) ?_
                  change wpAnyIn _ _ _ _ _ _ _ _ _ wr.drew
                  have HX0 := Aside0.mk (show Box wr.drew gs 9 #[.string x] from HBOX.out)
                  have HB0 := Aside0.mk (show Below wr.heap.size wr wr.drew from below_drew1 (Below.refl _ _))
                  generalize wr.drew = W0 at *
                  try simp only [Act.put, List.getElem_toArray, List.getElem_cons_zero, List.getElem_cons_succ, List.setIfInBounds_toArray, List.set_cons_zero, List.set_cons_succ]
                  refine wpAnyIn_take (i := 2) (v := .string t) rfl rfl (by kernel_rfl) (by kernel_rfl) (by kernel_rfl) (fun _ _ _ h => absurd h.1 (by simp)) ⟨.inl ⟨by rfl, fun _ => by go_simp⟩, fun _ => rfl⟩ ?_
                  try simp only [Act.put, List.getElem_toArray, List.getElem_cons_zero, List.getElem_cons_succ, List.setIfInBounds_toArray, List.set_cons_zero, List.set_cons_succ]
                  refine wpAnyIn_ready (rs := [0, 4]) (by kernel_rfl) (by simp) ?_
                  refine AllReadyIn.cons rfl (fun K hK => ?_) ?_
                  · have b := HX0.out.cell 0 (.string x) rfl
                    go_simp
                    refine hK _ _ ?_
                    clear hK K b
                    try simp only [Act.put, List.getElem_toArray, List.getElem_cons_zero, List.getElem_cons_succ, List.setIfInBounds_toArray, List.set_cons_zero, List.set_cons_succ]
                    refine wpAnyIn_take (i := 1) (v := .string h4) rfl rfl (by kernel_rfl) (by kernel_rfl) (by kernel_rfl) (fun _ _ _ h => absurd h.1 (by simp)) ⟨.inl ⟨by rfl, fun _ => by have i4 : (4 : Int) ≤ (x.size : Int) := (by omega); go_simp; exact HH4.out⟩, fun _ => rfl⟩ ?_
                    try simp only [Act.put, List.getElem_toArray, List.getElem_cons_zero, List.getElem_cons_succ, List.setIfInBounds_toArray, List.set_cons_zero, List.set_cons_succ]
                    refine wpAnyIn_ready (rs := [3, 4]) (by kernel_rfl) (by simp) ?_
                    refine AllReadyIn.cons rfl (fun K hK => ?_) ?_
                    · go_simp
                      refine ⟨trivial, fun _ => by omega, ?_⟩
                      refine (callsIn_wide.2 (HSUM.out _)).mono ?_
                      rintro e w5 ⟨rfl, hb5⟩
                      refine hK _ _ ?_
                      have hX5 := Aside0.mk (show Box w5 gs 9 _ from blk_below HX0.out hb5)
                      have hB5 := below_step HB0.out hb5
                      clear HX0 HB0 hK K hb5
                      have HX0 := hX5
                      have HB0 := Aside0.mk hB5
                      clear hX5 hB5
                      try simp only [Act.put, List.getElem_toArray, List.getElem_cons_zero, List.getElem_cons_succ, List.setIfInBounds_toArray, List.set_cons_zero, List.set_cons_succ]
                      refine wpAnyIn_ready (rs := [4]) (by kernel_rfl) (by simp) ?_
                      refine AllReadyIn.cons rfl (fun K hK => ?_) AllReadyIn.nil
                      have b := HX0.out.cell 0 (.string x) rfl
                      go_simp
                      refine hK _ _ ?_
                      clear hK K b
                      try simp only [Act.put, List.getElem_toArray, List.getElem_cons_zero, List.getElem_cons_succ, List.setIfInBounds_toArray, List.set_cons_zero, List.set_cons_succ]
                      refine wpAnyIn_take (i := 5) (v := .string q4) rfl rfl (by kernel_rfl) (by kernel_rfl) (by kernel_rfl) (fun _ _ _ h => absurd h.1 (by simp)) ⟨.inl ⟨by rfl, fun _ => by go_simp; exact HQ4.out⟩, fun _ => rfl⟩ ?_
                      try simp only [Act.put, List.getElem_toArray, List.getElem_cons_zero, List.getElem_cons_succ, List.setIfInBounds_toArray, List.set_cons_zero, List.set_cons_succ]
                      refine wpAnyIn_take (i := 6) (v := .bool false) rfl rfl (by kernel_rfl) (by kernel_rfl) (by kernel_rfl) (fun _ _ _ h => absurd h.1 (by simp)) ⟨.inl ⟨by rfl, fun _ => by go_simp⟩, fun _ => rfl⟩ ?_
                      try simp only [Act.put, List.getElem_toArray, List.getElem_cons_zero, List.getElem_cons_succ, List.setIfInBounds_toArray, List.set_cons_zero, List.set_cons_succ]
                      refine wpAnyIn_take (i := 7) (v := .bool false) rfl rfl (by kernel_rfl) (by kernel_rfl) (by kernel_rfl) (fun _ _ _ h => absurd h.1 (by simp)) ⟨.inl ⟨by rfl, fun _ => by go_simp⟩, fun _ => rfl⟩ ?_
                      try simp only [Act.put, List.getElem_toArray, List.getElem_cons_zero, List.getElem_cons_succ, List.setIfInBounds_toArray, List.set_cons_zero, List.set_cons_succ]
                      refine wpAnyIn_take (i := 8) (v := .func (.yield lp) #[] #[]) rfl rfl (by kernel_rfl) (by kernel_rfl) (by kernel_rfl) (fun _ _ _ h => absurd h.1 (by simp)) ⟨.inl ⟨by rfl, fun _ => by go_simp⟩, fun _ => rfl⟩ ?_
                      try simp only [Act.put, List.getElem_toArray, List.getElem_cons_zero, List.getElem_cons_succ, List.setIfInBounds_toArray, List.set_cons_zero, List.set_cons_succ]
                      refine wpAnyIn_take (i := 9) (v := .string t) rfl rfl (by kernel_rfl) (by kernel_rfl) (by kernel_rfl) (fun _ _ _ h => absurd h.1 (by simp)) ⟨.inl ⟨by rfl, fun _ => by go_simp⟩, fun _ => rfl⟩ ?_
                      try simp only [Act.put, List.getElem_toArray, List.getElem_cons_zero, List.getElem_cons_succ, List.setIfInBounds_toArray, List.set_cons_zero, List.set_cons_succ]
                      refine wpAnyIn_ready (rs := [10]) (by kernel_rfl) (by simp) ?_
                      refine AllReadyIn.cons rfl (fun K hK => ?_) AllReadyIn.nil
                      have hB0 := HB0.out
                      obtain ⟨fn, tmps, assign, body, hy, hRD⟩ := HYD.out _ hB0 HX0.out
                      go_simp
                      refine ⟨fun _ => by omega, ?_⟩
                      refine hRD.mono ?_
                      rintro e w6 ⟨rfl, hE6, hR6⟩
                      refine hK _ _ ?_
                      clear hK K
                      try simp only [Act.put, List.getElem_toArray, List.getElem_cons_zero, List.getElem_cons_succ, List.setIfInBounds_toArray, List.set_cons_zero, List.set_cons_succ]
                      refine wpAnyIn_take (i := 11) (v := .bool false) rfl rfl (by kernel_rfl) (by kernel_rfl) (by kernel_rfl) (fun _ _ _ h => absurd h.1 (by simp)) ⟨.inl ⟨by rfl, fun _ => by go_simp⟩, fun _ => rfl⟩ ?_
                      try simp only [Act.put, List.getElem_toArray, List.getElem_cons_zero, List.getElem_cons_succ, List.setIfInBounds_toArray, List.set_cons_zero, List.set_cons_succ]
                      refine wpAnyIn_take (i := 12) (v := .bool false) rfl rfl (by kernel_rfl) (by kernel_rfl) (by kernel_rfl) (fun _ _ _ h => absurd h.1 (by simp)) ⟨.inl ⟨by rfl, fun _ => by go_simp⟩, fun _ => rfl⟩ ?_
                      try simp only [Act.put, List.getElem_toArray, List.getElem_cons_zero, List.getElem_cons_succ, List.setIfInBounds_toArray, List.set_cons_zero, List.set_cons_succ]
                      refine wpAnyIn_done (by kernel_rfl) ?_ _
                      exact ⟨rfl, rfl, hE6, hR6⟩
                    refine AllReadyIn.cons rfl (fun K hK => ?_) AllReadyIn.nil
                    have b := HX0.out.cell 0 (.string x) rfl
                    go_simp
                    refine hK _ _ ?_
                    clear hK K b
                    try simp only [Act.put, List.getElem_toArray, List.getElem_cons_zero, List.getElem_cons_succ, List.setIfInBounds_toArray, List.set_cons_zero, List.set_cons_succ]
                    refine wpAnyIn_take (i := 5) (v := .string q4) rfl rfl (by kernel_rfl) (by kernel_rfl) (by kernel_rfl) (fun _ _ _ h => absurd h.1 (by simp)) ⟨.inl ⟨by rfl, fun _ => by go_simp; exact HQ4.out⟩, fun _ => rfl⟩ ?_
                    try simp only [Act.put, List.getElem_toArray, List.getElem_cons_zero, List.getElem_cons_succ, List.setIfInBounds_toArray, List.set_cons_zero, List.set_cons_succ]
                    refine wpAnyIn_ready (rs := [3]) (by kernel_rfl) (by simp) ?_
                    refine AllReadyIn.cons rfl (fun K hK => ?_) AllReadyIn.nil
                    go_simp
                    refine ⟨trivial, fun _ => by omega, ?_⟩
                    refine (callsIn_wide.2 (HSUM.out _)).mono ?_
                    rintro e w5 ⟨rfl, hb5⟩
                    refine hK _ _ ?_
                    have hX5 := Aside0.mk (show Box w5 gs 9 _ from blk_below HX0.out hb5)
                    have hB5 := below_step HB0.out hb5
                    clear HX0 HB0 hK K hb5
                    have HX0 := hX5
                    have HB0 := Aside0.mk hB5
                    clear hX5 hB5
                    try simp only [Act.put, List.getElem_toArray, List.getElem_cons_zero, List.getElem_cons_succ, List.setIfInBounds_toArray, List.set_cons_zero, List.set_cons_succ]
                    refine wpAnyIn_take (i := 6) (v := .bool false) rfl rfl (by kernel_rfl) (by kernel_rfl) (by kernel_rfl) (fun _ _ _ h => absurd h.1 (by simp)) ⟨.inl ⟨by rfl, fun _ => by go_simp⟩, fun _ => rfl⟩ ?_
                    try simp only [Act.put, List.getElem_toArray, List.getElem_cons_zero, List.getElem_cons_succ, List.setIfInBounds_toArray, List.set_cons_zero, List.set_cons_succ]
                    refine wpAnyIn_take (i := 7) (v := .bool false) rfl rfl (by kernel_rfl) (by kernel_rfl) (by kernel_rfl) (fun _ _ _ h => absurd h.1 (by simp)) ⟨.inl ⟨by rfl, fun _ => by go_simp⟩, fun _ => rfl⟩ ?_
                    try simp only [Act.put, List.getElem_toArray, List.getElem_cons_zero, List.getElem_cons_succ, List.setIfInBounds_toArray, List.set_cons_zero, List.set_cons_succ]
                    refine wpAnyIn_take (i := 8) (v := .func (.yield lp) #[] #[]) rfl rfl (by kernel_rfl) (by kernel_rfl) (by kernel_rfl) (fun _ _ _ h => absurd h.1 (by simp)) ⟨.inl ⟨by rfl, fun _ => by go_simp⟩, fun _ => rfl⟩ ?_
                    try simp only [Act.put, List.getElem_toArray, List.getElem_cons_zero, List.getElem_cons_succ, List.setIfInBounds_toArray, List.set_cons_zero, List.set_cons_succ]
                    refine wpAnyIn_take (i := 9) (v := .string t) rfl rfl (by kernel_rfl) (by kernel_rfl) (by kernel_rfl) (fun _ _ _ h => absurd h.1 (by simp)) ⟨.inl ⟨by rfl, fun _ => by go_simp⟩, fun _ => rfl⟩ ?_
                    try simp only [Act.put, List.getElem_toArray, List.getElem_cons_zero, List.getElem_cons_succ, List.setIfInBounds_toArray, List.set_cons_zero, List.set_cons_succ]
                    refine wpAnyIn_ready (rs := [10]) (by kernel_rfl) (by simp) ?_
                    refine AllReadyIn.cons rfl (fun K hK => ?_) AllReadyIn.nil
                    have hB0 := HB0.out
                    obtain ⟨fn, tmps, assign, body, hy, hRD⟩ := HYD.out _ hB0 HX0.out
                    go_simp
                    refine ⟨fun _ => by omega, ?_⟩
                    refine hRD.mono ?_
                    rintro e w6 ⟨rfl, hE6, hR6⟩
                    refine hK _ _ ?_
                    clear hK K
                    try simp only [Act.put, List.getElem_toArray, List.getElem_cons_zero, List.getElem_cons_succ, List.setIfInBounds_toArray, List.set_cons_zero, List.set_cons_succ]
                    refine wpAnyIn_take (i := 11) (v := .bool false) rfl rfl (by kernel_rfl) (by kernel_rfl) (by kernel_rfl) (fun _ _ _ h => absurd h.1 (by simp)) ⟨.inl ⟨by rfl, fun _ => by go_simp⟩, fun _ => rfl⟩ ?_
                    try simp only [Act.put, List.getElem_toArray, List.getElem_cons_zero, List.getElem_cons_succ, List.setIfInBounds_toArray, List.set_cons_zero, List.set_cons_succ]
                    refine wpAnyIn_take (i := 12) (v := .bool false) rfl rfl (by kernel_rfl) (by kernel_rfl) (by kernel_rfl) (fun _ _ _ h => absurd h.1 (by simp)) ⟨.inl ⟨by rfl, fun _ => by go_simp⟩, fun _ => rfl⟩ ?_
                    try simp only [Act.put, List.getElem_toArray, List.getElem_cons_zero, List.getElem_cons_succ, List.setIfInBounds_toArray, List.set_cons_zero, List.set_cons_succ]
                    refine wpAnyIn_done (by kernel_rfl) ?_ _
                    exact ⟨rfl, rfl, hE6, hR6⟩
                  refine AllReadyIn.cons rfl (fun K hK => ?_) AllReadyIn.nil
                  have b := HX0.out.cell 0 (.string x) rfl
                  go_simp
                  refine hK _ _ ?_
                  clear hK K b
                  try simp only [Act.put, List.getElem_toArray, List.getElem_cons_zero, List.getElem_cons_succ, List.setIfInBounds_toArray, List.set_cons_zero, List.set_cons_succ]
                  refine wpAnyIn_take (i := 5) (v := .string q4) rfl rfl (by kernel_rfl) (by kernel_rfl) (by kernel_rfl) (fun _ _ _ h => absurd h.1 (by simp)) ⟨.inl ⟨by rfl, fun _ => by go_simp; exact HQ4.out⟩, fun _ => rfl⟩ ?_
                  try simp only [Act.put, List.getElem_toArray, List.getElem_cons_zero, List.getElem_cons_succ, List.setIfInBounds_toArray, List.set_cons_zero, List.set_cons_succ]
                  refine wpAnyIn_ready (rs := [0]) (by kernel_rfl) (by simp) ?_
                  refine AllReadyIn.cons rfl (fun K hK => ?_) AllReadyIn.nil
                  have b := HX0.out.cell 0 (.string x) rfl
                  go_simp
                  refine hK _ _ ?_
                  clear hK K b
                  try simp only [Act.put, List.getElem_toArray, List.getElem_cons_zero, List.getElem_cons_succ, List.setIfInBounds_toArray, List.set_cons_zero, List.set_cons_succ]
                  refine wpAnyIn_take (i := 1) (v := .string h4) rfl rfl (by kernel_rfl) (by kernel_rfl) (by kernel_rfl) (fun _ _ _ h => absurd h.1 (by simp)) ⟨.inl ⟨by rfl, fun _ => by have i4 : (4 : Int) ≤ (x.size : Int) := (by omega); go_simp; exact HH4.out⟩, fun _ => rfl⟩ ?_
                  try simp only [Act.put, List.getElem_toArray, List.getElem_cons_zero, List.getElem_cons_succ, List.setIfInBounds_toArray, List.set_cons_zero, List.set_cons_succ]
                  refine wpAnyIn_ready (rs := [3]) (by kernel_rfl) (by simp) ?_
                  refine AllReadyIn.cons rfl (fun K hK => ?_) AllReadyIn.nil
                  go_simp
                  refine ⟨trivial, fun _ => by omega, ?_⟩
                  refine (callsIn_wide.2 (HSUM.out _)).mono ?_
                  rintro e w5 ⟨rfl, hb5⟩
                  refine hK _ _ ?_
                  have hX5 := Aside0.mk (show Box w5 gs 9 _ from blk_below HX0.out hb5)
                  have hB5 := below_step HB0.out hb5
                  clear HX0 HB0 hK K hb5
                  have HX0 := hX5
                  have HB0 := Aside0.mk hB5
                  clear hX5 hB5
                  try simp only [Act.put, List.getElem_toArray, List.getElem_cons_zero, List.getElem_cons_succ, List.setIfInBounds_toArray, List.set_cons_zero, List.set_cons_succ]
                  refine wpAnyIn_take (i := 6) (v := .bool false) rfl rfl (by kernel_rfl) (by kernel_rfl) (by kernel_rfl) (fun _ _ _ h => absurd h.1 (by simp)) ⟨.inl ⟨by rfl, fun _ => by go_simp⟩, fun _ => rfl⟩ ?_
                  try simp only [Act.put, List.getElem_toArray, List.getElem_cons_zero, List.getElem_cons_succ, List.setIfInBounds_toArray, List.set_cons_zero, List.set_cons_succ]
                  refine wpAnyIn_take (i := 7) (v := .bool false) rfl rfl (by kernel_rfl) (by kernel_rfl) (by kernel_rfl) (fun _ _ _ h => absurd h.1 (by simp)) ⟨.inl ⟨by rfl, fun _ => by go_simp⟩, fun _ => rfl⟩ ?_
                  try simp only [Act.put, List.getElem_toArray, List.getElem_cons_zero, List.getElem_cons_succ, List.setIfInBounds_toArray, List.set_cons_zero, List.set_cons_succ]
                  refine wpAnyIn_take (i := 8) (v := .func (.yield lp) #[] #[]) rfl rfl (by kernel_rfl) (by kernel_rfl) (by kernel_rfl) (fun _ _ _ h => absurd h.1 (by simp)) ⟨.inl ⟨by rfl, fun _ => by go_simp⟩, fun _ => rfl⟩ ?_
                  try simp only [Act.put, List.getElem_toArray, List.getElem_cons_zero, List.getElem_cons_succ, List.setIfInBounds_toArray, List.set_cons_zero, List.set_cons_succ]
                  refine wpAnyIn_take (i := 9) (v := .string t) rfl rfl (by kernel_rfl) (by kernel_rfl) (by kernel_rfl) (fun _ _ _ h => absurd h.1 (by simp)) ⟨.inl ⟨by rfl, fun _ => by go_simp⟩, fun _ => rfl⟩ ?_
                  try simp only [Act.put, List.getElem_toArray, List.getElem_cons_zero, List.getElem_cons_succ, List.setIfInBounds_toArray, List.set_cons_zero, List.set_cons_succ]
                  refine wpAnyIn_ready (rs := [10]) (by kernel_rfl) (by simp) ?_
                  refine AllReadyIn.cons rfl (fun K hK => ?_) AllReadyIn.nil
                  have hB0 := HB0.out
                  obtain ⟨fn, tmps, assign, body, hy, hRD⟩ := HYD.out _ hB0 HX0.out
                  go_simp
                  refine ⟨fun _ => by omega, ?_⟩
                  refine hRD.mono ?_
                  rintro e w6 ⟨rfl, hE6, hR6⟩
                  refine hK _ _ ?_
                  clear hK K
                  try simp only [Act.put, List.getElem_toArray, List.getElem_cons_zero, List.getElem_cons_succ, List.setIfInBounds_toArray, List.set_cons_zero, List.set_cons_succ]
                  refine wpAnyIn_take (i := 11) (v := .bool false) rfl rfl (by kernel_rfl) (by kernel_rfl) (by kernel_rfl) (fun _ _ _ h => absurd h.1 (by simp)) ⟨.inl ⟨by rfl, fun _ => by go_simp⟩, fun _ => rfl⟩ ?_
                  try simp only [Act.put, List.getElem_toArray, List.getElem_cons_zero, List.getElem_cons_succ, List.setIfInBounds_toArray, List.set_cons_zero, List.set_cons_succ]
                  refine wpAnyIn_take (i := 12) (v := .bool false) rfl rfl (by kernel_rfl) (by kernel_rfl) (by kernel_rfl) (fun _ _ _ h => absurd h.1 (by simp)) ⟨.inl ⟨by rfl, fun _ => by go_simp⟩, fun _ => rfl⟩ ?_
                  try simp only [Act.put, List.getElem_toArray, List.getElem_cons_zero, List.getElem_cons_succ, List.setIfInBounds_toArray, List.set_cons_zero, List.set_cons_succ]
                  refine wpAnyIn_done (by kernel_rfl) ?_ _
                  exact ⟨rfl, rfl, hE6, hR6⟩
                case hnext =>
                  rintro _ w6 ⟨rfl, hE6, hR6⟩
                  try simp only [Act.put, List.getElem_toArray, List.getElem_cons_zero, List.getElem_cons_succ, List.setIfInBounds_toArray, List.set_cons_zero, List.set_cons_succ]
                  have b6 := hE6.1.box.cell 0 (.string (rAt s k)) rfl
                  have f6 := hE6.1.box.free 0
                  rw [HXX.out] at b6
                  have HE6 := Aside0.mk hE6
                  have HR6 := Aside0.mk hR6
                  have i12 : 8 + (m : Int) ≤ (x.size : Int) := by omega
                  clear hE6 hR6
                  gi_wp2_with fail
                  have HBt : But gs w6 (w6.setCell ⟨gs, 0, none⟩ (.string (x.extract (8 + m) x.size))) := ⟨rfl, rfl, rfl, by simp, fun i _ hn => Below.heap_setCell _ _ _ i hn⟩
                  have hbx : Box (w6.setCell ⟨gs, 0, none⟩ (.string (x.extract (8 + m) x.size))) gs 9 #[.string (recR x)] := by rw [HT.out.2]; exact blk_set HE6.out.1.box 0 _
                  have e1 : strLen (w6.setCell ⟨gs, 0, none⟩ (.string (x.extract (8 + m) x.size))) gs = (recR x).size := by rw [strLen, hbx.cell 0 (.string (recR x)) rfl]
                  have e2 : strLen wr gs = x.size := by rw [strLen, b0]
                  have e3 := HSZ.out HRK.out
                  exact ⟨⟨k + 1, by omega, ⟨⟨by rw [HX.out.2]; exact hbx, But.below HE6.out.1.below HBt h1 (Nat.le_refl _)⟩, hC _ _ _ HE6.out.2 HBt⟩, hRc _ _ HR6.out (KeepsOthers.setCell _ _ _)⟩, by rw [e1, e2]; omega⟩
              · have d3 : (y.toList == q4.toList) = false := beq_eq_false_iff_ne.2 c3
                have hke : k = cnt s := by
                  by_cases h : k < cnt s
                  · exact absurd (HOKE.out.1 (HOK.out h)).2.2.2 c3
                  · omega
                have HKE := Aside0.mk hke
                clear c3 hke
                refine wpIn_put (fun a0 a' w' => a' = (((((((((((((a0.put (some 33) (.string x)).put (some 34) (.string h4)).put (some 35) (.string t)).put (some 36) (.string y)).put (some 37) (.string x)).put (some 38) (.string q4)).put (some 39) (.bool true)).put (some 40) (.bool true)).put (some 41) (undef)).put (some 42) (undef)).put (some 43) (undef)).put (some 44) (undef)).put (some 45) (.bool true)) ∧ Below wr.heap.size wr w') ?hreg ?hnext
                case hreg =>
                  refine wpIn_region_any (by kernel_rfl) ?_
                  change wpAnyIn _ _ _ _ _ _ _ _ _ wr.drew
                  have HX0 := Aside0.mk (show Box wr.drew gs 9 #[.string x] from HBOX.out)
                  have HB0 := Aside0.mk (show Below wr.heap.size wr wr.drew from below_drew1 (Below.refl _ _))
                  generalize wr.drew = W0 at *
                  try simp only [Act.put, List.getElem_toArray, List.getElem_cons_zero, List.getElem_cons_succ, List.setIfInBounds_toArray, List.set_cons_zero, List.set_cons_succ]
                  refine wpAnyIn_take (i := 2) (v := .string t) rfl rfl (by kernel_rfl) (by kernel_rfl) (by kernel_rfl) (fun _ _ _ h => absurd h.1 (by simp)) ⟨.inl ⟨by rfl, fun _ => by go_simp⟩, fun _ => rfl⟩ ?_
                  try simp only [Act.put, List.getElem_toArray, List.getElem_cons_zero, List.getElem_cons_succ, List.setIfInBounds_toArray, List.set_cons_zero, List.set_cons_succ]
                  refine wpAnyIn_ready (rs := [0, 4]) (by kernel_rfl) (by simp) ?_
                  refine AllReadyIn.cons rfl (fun K hK => ?_) ?_
                  · have b := HX0.out.cell 0 (.string x) rfl
                    go_simp
                    refine hK _ _ ?_
                    clear hK K b
                    try simp only [Act.put, List.getElem_toArray, List.getElem_cons_zero, List.getElem_cons_succ, List.setIfInBounds_toArray, List.set_cons_zero, List.set_cons_succ]
                    refine wpAnyIn_take (i := 1) (v := .string h4) rfl rfl (by kernel_rfl) (by kernel_rfl) (by kernel_rfl) (fun _ _ _ h => absurd h.1 (by simp)) ⟨.inl ⟨by rfl, fun _ => by have i4 : (4 : Int) ≤ (x.size : Int) := (by omega); go_simp; exact HH4.out⟩, fun _ => rfl⟩ ?_
                    try simp only [Act.put, List.getElem_toArray, List.getElem_cons_zero, List.getElem_cons_succ, List.setIfInBounds_toArray, List.set_cons_zero, List.set_cons_succ]
                    refine wpAnyIn_ready (rs := [3, 4]) (by kernel_rfl) (by simp) ?_
                    refine AllReadyIn.cons rfl (fun K hK => ?_) ?_
                    · go_simp
                      refine ⟨trivial, fun _ => by omega, ?_⟩
                      refine (callsIn_wide.2 (HSUM.out _)).mono ?_
                      rintro e w5 ⟨rfl, hb5⟩
                      refine hK _ _ ?_
                      have hX5 := Aside0.mk (show Box w5 gs 9 _ from blk_below HX0.out hb5)
                      have hB5 := below_step HB0.out hb5
                      clear HX0 HB0 hK K hb5
                      have HX0 := hX5
                      have HB0 := Aside0.mk hB5
                      clear hX5 hB5
                      try simp only [Act.put, List.getElem_toArray, List.getElem_cons_zero, List.getElem_cons_succ, List.setIfInBounds_toArray, List.set_cons_zero, List.set_cons_succ]
                      refine wpAnyIn_ready (rs := [4]) (by kernel_rfl) (by simp) ?_
                      refine AllReadyIn.cons rfl (fun K hK => ?_) AllReadyIn.nil
                      have b := HX0.out.cell 0 (.string x) rfl
                      go_simp
                      refine hK _ _ ?_
                      clear hK K b
                      try simp only [Act.put, List.getElem_toArray, List.getElem_cons_zero, List.getElem_cons_succ, List.setIfInBounds_toArray, List.set_cons_zero, List.set_cons_succ]
                      refine wpAnyIn_take (i := 5) (v := .string q4) rfl rfl (by kernel_rfl) (by kernel_rfl) (by kernel_rfl) (fun _ _ _ h => absurd h.1 (by simp)) ⟨.inl ⟨by rfl, fun _ => by go_simp; exact HQ4.out⟩, fun _ => rfl⟩ ?_
                      try simp only [Act.put, List.getElem_toArray, List.getElem_cons_zero, List.getElem_cons_succ, List.setIfInBounds_toArray, List.set_cons_zero, List.set_cons_succ]
                      refine wpAnyIn_take (i := 6) (v := .bool true) rfl rfl (by kernel_rfl) (by kernel_rfl) (by kernel_rfl) (fun _ _ _ h => absurd h.1 (by simp)) ⟨.inl ⟨by rfl, fun _ => by go_simp⟩, fun _ => rfl⟩ ?_
                      try simp only [Act.put, List.getElem_toArray, List.getElem_cons_zero, List.getElem_cons_succ, List.setIfInBounds_toArray, List.set_cons_zero, List.set_cons_succ]
                      refine wpAnyIn_take (i := 7) (v := .bool true) rfl rfl (by kernel_rfl) (by kernel_rfl) (by kernel_rfl) (fun _ _ _ h => absurd h.1 (by simp)) ⟨.inl ⟨by rfl, fun _ => by go_simp⟩, fun _ => rfl⟩ ?_
                      try simp only [Act.put, List.getElem_toArray, List.getElem_cons_zero, List.getElem_cons_succ, List.setIfInBounds_toArray, List.set_cons_zero, List.set_cons_succ]
                      refine wpAnyIn_take (i := 8) (v := undef) rfl rfl (by kernel_rfl) (by kernel_rfl) (by kernel_rfl) (fun _ _ _ h => absurd h.1 (by simp)) ⟨.inr ⟨by rfl, rfl⟩, fun _ => rfl⟩ ?_
                      try simp only [Act.put, List.getElem_toArray, List.getElem_cons_zero, List.getElem_cons_succ, List.setIfInBounds_toArray, List.set_cons_zero, List.set_cons_succ]
                      refine wpAnyIn_take (i := 9) (v := undef) rfl rfl (by kernel_rfl) (by kernel_rfl) (by kernel_rfl) (fun _ _ _ h => absurd h.1 (by simp)) ⟨.inr ⟨by rfl, rfl⟩, fun _ => rfl⟩ ?_
                      try simp only [Act.put, List.getElem_toArray, List.getElem_cons_zero, List.getElem_cons_succ, List.setIfInBounds_toArray, List.set_cons_zero, List.set_cons_succ]
                      refine wpAnyIn_take (i := 10) (v := undef) rfl rfl (by kernel_rfl) (by kernel_rfl) (by kernel_rfl) (fun _ _ _ h => absurd h.1 (by simp)) ⟨.inr ⟨by rfl, rfl⟩, fun _ => rfl⟩ ?_
                      try simp only [Act.put, List.getElem_toArray, List.getElem_cons_zero, List.getElem_cons_succ, List.setIfInBounds_toArray, List.set_cons_zero, List.set_cons_succ]
                      refine wpAnyIn_take (i := 11) (v := undef) rfl rfl (by kernel_rfl) (by kernel_rfl) (by kernel_rfl) (fun _ _ _ h => absurd h.1 (by simp)) ⟨.inr ⟨by rfl, rfl⟩, fun _ => rfl⟩ ?_
                      try simp only [Act.put, List.getElem_toArray, List.getElem_cons_zero, List.getElem_cons_succ, List.setIfInBounds_toArray, List.set_cons_zero, List.set_cons_succ]
                      refine wpAnyIn_take (i := 12) (v := .bool true) rfl rfl (by kernel_rfl) (by kernel_rfl) (by kernel_rfl) (fun _ _ _ h => absurd h.1 (by simp)) ⟨.inl ⟨by rfl, fun _ => by go_simp⟩, fun _ => rfl⟩ ?_
                      try simp only [Act.put, List.getElem_toArray, List.getElem_cons_zero, List.getElem_cons_succ, List.setIfInBounds_toArray, List.set_cons_zero, List.set_cons_succ]
                      refine wpAnyIn_done (by kernel_rfl) ?_ _
                      exact ⟨rfl, rfl, HB0.out⟩
                    refine AllReadyIn.cons rfl (fun K hK => ?_) AllReadyIn.nil
                    have b := HX0.out.cell 0 (.string x) rfl
                    go_simp
                    refine hK _ _ ?_
                    clear hK K b
                    try simp only [Act.put, List.getElem_toArray, List.getElem_cons_zero, List.getElem_cons_succ, List.setIfInBounds_toArray, List.set_cons_zero, List.set_cons_succ]
                    refine wpAnyIn_take (i := 5) (v := .string q4) rfl rfl (by kernel_rfl) (by kernel_rfl) (by kernel_rfl) (fun _ _ _ h => absurd h.1 (by simp)) ⟨.inl ⟨by rfl, fun _ => by go_simp; exact HQ4.out⟩, fun _ => rfl⟩ ?_
                    try simp only [Act.put, List.getElem_toArray, List.getElem_cons_zero, List.getElem_cons_succ, List.setIfInBounds_toArray, List.set_cons_zero, List.set_cons_succ]
                    refine wpAnyIn_ready (rs := [3]) (by kernel_rfl) (by simp) ?_
                    refine AllReadyIn.cons rfl (fun K hK => ?_) AllReadyIn.nil
                    go_simp
                    refine ⟨trivial, fun _ => by omega, ?_⟩
                    refine (callsIn_wide.2 (HSUM.out _)).mono ?_
                    rintro e w5 ⟨rfl, hb5⟩
                    refine hK _ _ ?_
                    have hX5 := Aside0.mk (show Box w5 gs 9 _ from blk_below HX0.out hb5)
                    have hB5 := below_step HB0.out hb5
                    clear HX0 HB0 hK K hb5
                    have HX0 := hX5
                    have HB0 := Aside0.mk hB5
                    clear hX5 hB5
                    try simp only [Act.put, List.getElem_toArray, List.getElem_cons_zero, List.getElem_cons_succ, List.setIfInBounds_toArray, List.set_cons_zero, List.set_cons_succ]
                    refine wpAnyIn_take (i := 6) (v := .bool true) rfl rfl (by kernel_rfl) (by kernel_rfl) (by kernel_rfl) (fun _ _ _ h => absurd h.1 (by simp)) ⟨.inl ⟨by rfl, fun _ => by go_simp⟩, fun _ => rfl⟩ ?_
                    try simp only [Act.put, List.getElem_toArray, List.getElem_cons_zero, List.getElem_cons_succ, List.setIfInBounds_toArray, List.set_cons_zero, List.set_cons_succ]
                    refine wpAnyIn_take (i := 7) (v := .bool true) rfl rfl (by kernel_rfl) (by kernel_rfl) (by kernel_rfl) (fun _ _ _ h => absurd h.1 (by simp)) ⟨.inl ⟨by rfl, fun _ => by go_simp⟩, fun _ => rfl⟩ ?_
                    try simp only [Act.put, List.getElem_toArray, List.getElem_cons_zero, List.getElem_cons_succ, List.setIfInBounds_toArray, List.set_cons_zero, List.set_cons_succ]
                    refine wpAnyIn_take (i := 8) (v := undef) rfl rfl (by kernel_rfl) (by kernel_rfl) (by kernel_rfl) (fun _ _ _ h => absurd h.1 (by simp)) ⟨.inr ⟨by rfl, rfl⟩, fun _ => rfl⟩ ?_
                    try simp only [Act.put, List.getElem_toArray, List.getElem_cons_zero, List.getElem_cons_succ, List.setIfInBounds_toArray, List.set_cons_zero, List.set_cons_succ]
                    refine wpAnyIn_take (i := 9) (v := undef) rfl rfl (by kernel_rfl) (by kernel_rfl) (by kernel_rfl) (fun _ _ _ h => absurd h.1 (by simp)) ⟨.inr ⟨by rfl, rfl⟩, fun _ => rfl⟩ ?_
                    try simp only [Act.put, List.getElem_toArray, List.getElem_cons_zero, List.getElem_cons_succ, List.setIfInBounds_toArray, List.set_cons_zero, List.set_cons_succ]
                    refine wpAnyIn_take (i := 10) (v := undef) rfl rfl (by kernel_rfl) (by kernel_rfl) (by kernel_rfl) (fun _ _ _ h => absurd h.1 (by simp)) ⟨.inr ⟨by rfl, rfl⟩, fun _ => rfl⟩ ?_
                    try simp only [Act.put, List.getElem_toArray, List.getElem_cons_zero, List.getElem_cons_succ, List.setIfInBounds_toArray, List.set_cons_zero, List.set_cons_succ]
                    refine wpAnyIn_take (i := 11) (v := undef) rfl rfl (by kernel_rfl) (by kernel_rfl) (by kernel_rfl) (fun _ _ _ h => absurd h.1 (by simp)) ⟨.inr ⟨by rfl, rfl⟩, fun _ => rfl⟩ ?_
                    try simp only [Act.put, List.getElem_toArray, List.getElem_cons_zero, List.getElem_cons_succ, List.setIfInBounds_toArray, List.set_cons_zero, List.set_cons_succ]
                    refine wpAnyIn_take (i := 12) (v := .bool true) rfl rfl (by kernel_rfl) (by kernel_rfl) (by kernel_rfl) (fun _ _ _ h => absurd h.1 (by simp)) ⟨.inl ⟨by rfl, fun _ => by go_simp⟩, fun _ => rfl⟩ ?_
                    try simp only [Act.put, List.getElem_toArray, List.getElem_cons_zero, List.getElem_cons_succ, List.setIfInBounds_toArray, List.set_cons_zero, List.set_cons_succ]
                    refine wpAnyIn_done (by kernel_rfl) ?_ _
                    exact ⟨rfl, rfl, HB0.out⟩
                  refine AllReadyIn.cons rfl (fun K hK => ?_) AllReadyIn.nil
                  have b := HX0.out.cell 0 (.string x) rfl
                  go_simp
                  refine hK _ _ ?_
                  clear hK K b
                  try simp only [Act.put, List.getElem_toArray, List.getElem_cons_zero, List.getElem_cons_succ, List.setIfInBounds_toArray, List.set_cons_zero, List.set_cons_succ]
                  refine wpAnyIn_take (i := 5) (v := .string q4) rfl rfl (by kernel_rfl) (by kernel_rfl) (by kernel_rfl) (fun _ _ _ h => absurd h.1 (by simp)) ⟨.inl ⟨by rfl, fun _ => by go_simp; exact HQ4.out⟩, fun _ => rfl⟩ ?_
                  try simp only [Act.put, List.getElem_toArray, List.getElem_cons_zero, List.getElem_cons_succ, List.setIfInBounds_toArray, List.set_cons_zero, List.set_cons_succ]
                  refine wpAnyIn_ready (rs := [0]) (by kernel_rfl) (by simp) ?_
                  refine AllReadyIn.cons rfl (fun K hK => ?_) AllReadyIn.nil
                  have b := HX0.out.cell 0 (.string x) rfl
                  go_simp
                  refine hK _ _ ?_
                  clear hK K b
                  try simp only [Act.put, List.getElem_toArray, List.getElem_cons_zero, List.getElem_cons_succ, List.setIfInBounds_toArray, List.set_cons_zero, List.set_cons_succ]
                  refine wpAnyIn_take (i := 1) (v := .string h4) rfl rfl (by kernel_rfl) (by kernel_rfl) (by kernel_rfl) (fun _ _ _ h => absurd h.1 (by simp)) ⟨.inl ⟨by rfl, fun _ => by have i4 : (4 : Int) ≤ (x.size : Int) := (by omega); go_simp; exact HH4.out⟩, fun _ => rfl⟩ ?_
                  try simp only [Act.put, List.getElem_toArray, List.getElem_cons_zero, List.getElem_cons_succ, List.setIfInBounds_toArray, List.set_cons_zero, List.set_cons_succ]
                  refine wpAnyIn_ready (rs := [3]) (by kernel_rfl) (by simp) ?_
                  refine AllReadyIn.cons rfl (fun K hK => ?_) AllReadyIn.nil
                  go_simp
                  refine ⟨trivial, fun _ => by omega, ?_⟩
                  refine (callsIn_wide.2 (HSUM.out _)).mono ?_
                  rintro e w5 ⟨rfl, hb5⟩
                  refine hK _ _ ?_
                  have hX5 := Aside0.mk (show Box w5 gs 9 _ from blk_below HX0.out hb5)
                  have hB5 := below_step HB0.out hb5
                  clear HX0 HB0 hK K hb5
                  have HX0 := hX5
                  have HB0 := Aside0.mk hB5
                  clear hX5 hB5
                  try simp only [Act.put, List.getElem_toArray, List.getElem_cons_zero, List.getElem_cons_succ, List.setIfInBounds_toArray, List.set_cons_zero, List.set_cons_succ]
                  refine wpAnyIn_take (i := 6) (v := .bool true) rfl rfl (by kernel_rfl) (by kernel_rfl) (by kernel_rfl) (fun _ _ _ h => absurd h.1 (by simp)) ⟨.inl ⟨by rfl, fun _ => by go_simp⟩, fun _ => rfl⟩ ?_
                  try simp only [Act.put, List.getElem_toArray, List.getElem_cons_zero, List.getElem_cons_succ, List.setIfInBounds_toArray, List.set_cons_zero, List.set_cons_succ]
                  refine wpAnyIn_take (i := 7) (v := .bool true) rfl rfl (by kernel_rfl) (by kernel_rfl) (by kernel_rfl) (fun _ _ _ h => absurd h.1 (by simp)) ⟨.inl ⟨by rfl, fun _ => by go_simp⟩, fun _ => rfl⟩ ?_
                  try simp only [Act.put, List.getElem_toArray, List.getElem_cons_zero, List.getElem_cons_succ, List.setIfInBounds_toArray, List.set_cons_zero, List.set_cons_succ]
                  refine wpAnyIn_take (i := 8) (v := undef) rfl rfl (by kernel_rfl) (by kernel_rfl) (by kernel_rfl) (fun _ _ _ h => absurd h.1 (by simp)) ⟨.inr ⟨by rfl, rfl⟩, fun _ => rfl⟩ ?_
                  try simp only [Act.put, List.getElem_toArray, List.getElem_cons_zero, List.getElem_cons_succ, List.setIfInBounds_toArray, List.set_cons_zero, List.set_cons_succ]
                  refine wpAnyIn_take (i := 9) (v := undef) rfl rfl (by kernel_rfl) (by kernel_rfl) (by kernel_rfl) (fun _ _ _ h => absurd h.1 (by simp)) ⟨.inr ⟨by rfl, rfl⟩, fun _ => rfl⟩ ?_
                  try simp only [Act.put, List.getElem_toArray, List.getElem_cons_zero, List.getElem_cons_succ, List.setIfInBounds_toArray, List.set_cons_zero, List.set_cons_succ]
                  refine wpAnyIn_take (i := 10) (v := undef) rfl rfl (by kernel_rfl) (by kernel_rfl) (by kernel_rfl) (fun _ _ _ h => absurd h.1 (by simp)) ⟨.inr ⟨by rfl, rfl⟩, fun _ => rfl⟩ ?_
                  try simp only [Act.put, List.getElem_toArray, List.getElem_cons_zero, List.getElem_cons_succ, List.setIfInBounds_toArray, List.set_cons_zero, List.set_cons_succ]
                  refine wpAnyIn_take (i := 11) (v := undef) rfl rfl (by kernel_rfl) (by kernel_rfl) (by kernel_rfl) (fun _ _ _ h => absurd h.1 (by simp)) ⟨.inr ⟨by rfl, rfl⟩, fun _ => rfl⟩ ?_
                  try simp only [Act.put, List.getElem_toArray, List.getElem_cons_zero, List.getElem_cons_succ, List.setIfInBounds_toArray, List.set_cons_zero, List.set_cons_succ]
                  refine wpAnyIn_take (i := 12) (v := .bool true) rfl rfl (by kernel_rfl) (by kernel_rfl) (by kernel_rfl) (fun _ _ _ h => absurd h.1 (by simp)) ⟨.inl ⟨by rfl, fun _ => by go_simp⟩, fun _ => rfl⟩ ?_
                  try simp only [Act.put, List.getElem_toArray, List.getElem_cons_zero, List.getElem_cons_succ, List.setIfInBounds_toArray, List.set_cons_zero, List.set_cons_succ]
                  refine wpAnyIn_done (by kernel_rfl) ?_ _
                  exact ⟨rfl, rfl, HB0.out⟩
                case hnext =>
                  rintro _ w6 ⟨rfl, hb6⟩
                  try simp only [Act.put, List.getElem_toArray, List.getElem_cons_zero, List.getElem_cons_succ, List.setIfInBounds_toArray, List.set_cons_zero, List.set_cons_succ]
                  have HB6 := Aside0.mk hb6
                  clear hb6
                  gi_wp2_with fail
                  refine bodyPost_ret (results_none rfl _ _ _) rfl ?_
                  refine ⟨⟨_, rfl⟩, ?_, hRc _ _ HR.out ⟨HB6.out.size, fun i o hi ho => (HB6.out.block i (Array.getElem?_eq_some_iff.1 hi).1).trans hi⟩⟩
                  rw [← HKE.out]
                  exact ⟨⟨by rw [HXX.out]; exact blk_below HBOX.out HB6.out, below_step HI.out.1.below HB6.out⟩, hC _ _ _ HI.out.2 (But.of_below HB6.out)⟩
            · have d2 : (x.size : Int) - 8 < (m : Int) := by omega
              have hke : k = cnt s := by
                by_cases h : k < cnt s
                · exact absurd (HOKD.out.1 (HOK.out h)).2.2.1 c2
                · omega
              gi_wp2_with fail
              refine bodyPost_ret (results_none rfl _ _ _) rfl ?_
              exact ⟨⟨_, rfl⟩, by rw [← hke]; exact HI.out, HR.out⟩
          · have d1 : (m : Int) > 65536 := by omega
            have hke : k = cnt s := by
              by_cases h : k < cnt s
              · exact absurd (HOKD.out.1 (HOK.out h)).2.1 c1
              · omega
            gi_wp2_with fail
            refine bodyPost_ret (results_none rfl _ _ _) rfl ?_
            exact ⟨⟨_, rfl⟩, by rw [← hke]; exact HI.out, HR.out⟩
    · have i8 : ¬ (8 : Int) ≤ (x.size : Int) := by omega
      have hke : k = cnt s := by
        by_cases h : k < cnt s
        · exact absurd (HOK.out h).1 h8
        · omega
      gi_wp2_with fail
      go_end0
      exact ⟨⟨_, rfl⟩, by rw [← hke]; exact HI.out, HR.out⟩
end Go.Proofs.Ytkpflejagagcbaa.P
