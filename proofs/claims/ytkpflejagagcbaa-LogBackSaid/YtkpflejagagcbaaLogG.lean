import Derived.Test.YtkpflejagagcbaaCs
import Derived.Test.YtkpflejagagcbaaRangeV
import Derived.Test.YtkpflejagagcbaaLogF
import Derived.RangeFuncBox
import Derived.RangeFuncCalls
import Derived.OwnWalkIn
import Derived.TacticsInMore
import Derived.LoopNIn
import Derived.LoopIn
import Derived.Shelf.Abstract
import Derived.OrdersIn
import Derived.Test.YtkpflejagagcbaaP0
namespace Go.Proofs.Ytkpflejagagcbaa.P
set_option linter.unusedVariables false
set_option linter.unusedSimpArgs false
open Go.RowKit Go.Shelf Go.Proofs.YtkpflejagagcbaaW.PrintWords
attribute [local go_sem] Oper.semAt_some
/-! The iterator over records. -/
theorem or_byte64 (n b : Nat) (hb : b < 256) (hn : n < 4294967296) : bits .or .i64 ((n : Int) * 256) (b : Int) = ((n * 256 + b : Nat) : Int) := by
  show IntKind.i64.wrap ((BitVec.ofInt 64 ((n : Int) * 256) ||| BitVec.ofInt 64 (b : Int)).toNat : Int) = _
  have h : BitVec.ofInt 64 ((n : Int) * 256) = BitVec.ofNat 64 (n * 256) := by
    rw [show ((n : Int) * 256) = ((n * 256 : Nat) : Int) by omega, BitVec.ofInt_natCast]
  have h1 : (n * 256) % 2 ^ 64 = n * 256 := Nat.mod_eq_of_lt (by omega)
  have h2 : b % 2 ^ 64 = b := Nat.mod_eq_of_lt (by omega)
  rw [h, BitVec.ofInt_natCast, BitVec.toNat_or, BitVec.toNat_ofNat, BitVec.toNat_ofNat, h1, h2]
  have := Nat.shiftLeft_add_eq_or_of_lt (i := 8) (b := b) (by omega) n
  rw [Nat.shiftLeft_eq] at this
  rw [show n * 256 = n * 2 ^ 8 from rfl, ← this, IntKind.wrap_i64]
  omega
theorem sb_get (x : ByteArray) (j : Nat) (h : j < x.size) : x[j] = sb x j := by
  have : j < x.data.size := h
  simp only [sb, Array.getD, dif_pos this]
  rfl
theorem numI_step (x : ByteArray) (j : Nat) (hj : j < 4) (h : j < x.size) : bits .or .i64 (wrap64 ((numI x j : Int) * 256)) (wrap64 ((x[j].toNat : Nat) : Int)) = (numI x (j + 1) : Int) := by
  have h1 := numI_lt x j
  have h2 : (256 : Nat) ^ j ≤ 256 ^ 3 := Nat.pow_le_pow_right (by decide) (by omega)
  have h3 := x[j].toNat_lt
  have e1 : wrap64 ((numI x j : Int) * 256) = (numI x j : Int) * 256 := by unfold wrap64; omega
  have e2 : wrap64 ((x[j].toNat : Nat) : Int) = ((x[j].toNat : Nat) : Int) := by unfold wrap64; omega
  rw [e1, e2, or_byte64 _ _ h3 (by omega), numI, sb_get x j h]
/-- A region that ends in good order: what it leaves is told by what it found. -/
theorem wpIn_put {F : Fence} {n : Nat} {P : Program} {c : Code} {K : Exit → Act → World → Prop} {a : Act} {w : World} (Good : Act → Act → World → Prop) (h : c.wpIn F n P (fun e a' w' => e = .normal ∧ Good a a' w') a w) (hn : ∀ a' w', Good a a' w' → K .normal a' w') : c.wpIn F n P K a w :=
  wpIn_mono h (fun e a' w' hh => by obtain ⟨rfl, h2⟩ := hh; exact hn a' w' h2)
theorem records_any (s : ByteArray) (w : World) :
    Calls Try.prog 13 #[.string s] w fun e w' => e = .returned (.func (.func 17) #[] #[.pointer (some ⟨w.heap.size, 0, none⟩)]) ∧ Box w' w.heap.size 9 #[.string s] ∧ Below w.heap.size w w' := by
  go_enter Try.func13, Try.ntmps13
  go_wp2
  exact bodyPost_ret (v := .func (.func 17) #[] #[.pointer (some ⟨w.heap.size, 0, none⟩)]) (by simp [results, Try.results13, go_sem]) rfl ⟨rfl, blk_new w _, below_alloc (Below.refl _ _) _⟩
/-- What stands between two rounds. -/
structure Hd (s : ByteArray) (g0 gs : Nat) (w : World) (k : Nat) (W : World) : Prop where
  box : Box W gs 9 #[.string (rAt s k)]
  below : Below g0 w W
def encs (s : ByteArray) (k : Nat) : Array Value := #[.string (textAt s k)]
def strLen (W : World) (g : Nat) : Nat := match W.cell? ⟨g, 0, none⟩ with
  | some (.string x) => x.size
  | _ => 0
set_option maxRecDepth 100000 in
set_option maxHeartbeats 4000000 in
theorem rec_rounds (n : Nat) (hn : 3 ≤ n) (s : ByteArray) (hs : s.size ≤ 90000) (gs : Nat) (w : World) (h1 : w.heap.size ≤ gs) (C : Nat → World → Prop) (hC : ∀ k W W', C k W → But gs W W' → C k W') :
    Rounds Fence.wide n Try.prog 17 #[.pointer (some ⟨gs, 0, none⟩)] (encs s) (fun k W => Hd s w.heap.size gs w k W ∧ C k W) (fun k W => Hd s w.heap.size gs w k W ∧ C k W) (fun k W => Hd s w.heap.size gs w k W ∧ C (k + 1) W) (cnt s) := by
  intro lp Rc hRc hY W hI hR
  refine callsIn_of_wp Try.func17 rfl trivial ?_ rfl
  simp only [Try.ntmps17, List.size_toArray, List.length_cons, List.length_nil, Nat.reduceAdd, Nat.reduceSub, Array.replicate_succ, Array.replicate_zero, List.push_toArray, List.append_toArray, List.nil_append, List.cons_append]
  have HI := Aside0.mk hI
  have HR := Aside0.mk hR
  clear hI hR
  gi_wp2_with fail
  gi_loopw [3] (fun _ wr => ∃ k : Nat, k ≤ cnt s ∧ (Hd s w.heap.size gs w k wr ∧ C k wr) ∧ Rc wr) (fun _ wr => strLen wr gs)
  case atStart => exact ⟨0, by omega, HI.out, HR.out⟩
  case round =>
    clear HI HR
    obtain ⟨k, hk, hI, hR⟩ := hrel
    have HI := Aside0.mk hI
    have HR := Aside0.mk hR
    clear hI hR
    have hsz := rAt_size hk
    have HOK := Aside0.mk (fun h : k < cnt s => rAt_ok h)
    have HEND := Aside0.mk (fun h : k = cnt s => by have := rAt_end s; rw [← h] at this; exact this)
    have b0 := HI.out.1.box.cell 0 (.string (rAt s k)) rfl
    have bf := HI.out.1.box.free 0
    have HBOX := Aside0.mk HI.out.1.box
    have HX := Aside0.mk (show encs s k = #[.string (recT (rAt s k))] ∧ rAt s (k + 1) = recR (rAt s k) from ⟨rfl, rfl⟩)
    obtain ⟨x, hx⟩ : ∃ x, rAt s k = x := ⟨_, rfl⟩
    rw [hx] at hsz HOK HEND b0 HBOX HX
    have HXX := Aside0.mk hx
    clear hx
    by_cases h8 : 8 ≤ x.size
    · have i8 : (8 : Int) ≤ (x.size : Int) := by omega
      gi_wp2_with fail
      gi_loopw [3, 9] (fun n i wq => ∃ j : Nat, j ≤ 4 ∧ n = .int .i64 (numI x j : Nat) ∧ i = .int .i64 (j : Nat) ∧ wq = wr) (fun _ i _ => 4 - (intOf i).toNat)
      case atStart => exact ⟨0, by omega, rfl, rfl, rfl⟩
      case round =>
        obtain ⟨j, hj, rfl, rfl, rfl⟩ := hrel
        by_cases hlt : j < 4
        · have hst := numI_step x j hlt (by omega)
          have HST := Aside0.mk hst
          clear hst
          gi_wp2
          exact ⟨⟨j + 1, by omega, by rw [HST.out], by go_num, trivial⟩, by simp [intOf]; omega⟩
        · obtain rfl : j = 4 := by omega
          have hnb : numI x 4 = numB x := rfl
          have hnl : numB x < 4294967296 := numI_lt x 4
          rw [hnb]
          have HT := Aside0.mk (show recT x = x.extract 8 (8 + numB x) ∧ recR x = x.extract (8 + numB x) x.size from ⟨rfl, rfl⟩)
          have HOKD := Aside0.mk (show recOk x ↔ 8 ≤ x.size ∧ numB x ≤ 65536 ∧ numB x ≤ x.size - 8 ∧ (lsum (x.extract 0 4) (recT x)).toList = (x.extract 4 8).toList from Iff.rfl)
          have HSZ := Aside0.mk (fun h : recOk x => recR_size h)
          generalize numB x = m at *
          clear hnb
          have hw8 : (x.size : Int) - 8 < 9223372036854775808 := by omega
          by_cases c1 : m ≤ 65536
          · have d1 : ¬ (m : Int) > 65536 := by omega
            by_cases c2 : m ≤ x.size - 8
            · have d2 : ¬ (x.size : Int) - 8 < (m : Int) := by omega
              have i9 : 8 + (m : Int) ≤ (x.size : Int) := by omega
              have i10 : (8 : Int) ≤ 8 + (m : Int) := by omega
              have i11 : (8 + (m : Int)).toNat = 8 + m := by omega
              gi_wp2_with fail
              obtain ⟨t, ht⟩ : ∃ t, x.extract 8 (8 + m) = t := ⟨_, rfl⟩
              obtain ⟨h4, hh4⟩ : ∃ t, x.extract 0 4 = t := ⟨_, rfl⟩
              obtain ⟨q4, hq4⟩ : ∃ t, x.extract 4 8 = t := ⟨_, rfl⟩
              have hts : t.size ≤ 65536 := by rw [← ht, ByteArray.size_extract]; omega
              have hhs : h4.size ≤ 4 := by rw [← hh4, ByteArray.size_extract]; omega
              have hrt : recT x = t := HT.out.1.trans ht
              rw [ht]
              have HSUM := Aside0.mk (fun W => log_sum.calls h4 t (lsum h4 t) W (lsum_val _ _ (by omega)))
              have hen := HX.out.1
              rw [hrt] at hen
              have HOKD' := HOKD.out
              rw [hrt, hh4, hq4] at HOKD'
              have HH4 := Aside0.mk hh4
              have HQ4 := Aside0.mk hq4
              clear ht hh4 hq4
              obtain ⟨y, hy⟩ : ∃ y, lsum h4 t = y := ⟨_, rfl⟩
              rw [hy] at HSUM HOKD'
              have HOKE := Aside0.mk HOKD'
              have HEN := Aside0.mk hen
              have HRT := Aside0.mk hrt
              clear HOKD' hen hrt hy
              by_cases c3 : y.toList = q4.toList
              · have hrok : recOk x := HOKE.out.2 ⟨h8, c1, c2, c3⟩
                have hlt : k < cnt s := by
                  by_cases h : k < cnt s
                  · exact h
                  · exact absurd hrok (HEND.out (by omega))
                have d3 : (y.toList == q4.toList) = true := beq_iff_eq.2 c3
                have HRK := Aside0.mk hrok
                have HYD := Aside0.mk (fun (W : World) (hb : Below wr.heap.size wr W) (hx : Box W gs 9 #[.string x]) => hY k W hlt ⟨⟨by rw [HXX.out]; exact hx, below_step HI.out.1.below hb⟩, hC _ _ _ HI.out.2 (But.of_below hb)⟩ (hRc _ _ HR.out ⟨hb.size, fun i o hi ho => (hb.block i (Array.getElem?_eq_some_iff.1 hi).1).trans hi⟩))
                rw [HEN.out] at HYD
                clear c3 hrok
                refine wpIn_put (fun a0 a' w' => a' = (((((((((((((a0.put (some 33) (.string x)).put (some 34) (.string h4)).put (some 35) (.string t)).put (some 36) (.string y)).put (some 37) (.string x)).put (some 38) (.string q4)).put (some 39) (.bool false)).put (some 40) (.bool false)).put (some 41) (.func (.yield lp) #[] #[])).put (some 42) (.string t)).put (some 43) (.bool true)).put (some 44) (.bool false)).put (some 45) (.bool false)) ∧ (Hd s w.heap.size gs w k w' ∧ C (k + 1) w') ∧ Rc w') ?hreg ?hnext
                case hreg =>
                  refine wpIn_region_any (by kernel_rfl) ?_
                  change wpAnyIn _ _ _ _ _ _ _ _ _ wr.drew
                  have HX0 := Aside0.mk (show Box wr.drew gs 9 #[.string x] from HBOX.out)
                  have HB0 := Aside0.mk (show Below wr.heap.size wr wr.drew from below_drew1 (Below.refl _ _))
                  generalize wr.drew = W0 at *
                  try simp only [Act.put, List.getElem_toArray, List.getElem_cons_zero, List.getElem_cons_succ, List.setIfInBounds_toArray, List.set_cons_zero, List.set_cons_succ]
                  refine wpAnyIn_take (i := 2) (v := .string t) rfl rfl (by kernel_rfl) (by kernel_rfl) (by kernel_rfl) (fun _ _ _ h => absurd h.1 (by simp)) ⟨.inl ⟨by rfl, fun _ => by go_simp⟩, fun _ => rfl⟩ ?_
                  try simp only [Act.put, List.getElem_toArray, List.getElem_cons_zero, List.getElem_cons_succ, List.setIfInBounds_toArray, List.set_cons_zero, List.set_cons_succ]
                  refine wpAnyIn_ready (rs := [0, 4]) (by kernel_rfl) (by simp) ?_
                  refine AllReadyIn.cons rfl (fun K hK => ?_) ?_
                  · have b := HX0.out.cell 0 (.string x) rfl
                    go_simp
                    refine hK _ _ ?_
                    clear hK K b
                    try simp only [Act.put, List.getElem_toArray, List.getElem_cons_zero, List.getElem_cons_succ, List.setIfInBounds_toArray, List.set_cons_zero, List.set_cons_succ]
                    refine wpAnyIn_take (i := 1) (v := .string h4) rfl rfl (by kernel_rfl) (by kernel_rfl) (by kernel_rfl) (fun _ _ _ h => absurd h.1 (by simp)) ⟨.inl ⟨by rfl, fun _ => by have i4 : (4 : Int) ≤ (x.size : Int) := (by omega); go_simp; exact HH4.out⟩, fun _ => rfl⟩ ?_
                    try simp only [Act.put, List.getElem_toArray, List.getElem_cons_zero, List.getElem_cons_succ, List.setIfInBounds_toArray, List.set_cons_zero, List.set_cons_succ]
                    refine wpAnyIn_ready (rs := [3, 4]) (by kernel_rfl) (by simp) ?_
                    refine AllReadyIn.cons rfl (fun K hK => ?_) ?_
                    · go_simp
                      refine ⟨trivial, fun _ => by omega, ?_⟩
                      refine (callsIn_wide.2 (HSUM.out _)).mono ?_
                      rintro e w5 ⟨rfl, hb5⟩
                      refine hK _ _ ?_
                      have hX5 := Aside0.mk (show Box w5 gs 9 _ from blk_below HX0.out hb5)
                      have hB5 := below_step HB0.out hb5
                      clear HX0 HB0 hK K hb5
                      have HX0 := hX5
                      have HB0 := Aside0.mk hB5
                      clear hX5 hB5
                      try simp only [Act.put, List.getElem_toArray, List.getElem_cons_zero, List.getElem_cons_succ, List.setIfInBounds_toArray, List.set_cons_zero, List.set_cons_succ]
                      refine wpAnyIn_ready (rs := [4]) (by kernel_rfl) (by simp) ?_
                      refine AllReadyIn.cons rfl (fun K hK => ?_) AllReadyIn.nil
                      have b := HX0.out.cell 0 (.string x) rfl
                      go_simp
                      refine hK _ _ ?_
                      clear hK K b
                      try simp only [Act.put, List.getElem_toArray, List.getElem_cons_zero, List.getElem_cons_succ, List.setIfInBounds_toArray, List.set_cons_zero, List.set_cons_succ]
                      refine wpAnyIn_take (i := 5) (v := .string q4) rfl rfl (by kernel_rfl) (by kernel_rfl) (by kernel_rfl) (fun _ _ _ h => absurd h.1 (by simp)) ⟨.inl ⟨by rfl, fun _ => by go_simp; exact HQ4.out⟩, fun _ => rfl⟩ ?_
                      try simp only [Act.put, List.getElem_toArray, List.getElem_cons_zero, List.getElem_cons_succ, List.setIfInBounds_toArray, List.set_cons_zero, List.set_cons_succ]
                      refine wpAnyIn_take (i := 6) (v := .bool false) rfl rfl (by kernel_rfl) (by kernel_rfl) (by kernel_rfl) (fun _ _ _ h => absurd h.1 (by simp)) ⟨.inl ⟨by rfl, fun _ => by go_simp⟩, fun _ => rfl⟩ ?_
                      try simp only [Act.put, List.getElem_toArray, List.getElem_cons_zero, List.getElem_cons_succ, List.setIfInBounds_toArray, List.set_cons_zero, List.set_cons_succ]
                      refine wpAnyIn_take (i := 7) (v := .bool false) rfl rfl (by kernel_rfl) (by kernel_rfl) (by kernel_rfl) (fun _ _ _ h => absurd h.1 (by simp)) ⟨.inl ⟨by rfl, fun _ => by go_simp⟩, fun _ => rfl⟩ ?_
                      try simp only [Act.put, List.getElem_toArray, List.getElem_cons_zero, List.getElem_cons_succ, List.setIfInBounds_toArray, List.set_cons_zero, List.set_cons_succ]
                      refine wpAnyIn_take (i := 8) (v := .func (.yield lp) #[] #[]) rfl rfl (by kernel_rfl) (by kernel_rfl) (by kernel_rfl) (fun _ _ _ h => absurd h.1 (by simp)) ⟨.inl ⟨by rfl, fun _ => by go_simp⟩, fun _ => rfl⟩ ?_
                      try simp only [Act.put, List.getElem_toArray, List.getElem_cons_zero, List.getElem_cons_succ, List.setIfInBounds_toArray, List.set_cons_zero, List.set_cons_succ]
                      refine wpAnyIn_take (i := 9) (v := .string t) rfl rfl (by kernel_rfl) (by kernel_rfl) (by kernel_rfl) (fun _ _ _ h => absurd h.1 (by simp)) ⟨.inl ⟨by rfl, fun _ => by go_simp⟩, fun _ => rfl⟩ ?_
                      try simp only [Act.put, List.getElem_toArray, List.getElem_cons_zero, List.getElem_cons_succ, List.setIfInBounds_toArray, List.set_cons_zero, List.set_cons_succ]
                      refine wpAnyIn_ready (rs := [10]) (by kernel_rfl) (by simp) ?_
                      refine AllReadyIn.cons rfl (fun K hK => ?_) AllReadyIn.nil
                      have hB0 := HB0.out
                      obtain ⟨fn, tmps, assign, body, hy, hRD⟩ := HYD.out _ hB0 HX0.out
                      go_simp
                      refine ⟨fun _ => by omega, ?_⟩
                      refine hRD.mono ?_
                      rintro e w6 ⟨rfl, hE6, hR6⟩
                      refine hK _ _ ?_
                      clear hK K
                      try simp only [Act.put, List.getElem_toArray, List.getElem_cons_zero, List.getElem_cons_succ, List.setIfInBounds_toArray, List.set_cons_zero, List.set_cons_succ]
                      refine wpAnyIn_take (i := 11) (v := .bool false) rfl rfl (by kernel_rfl) (by kernel_rfl) (by kernel_rfl) (fun _ _ _ h => absurd h.1 (by simp)) ⟨.inl ⟨by rfl, fun _ => by go_simp⟩, fun _ => rfl⟩ ?_
                      try simp only [Act.put, List.getElem_toArray, List.getElem_cons_zero, List.getElem_cons_succ, List.setIfInBounds_toArray, List.set_cons_zero, List.set_cons_succ]
                      refine wpAnyIn_take (i := 12) (v := .bool false) rfl rfl (by kernel_rfl) (by kernel_rfl) (by kernel_rfl) (fun _ _ _ h => absurd h.1 (by simp)) ⟨.inl ⟨by rfl, fun _ => by go_simp⟩, fun _ => rfl⟩ ?_
                      try simp only [Act.put, List.getElem_toArray, List.getElem_cons_zero, List.getElem_cons_succ, List.setIfInBounds_toArray, List.set_cons_zero, List.set_cons_succ]
                      refine wpAnyIn_done (by kernel_rfl) ?_ _
                      exact ⟨rfl, rfl, hE6, hR6⟩
                    refine AllReadyIn.cons rfl (fun K hK => ?_) AllReadyIn.nil
                    have b := HX0.out.cell 0 (.string x) rfl
                    go_simp
                    refine hK _ _ ?_
                    clear hK K b
                    try simp only [Act.put, List.getElem_toArray, List.getElem_cons_zero, List.getElem_cons_succ, List.setIfInBounds_toArray, List.set_cons_zero, List.set_cons_succ]
                    refine wpAnyIn_take (i := 5) (v := .string q4) rfl rfl (by kernel_rfl) (by kernel_rfl) (by kernel_rfl) (fun _ _ _ h => absurd h.1 (by simp)) ⟨.inl ⟨by rfl, fun _ => by go_simp; exact HQ4.out⟩, fun _ => rfl⟩ ?_
                    try simp only [Act.put, List.getElem_toArray, List.getElem_cons_zero, List.getElem_cons_succ, List.setIfInBounds_toArray, List.set_cons_zero, List.set_cons_succ]
                    refine wpAnyIn_ready (rs := [3]) (by kernel_rfl) (by simp) ?_
                    refine AllReadyIn.cons rfl (fun K hK => ?_) AllReadyIn.nil
                    go_simp
                    refine ⟨trivial, fun _ => by omega, ?_⟩
                    refine (callsIn_wide.2 (HSUM.out _)).mono ?_
                    rintro e w5 ⟨rfl, hb5⟩
                    refine hK _ _ ?_
                    have hX5 := Aside0.mk (show Box w5 gs 9 _ from blk_below HX0.out hb5)
                    have hB5 := below_step HB0.out hb5
                    clear HX0 HB0 hK K hb5
                    have HX0 := hX5
                    have HB0 := Aside0.mk hB5
                    clear hX5 hB5
                    try simp only [Act.put, List.getElem_toArray, List.getElem_cons_zero, List.getElem_cons_succ, List.setIfInBounds_toArray, List.set_cons_zero, List.set_cons_succ]
                    refine wpAnyIn_take (i := 6) (v := .bool false) rfl rfl (by kernel_rfl) (by kernel_rfl) (by kernel_rfl) (fun _ _ _ h => absurd h.1 (by simp)) ⟨.inl ⟨by rfl, fun _ => by go_simp⟩, fun _ => rfl⟩ ?_
                    try simp only [Act.put, List.getElem_toArray, List.getElem_cons_zero, List.getElem_cons_succ, List.setIfInBounds_toArray, List.set_cons_zero, List.set_cons_succ]
                    refine wpAnyIn_take (i := 7) (v := .bool false) rfl rfl (by kernel_rfl) (by kernel_rfl) (by kernel_rfl) (fun _ _ _ h => absurd h.1 (by simp)) ⟨.inl ⟨by rfl, fun _ => by go_simp⟩, fun _ => rfl⟩ ?_
                    try simp only [Act.put, List.getElem_toArray, List.getElem_cons_zero, List.getElem_cons_succ, List.setIfInBounds_toArray, List.set_cons_zero, List.set_cons_succ]
                    refine wpAnyIn_take (i := 8) (v := .func (.yield lp) #[] #[]) rfl rfl (by kernel_rfl) (by kernel_rfl) (by kernel_rfl) (fun _ _ _ h => absurd h.1 (by simp)) ⟨.inl ⟨by rfl, fun _ => by go_simp⟩, fun _ => rfl⟩ ?_
                    try simp only [Act.put, List.getElem_toArray, List.getElem_cons_zero, List.getElem_cons_succ, List.setIfInBounds_toArray, List.set_cons_zero, List.set_cons_succ]
                    refine wpAnyIn_take (i := 9) (v := .string t) rfl rfl (by kernel_rfl) (by kernel_rfl) (by kernel_rfl) (fun _ _ _ h => absurd h.1 (by simp)) ⟨.inl ⟨by rfl, fun _ => by go_simp⟩, fun _ => rfl⟩ ?_
                    try simp only [Act.put, List.getElem_toArray, List.getElem_cons_zero, List.getElem_cons_succ, List.setIfInBounds_toArray, List.set_cons_zero, List.set_cons_succ]
                    refine wpAnyIn_ready (rs := [10]) (by kernel_rfl) (by simp) ?_
                    refine AllReadyIn.cons rfl (fun K hK => ?_) AllReadyIn.nil
                    have hB0 := HB0.out
                    obtain ⟨fn, tmps, assign, body, hy, hRD⟩ := HYD.out _ hB0 HX0.out
                    go_simp
                    refine ⟨fun _ => by omega, ?_⟩
                    refine hRD.mono ?_
                    rintro e w6 ⟨rfl, hE6, hR6⟩
                    refine hK _ _ ?_
                    clear hK K
                    try simp only [Act.put, List.getElem_toArray, List.getElem_cons_zero, List.getElem_cons_succ, List.setIfInBounds_toArray, List.set_cons_zero, List.set_cons_succ]
                    refine wpAnyIn_take (i := 11) (v := .bool false) rfl rfl (by kernel_rfl) (by kernel_rfl) (by kernel_rfl) (fun _ _ _ h => absurd h.1 (by simp)) ⟨.inl ⟨by rfl, fun _ => by go_simp⟩, fun _ => rfl⟩ ?_
                    try simp only [Act.put, List.getElem_toArray, List.getElem_cons_zero, List.getElem_cons_succ, List.setIfInBounds_toArray, List.set_cons_zero, List.set_cons_succ]
                    refine wpAnyIn_take (i := 12) (v := .bool false) rfl rfl (by kernel_rfl) (by kernel_rfl) (by kernel_rfl) (fun _ _ _ h => absurd h.1 (by simp)) ⟨.inl ⟨by rfl, fun _ => by go_simp⟩, fun _ => rfl⟩ ?_
                    try simp only [Act.put, List.getElem_toArray, List.getElem_cons_zero, List.getElem_cons_succ, List.setIfInBounds_toArray, List.set_cons_zero, List.set_cons_succ]
                    refine wpAnyIn_done (by kernel_rfl) ?_ _
                    exact ⟨rfl, rfl, hE6, hR6⟩
                  refine AllReadyIn.cons rfl (fun K hK => ?_) AllReadyIn.nil
                  have b := HX0.out.cell 0 (.string x) rfl
                  go_simp
                  refine hK _ _ ?_
                  clear hK K b
                  try simp only [Act.put, List.getElem_toArray, List.getElem_cons_zero, List.getElem_cons_succ, List.setIfInBounds_toArray, List.set_cons_zero, List.set_cons_succ]
                  refine wpAnyIn_take (i := 5) (v := .string q4) rfl rfl (by kernel_rfl) (by kernel_rfl) (by kernel_rfl) (fun _ _ _ h => absurd h.1 (by simp)) ⟨.inl ⟨by rfl, fun _ => by go_simp; exact HQ4.out⟩, fun _ => rfl⟩ ?_
                  try simp only [Act.put, List.getElem_toArray, List.getElem_cons_zero, List.getElem_cons_succ, List.setIfInBounds_toArray, List.set_cons_zero, List.set_cons_succ]
                  refine wpAnyIn_ready (rs := [0]) (by kernel_rfl) (by simp) ?_
                  refine AllReadyIn.cons rfl (fun K hK => ?_) AllReadyIn.nil
                  have b := HX0.out.cell 0 (.string x) rfl
                  go_simp
                  refine hK _ _ ?_
                  clear hK K b
                  try simp only [Act.put, List.getElem_toArray, List.getElem_cons_zero, List.getElem_cons_succ, List.setIfInBounds_toArray, List.set_cons_zero, List.set_cons_succ]
                  refine wpAnyIn_take (i := 1) (v := .string h4) rfl rfl (by kernel_rfl) (by kernel_rfl) (by kernel_rfl) (fun _ _ _ h => absurd h.1 (by simp)) ⟨.inl ⟨by rfl, fun _ => by have i4 : (4 : Int) ≤ (x.size : Int) := (by omega); go_simp; exact HH4.out⟩, fun _ => rfl⟩ ?_
                  try simp only [Act.put, List.getElem_toArray, List.getElem_cons_zero, List.getElem_cons_succ, List.setIfInBounds_toArray, List.set_cons_zero, List.set_cons_succ]
                  refine wpAnyIn_ready (rs := [3]) (by kernel_rfl) (by simp) ?_
                  refine AllReadyIn.cons rfl (fun K hK => ?_) AllReadyIn.nil
                  go_simp
                  refine ⟨trivial, fun _ => by omega, ?_⟩
                  refine (callsIn_wide.2 (HSUM.out _)).mono ?_
                  rintro e w5 ⟨rfl, hb5⟩
                  refine hK _ _ ?_
                  have hX5 := Aside0.mk (show Box w5 gs 9 _ from blk_below HX0.out hb5)
                  have hB5 := below_step HB0.out hb5
                  clear HX0 HB0 hK K hb5
                  have HX0 := hX5
                  have HB0 := Aside0.mk hB5
                  clear hX5 hB5
                  try simp only [Act.put, List.getElem_toArray, List.getElem_cons_zero, List.getElem_cons_succ, List.setIfInBounds_toArray, List.set_cons_zero, List.set_cons_succ]
                  refine wpAnyIn_take (i := 6) (v := .bool false) rfl rfl (by kernel_rfl) (by kernel_rfl) (by kernel_rfl) (fun _ _ _ h => absurd h.1 (by simp)) ⟨.inl ⟨by rfl, fun _ => by go_simp⟩, fun _ => rfl⟩ ?_
                  try simp only [Act.put, List.getElem_toArray, List.getElem_cons_zero, List.getElem_cons_succ, List.setIfInBounds_toArray, List.set_cons_zero, List.set_cons_succ]
                  refine wpAnyIn_take (i := 7) (v := .bool false) rfl rfl (by kernel_rfl) (by kernel_rfl) (by kernel_rfl) (fun _ _ _ h => absurd h.1 (by simp)) ⟨.inl ⟨by rfl, fun _ => by go_simp⟩, fun _ => rfl⟩ ?_
                  try simp only [Act.put, List.getElem_toArray, List.getElem_cons_zero, List.getElem_cons_succ, List.setIfInBounds_toArray, List.set_cons_zero, List.set_cons_succ]
                  refine wpAnyIn_take (i := 8) (v := .func (.yield lp) #[] #[]) rfl rfl (by kernel_rfl) (by kernel_rfl) (by kernel_rfl) (fun _ _ _ h => absurd h.1 (by simp)) ⟨.inl ⟨by rfl, fun _ => by go_simp⟩, fun _ => rfl⟩ ?_
                  try simp only [Act.put, List.getElem_toArray, List.getElem_cons_zero, List.getElem_cons_succ, List.setIfInBounds_toArray, List.set_cons_zero, List.set_cons_succ]
                  refine wpAnyIn_take (i := 9) (v := .string t) rfl rfl (by kernel_rfl) (by kernel_rfl) (by kernel_rfl) (fun _ _ _ h => absurd h.1 (by simp)) ⟨.inl ⟨by rfl, fun _ => by go_simp⟩, fun _ => rfl⟩ ?_
                  try simp only [Act.put, List.getElem_toArray, List.getElem_cons_zero, List.getElem_cons_succ, List.setIfInBounds_toArray, List.set_cons_zero, List.set_cons_succ]
                  refine wpAnyIn_ready (rs := [10]) (by kernel_rfl) (by simp) ?_
                  refine AllReadyIn.cons rfl (fun K hK => ?_) AllReadyIn.nil
                  have hB0 := HB0.out
                  obtain ⟨fn, tmps, assign, body, hy, hRD⟩ := HYD.out _ hB0 HX0.out
                  go_simp
                  refine ⟨fun _ => by omega, ?_⟩
                  refine hRD.mono ?_
                  rintro e w6 ⟨rfl, hE6, hR6⟩
                  refine hK _ _ ?_
                  clear hK K
                  try simp only [Act.put, List.getElem_toArray, List.getElem_cons_zero, List.getElem_cons_succ, List.setIfInBounds_toArray, List.set_cons_zero, List.set_cons_succ]
                  refine wpAnyIn_take (i := 11) (v := .bool false) rfl rfl (by kernel_rfl) (by kernel_rfl) (by kernel_rfl) (fun _ _ _ h => absurd h.1 (by simp)) ⟨.inl ⟨by rfl, fun _ => by go_simp⟩, fun _ => rfl⟩ ?_
                  try simp only [Act.put, List.getElem_toArray, List.getElem_cons_zero, List.getElem_cons_succ, List.setIfInBounds_toArray, List.set_cons_zero, List.set_cons_succ]
                  refine wpAnyIn_take (i := 12) (v := .bool false) rfl rfl (by kernel_rfl) (by kernel_rfl) (by kernel_rfl) (fun _ _ _ h => absurd h.1 (by simp)) ⟨.inl ⟨by rfl, fun _ => by go_simp⟩, fun _ => rfl⟩ ?_
                  try simp only [Act.put, List.getElem_toArray, List.getElem_cons_zero, List.getElem_cons_succ, List.setIfInBounds_toArray, List.set_cons_zero, List.set_cons_succ]
                  refine wpAnyIn_done (by kernel_rfl) ?_ _
                  exact ⟨rfl, rfl, hE6, hR6⟩
                case hnext =>
                  rintro _ w6 ⟨rfl, hE6, hR6⟩
                  try simp only [Act.put, List.getElem_toArray, List.getElem_cons_zero, List.getElem_cons_succ, List.setIfInBounds_toArray, List.set_cons_zero, List.set_cons_succ]
                  have b6 := hE6.1.box.cell 0 (.string (rAt s k)) rfl
                  have f6 := hE6.1.box.free 0
                  rw [HXX.out] at b6
                  have HE6 := Aside0.mk hE6
                  have HR6 := Aside0.mk hR6
                  have i12 : 8 + (m : Int) ≤ (x.size : Int) := by omega
                  clear hE6 hR6
                  gi_wp2_with fail
                  have HBt : But gs w6 (w6.setCell ⟨gs, 0, none⟩ (.string (x.extract (8 + m) x.size))) := ⟨rfl, rfl, rfl, by simp, fun i _ hn => Below.heap_setCell _ _ _ i hn⟩
                  have hbx : Box (w6.setCell ⟨gs, 0, none⟩ (.string (x.extract (8 + m) x.size))) gs 9 #[.string (recR x)] := by rw [HT.out.2]; exact blk_set HE6.out.1.box 0 _
                  have e1 : strLen (w6.setCell ⟨gs, 0, none⟩ (.string (x.extract (8 + m) x.size))) gs = (recR x).size := by rw [strLen, hbx.cell 0 (.string (recR x)) rfl]
                  have e2 : strLen wr gs = x.size := by rw [strLen, b0]
                  have e3 := HSZ.out HRK.out
                  exact ⟨⟨k + 1, by omega, ⟨⟨by rw [HX.out.2]; exact hbx, But.below HE6.out.1.below HBt h1 (Nat.le_refl _)⟩, hC _ _ _ HE6.out.2 HBt⟩, hRc _ _ HR6.out (KeepsOthers.setCell _ _ _)⟩, by rw [e1, e2]; omega⟩
              · have d3 : (y.toList == q4.toList) = false := beq_eq_false_iff_ne.2 c3
                have hke : k = cnt s := by
                  by_cases h : k < cnt s
                  · exact absurd (HOKE.out.1 (HOK.out h)).2.2.2 c3
                  · omega
                have HKE := Aside0.mk hke
                clear c3 hke
                refine wpIn_put (fun a0 a' w' => a' = (((((((((((((a0.put (some 33) (.string x)).put (some 34) (.string h4)).put (some 35) (.string t)).put (some 36) (.string y)).put (some 37) (.string x)).put (some 38) (.string q4)).put (some 39) (.bool true)).put (some 40) (.bool true)).put (some 41) (undef)).put (some 42) (undef)).put (some 43) (undef)).put (some 44) (undef)).put (some 45) (.bool true)) ∧ Below wr.heap.size wr w') ?hreg ?hnext
                case hreg =>
                  refine wpIn_region_any (by kernel_rfl) ?_
                  change wpAnyIn _ _ _ _ _ _ _ _ _ wr.drew
                  have HX0 := Aside0.mk (show Box wr.drew gs 9 #[.string x] from HBOX.out)
                  have HB0 := Aside0.mk (show Below wr.heap.size wr wr.drew from below_drew1 (Below.refl _ _))
                  generalize wr.drew = W0 at *
                  try simp only [Act.put, List.getElem_toArray, List.getElem_cons_zero, List.getElem_cons_succ, List.setIfInBounds_toArray, List.set_cons_zero, List.set_cons_succ]
                  refine wpAnyIn_take (i := 2) (v := .string t) rfl rfl (by kernel_rfl) (by kernel_rfl) (by kernel_rfl) (fun _ _ _ h => absurd h.1 (by simp)) ⟨.inl ⟨by rfl, fun _ => by go_simp⟩, fun _ => rfl⟩ ?_
                  try simp only [Act.put, List.getElem_toArray, List.getElem_cons_zero, List.getElem_cons_succ, List.setIfInBounds_toArray, List.set_cons_zero, List.set_cons_succ]
                  refine wpAnyIn_ready (rs := [0, 4]) (by kernel_rfl) (by simp) ?_
                  refine AllReadyIn.cons rfl (fun K hK => ?_) ?_
                  · have b := HX0.out.cell 0 (.string x) rfl
                    go_simp
                    refine hK _ _ ?_
                    clear hK K b
                    try simp only [Act.put, List.getElem_toArray, List.getElem_cons_zero, List.getElem_cons_succ, List.setIfInBounds_toArray, List.set_cons_zero, List.set_cons_succ]
                    refine wpAnyIn_take (i := 1) (v := .string h4) rfl rfl (by kernel_rfl) (by kernel_rfl) (by kernel_rfl) (fun _ _ _ h => absurd h.1 (by simp)) ⟨.inl ⟨by rfl, fun _ => by have i4 : (4 : Int) ≤ (x.size : Int) := (by omega); go_simp; exact HH4.out⟩, fun _ => rfl⟩ ?_
                    try simp only [Act.put, List.getElem_toArray, List.getElem_cons_zero, List.getElem_cons_succ, List.setIfInBounds_toArray, List.set_cons_zero, List.set_cons_succ]
                    refine wpAnyIn_ready (rs := [3, 4]) (by kernel_rfl) (by simp) ?_
                    refine AllReadyIn.cons rfl (fun K hK => ?_) ?_
                    · go_simp
                      refine ⟨trivial, fun _ => by omega, ?_⟩
                      refine (callsIn_wide.2 (HSUM.out _)).mono ?_
                      rintro e w5 ⟨rfl, hb5⟩
                      refine hK _ _ ?_
                      have hX5 := Aside0.mk (show Box w5 gs 9 _ from blk_below HX0.out hb5)
                      have hB5 := below_step HB0.out hb5
                      clear HX0 HB0 hK K hb5
                      have HX0 := hX5
                      have HB0 := Aside0.mk hB5
                      clear hX5 hB5
                      try simp only [Act.put, List.getElem_toArray, List.getElem_cons_zero, List.getElem_cons_succ, List.setIfInBounds_toArray, List.set_cons_zero, List.set_cons_succ]
                      refine wpAnyIn_ready (rs := [4]) (by kernel_rfl) (by simp) ?_
                      refine AllReadyIn.cons rfl (fun K hK => ?_) AllReadyIn.nil
                      have b := HX0.out.cell 0 (.string x) rfl
                      go_simp
                      refine hK _ _ ?_
                      clear hK K b
                      try simp only [Act.put, List.getElem_toArray, List.getElem_cons_zero, List.getElem_cons_succ, List.setIfInBounds_toArray, List.set_cons_zero, List.set_cons_succ]
                      refine wpAnyIn_take (i := 5) (v := .string q4) rfl rfl (by kernel_rfl) (by kernel_rfl) (by kernel_rfl) (fun _ _ _ h => absurd h.1 (by simp)) ⟨.inl ⟨by rfl, fun _ => by go_simp; exact HQ4.out⟩, fun _ => rfl⟩ ?_
                      try simp only [Act.put, List.getElem_toArray, List.getElem_cons_zero, List.getElem_cons_succ, List.setIfInBounds_toArray, List.set_cons_zero, List.set_cons_succ]
                      refine wpAnyIn_take (i := 6) (v := .bool true) rfl rfl (by kernel_rfl) (by kernel_rfl) (by kernel_rfl) (fun _ _ _ h => absurd h.1 (by simp)) ⟨.inl ⟨by rfl, fun _ => by go_simp⟩, fun _ => rfl⟩ ?_
                      try simp only [Act.put, List.getElem_toArray, List.getElem_cons_zero, List.getElem_cons_succ, List.setIfInBounds_toArray, List.set_cons_zero, List.set_cons_succ]
                      refine wpAnyIn_take (i := 7) (v := .bool true) rfl rfl (by kernel_rfl) (by kernel_rfl) (by kernel_rfl) (fun _ _ _ h => absurd h.1 (by simp)) ⟨.inl ⟨by rfl, fun _ => by go_simp⟩, fun _ => rfl⟩ ?_
                      try simp only [Act.put, List.getElem_toArray, List.getElem_cons_zero, List.getElem_cons_succ, List.setIfInBounds_toArray, List.set_cons_zero, List.set_cons_succ]
                      refine wpAnyIn_take (i := 8) (v := undef) rfl rfl (by kernel_rfl) (by kernel_rfl) (by kernel_rfl) (fun _ _ _ h => absurd h.1 (by simp)) ⟨.inr ⟨by rfl, rfl⟩, fun _ => rfl⟩ ?_
                      try simp only [Act.put, List.getElem_toArray, List.getElem_cons_zero, List.getElem_cons_succ, List.setIfInBounds_toArray, List.set_cons_zero, List.set_cons_succ]
                      refine wpAnyIn_take (i := 9) (v := undef) rfl rfl (by kernel_rfl) (by kernel_rfl) (by kernel_rfl) (fun _ _ _ h => absurd h.1 (by simp)) ⟨.inr ⟨by rfl, rfl⟩, fun _ => rfl⟩ ?_
                      try simp only [Act.put, List.getElem_toArray, List.getElem_cons_zero, List.getElem_cons_succ, List.setIfInBounds_toArray, List.set_cons_zero, List.set_cons_succ]
                      refine wpAnyIn_take (i := 10) (v := undef) rfl rfl (by kernel_rfl) (by kernel_rfl) (by kernel_rfl) (fun _ _ _ h => absurd h.1 (by simp)) ⟨.inr ⟨by rfl, rfl⟩, fun _ => rfl⟩ ?_
                      try simp only [Act.put, List.getElem_toArray, List.getElem_cons_zero, List.getElem_cons_succ, List.setIfInBounds_toArray, List.set_cons_zero, List.set_cons_succ]
                      refine wpAnyIn_take (i := 11) (v := undef) rfl rfl (by kernel_rfl) (by kernel_rfl) (by kernel_rfl) (fun _ _ _ h => absurd h.1 (by simp)) ⟨.inr ⟨by rfl, rfl⟩, fun _ => rfl⟩ ?_
                      try simp only [Act.put, List.getElem_toArray, List.getElem_cons_zero, List.getElem_cons_succ, List.setIfInBounds_toArray, List.set_cons_zero, List.set_cons_succ]
                      refine wpAnyIn_take (i := 12) (v := .bool true) rfl rfl (by kernel_rfl) (by kernel_rfl) (by kernel_rfl) (fun _ _ _ h => absurd h.1 (by simp)) ⟨.inl ⟨by rfl, fun _ => by go_simp⟩, fun _ => rfl⟩ ?_
                      try simp only [Act.put, List.getElem_toArray, List.getElem_cons_zero, List.getElem_cons_succ, List.setIfInBounds_toArray, List.set_cons_zero, List.set_cons_succ]
                      refine wpAnyIn_done (by kernel_rfl) ?_ _
                      exact ⟨rfl, rfl, HB0.out⟩
                    refine AllReadyIn.cons rfl (fun K hK => ?_) AllReadyIn.nil
                    have b := HX0.out.cell 0 (.string x) rfl
                    go_simp
                    refine hK _ _ ?_
                    clear hK K b
                    try simp only [Act.put, List.getElem_toArray, List.getElem_cons_zero, List.getElem_cons_succ, List.setIfInBounds_toArray, List.set_cons_zero, List.set_cons_succ]
                    refine wpAnyIn_take (i := 5) (v := .string q4) rfl rfl (by kernel_rfl) (by kernel_rfl) (by kernel_rfl) (fun _ _ _ h => absurd h.1 (by simp)) ⟨.inl ⟨by rfl, fun _ => by go_simp; exact HQ4.out⟩, fun _ => rfl⟩ ?_
                    try simp only [Act.put, List.getElem_toArray, List.getElem_cons_zero, List.getElem_cons_succ, List.setIfInBounds_toArray, List.set_cons_zero, List.set_cons_succ]
                    refine wpAnyIn_ready (rs := [3]) (by kernel_rfl) (by simp) ?_
                    refine AllReadyIn.cons rfl (fun K hK => ?_) AllReadyIn.nil
                    go_simp
                    refine ⟨trivial, fun _ => by omega, ?_⟩
                    refine (callsIn_wide.2 (HSUM.out _)).mono ?_
                    rintro e w5 ⟨rfl, hb5⟩
                    refine hK _ _ ?_
                    have hX5 := Aside0.mk (show Box w5 gs 9 _ from blk_below HX0.out hb5)
                    have hB5 := below_step HB0.out hb5
                    clear HX0 HB0 hK K hb5
                    have HX0 := hX5
                    have HB0 := Aside0.mk hB5
                    clear hX5 hB5
                    try simp only [Act.put, List.getElem_toArray, List.getElem_cons_zero, List.getElem_cons_succ, List.setIfInBounds_toArray, List.set_cons_zero, List.set_cons_succ]
                    refine wpAnyIn_take (i := 6) (v := .bool true) rfl rfl (by kernel_rfl) (by kernel_rfl) (by kernel_rfl) (fun _ _ _ h => absurd h.1 (by simp)) ⟨.inl ⟨by rfl, fun _ => by go_simp⟩, fun _ => rfl⟩ ?_
                    try simp only [Act.put, List.getElem_toArray, List.getElem_cons_zero, List.getElem_cons_succ, List.setIfInBounds_toArray, List.set_cons_zero, List.set_cons_succ]
                    refine wpAnyIn_take (i := 7) (v := .bool true) rfl rfl (by kernel_rfl) (by kernel_rfl) (by kernel_rfl) (fun _ _ _ h => absurd h.1 (by simp)) ⟨.inl ⟨by rfl, fun _ => by go_simp⟩, fun _ => rfl⟩ ?_
                    try simp only [Act.put, List.getElem_toArray, List.getElem_cons_zero, List.getElem_cons_succ, List.setIfInBounds_toArray, List.set_cons_zero, List.set_cons_succ]
                    refine wpAnyIn_take (i := 8) (v := undef) rfl rfl (by kernel_rfl) (by kernel_rfl) (by kernel_rfl) (fun _ _ _ h => absurd h.1 (by simp)) ⟨.inr ⟨by rfl, rfl⟩, fun _ => rfl⟩ ?_
                    try simp only [Act.put, List.getElem_toArray, List.getElem_cons_zero, List.getElem_cons_succ, List.setIfInBounds_toArray, List.set_cons_zero, List.set_cons_succ]
                    refine wpAnyIn_take (i := 9) (v := undef) rfl rfl (by kernel_rfl) (by kernel_rfl) (by kernel_rfl) (fun _ _ _ h => absurd h.1 (by simp)) ⟨.inr ⟨by rfl, rfl⟩, fun _ => rfl⟩ ?_
                    try simp only [Act.put, List.getElem_toArray, List.getElem_cons_zero, List.getElem_cons_succ, List.setIfInBounds_toArray, List.set_cons_zero, List.set_cons_succ]
                    refine wpAnyIn_take (i := 10) (v := undef) rfl rfl (by kernel_rfl) (by kernel_rfl) (by kernel_rfl) (fun _ _ _ h => absurd h.1 (by simp)) ⟨.inr ⟨by rfl, rfl⟩, fun _ => rfl⟩ ?_
                    try simp only [Act.put, List.getElem_toArray, List.getElem_cons_zero, List.getElem_cons_succ, List.setIfInBounds_toArray, List.set_cons_zero, List.set_cons_succ]
                    refine wpAnyIn_take (i := 11) (v := undef) rfl rfl (by kernel_rfl) (by kernel_rfl) (by kernel_rfl) (fun _ _ _ h => absurd h.1 (by simp)) ⟨.inr ⟨by rfl, rfl⟩, fun _ => rfl⟩ ?_
                    try simp only [Act.put, List.getElem_toArray, List.getElem_cons_zero, List.getElem_cons_succ, List.setIfInBounds_toArray, List.set_cons_zero, List.set_cons_succ]
                    refine wpAnyIn_take (i := 12) (v := .bool true) rfl rfl (by kernel_rfl) (by kernel_rfl) (by kernel_rfl) (fun _ _ _ h => absurd h.1 (by simp)) ⟨.inl ⟨by rfl, fun _ => by go_simp⟩, fun _ => rfl⟩ ?_
                    try simp only [Act.put, List.getElem_toArray, List.getElem_cons_zero, List.getElem_cons_succ, List.setIfInBounds_toArray, List.set_cons_zero, List.set_cons_succ]
                    refine wpAnyIn_done (by kernel_rfl) ?_ _
                    exact ⟨rfl, rfl, HB0.out⟩
                  refine AllReadyIn.cons rfl (fun K hK => ?_) AllReadyIn.nil
                  have b := HX0.out.cell 0 (.string x) rfl
                  go_simp
                  refine hK _ _ ?_
                  clear hK K b
                  try simp only [Act.put, List.getElem_toArray, List.getElem_cons_zero, List.getElem_cons_succ, List.setIfInBounds_toArray, List.set_cons_zero, List.set_cons_succ]
                  refine wpAnyIn_take (i := 5) (v := .string q4) rfl rfl (by kernel_rfl) (by kernel_rfl) (by kernel_rfl) (fun _ _ _ h => absurd h.1 (by simp)) ⟨.inl ⟨by rfl, fun _ => by go_simp; exact HQ4.out⟩, fun _ => rfl⟩ ?_
                  try simp only [Act.put, List.getElem_toArray, List.getElem_cons_zero, List.getElem_cons_succ, List.setIfInBounds_toArray, List.set_cons_zero, List.set_cons_succ]
                  refine wpAnyIn_ready (rs := [0]) (by kernel_rfl) (by simp) ?_
                  refine AllReadyIn.cons rfl (fun K hK => ?_) AllReadyIn.nil
                  have b := HX0.out.cell 0 (.string x) rfl
                  go_simp
                  refine hK _ _ ?_
                  clear hK K b
                  try simp only [Act.put, List.getElem_toArray, List.getElem_cons_zero, List.getElem_cons_succ, List.setIfInBounds_toArray, List.set_cons_zero, List.set_cons_succ]
                  refine wpAnyIn_take (i := 1) (v := .string h4) rfl rfl (by kernel_rfl) (by kernel_rfl) (by kernel_rfl) (fun _ _ _ h => absurd h.1 (by simp)) ⟨.inl ⟨by rfl, fun _ => by have i4 : (4 : Int) ≤ (x.size : Int) := (by omega); go_simp; exact HH4.out⟩, fun _ => rfl⟩ ?_
                  try simp only [Act.put, List.getElem_toArray, List.getElem_cons_zero, List.getElem_cons_succ, List.setIfInBounds_toArray, List.set_cons_zero, List.set_cons_succ]
                  refine wpAnyIn_ready (rs := [3]) (by kernel_rfl) (by simp) ?_
                  refine AllReadyIn.cons rfl (fun K hK => ?_) AllReadyIn.nil
                  go_simp
                  refine ⟨trivial, fun _ => by omega, ?_⟩
                  refine (callsIn_wide.2 (HSUM.out _)).mono ?_
                  rintro e w5 ⟨rfl, hb5⟩
                  refine hK _ _ ?_
                  have hX5 := Aside0.mk (show Box w5 gs 9 _ from blk_below HX0.out hb5)
                  have hB5 := below_step HB0.out hb5
                  clear HX0 HB0 hK K hb5
                  have HX0 := hX5
                  have HB0 := Aside0.mk hB5
                  clear hX5 hB5
                  try simp only [Act.put, List.getElem_toArray, List.getElem_cons_zero, List.getElem_cons_succ, List.setIfInBounds_toArray, List.set_cons_zero, List.set_cons_succ]
                  refine wpAnyIn_take (i := 6) (v := .bool true) rfl rfl (by kernel_rfl) (by kernel_rfl) (by kernel_rfl) (fun _ _ _ h => absurd h.1 (by simp)) ⟨.inl ⟨by rfl, fun _ => by go_simp⟩, fun _ => rfl⟩ ?_
                  try simp only [Act.put, List.getElem_toArray, List.getElem_cons_zero, List.getElem_cons_succ, List.setIfInBounds_toArray, List.set_cons_zero, List.set_cons_succ]
                  refine wpAnyIn_take (i := 7) (v := .bool true) rfl rfl (by kernel_rfl) (by kernel_rfl) (by kernel_rfl) (fun _ _ _ h => absurd h.1 (by simp)) ⟨.inl ⟨by rfl, fun _ => by go_simp⟩, fun _ => rfl⟩ ?_
                  try simp only [Act.put, List.getElem_toArray, List.getElem_cons_zero, List.getElem_cons_succ, List.setIfInBounds_toArray, List.set_cons_zero, List.set_cons_succ]
                  refine wpAnyIn_take (i := 8) (v := undef) rfl rfl (by kernel_rfl) (by kernel_rfl) (by kernel_rfl) (fun _ _ _ h => absurd h.1 (by simp)) ⟨.inr ⟨by rfl, rfl⟩, fun _ => rfl⟩ ?_
                  try simp only [Act.put, List.getElem_toArray, List.getElem_cons_zero, List.getElem_cons_succ, List.setIfInBounds_toArray, List.set_cons_zero, List.set_cons_succ]
                  refine wpAnyIn_take (i := 9) (v := undef) rfl rfl (by kernel_rfl) (by kernel_rfl) (by kernel_rfl) (fun _ _ _ h => absurd h.1 (by simp)) ⟨.inr ⟨by rfl, rfl⟩, fun _ => rfl⟩ ?_
                  try simp only [Act.put, List.getElem_toArray, List.getElem_cons_zero, List.getElem_cons_succ, List.setIfInBounds_toArray, List.set_cons_zero, List.set_cons_succ]
                  refine wpAnyIn_take (i := 10) (v := undef) rfl rfl (by kernel_rfl) (by kernel_rfl) (by kernel_rfl) (fun _ _ _ h => absurd h.1 (by simp)) ⟨.inr ⟨by rfl, rfl⟩, fun _ => rfl⟩ ?_
                  try simp only [Act.put, List.getElem_toArray, List.getElem_cons_zero, List.getElem_cons_succ, List.setIfInBounds_toArray, List.set_cons_zero, List.set_cons_succ]
                  refine wpAnyIn_take (i := 11) (v := undef) rfl rfl (by kernel_rfl) (by kernel_rfl) (by kernel_rfl) (fun _ _ _ h => absurd h.1 (by simp)) ⟨.inr ⟨by rfl, rfl⟩, fun _ => rfl⟩ ?_
                  try simp only [Act.put, List.getElem_toArray, List.getElem_cons_zero, List.getElem_cons_succ, List.setIfInBounds_toArray, List.set_cons_zero, List.set_cons_succ]
                  refine wpAnyIn_take (i := 12) (v := .bool true) rfl rfl (by kernel_rfl) (by kernel_rfl) (by kernel_rfl) (fun _ _ _ h => absurd h.1 (by simp)) ⟨.inl ⟨by rfl, fun _ => by go_simp⟩, fun _ => rfl⟩ ?_
                  try simp only [Act.put, List.getElem_toArray, List.getElem_cons_zero, List.getElem_cons_succ, List.setIfInBounds_toArray, List.set_cons_zero, List.set_cons_succ]
                  refine wpAnyIn_done (by kernel_rfl) ?_ _
                  exact ⟨rfl, rfl, HB0.out⟩
                case hnext =>
                  rintro _ w6 ⟨rfl, hb6⟩
                  try simp only [Act.put, List.getElem_toArray, List.getElem_cons_zero, List.getElem_cons_succ, List.setIfInBounds_toArray, List.set_cons_zero, List.set_cons_succ]
                  have HB6 := Aside0.mk hb6
                  clear hb6
                  gi_wp2_with fail
                  refine bodyPost_ret (results_none rfl _ _ _) rfl ?_
                  refine ⟨⟨_, rfl⟩, ?_, hRc _ _ HR.out ⟨HB6.out.size, fun i o hi ho => (HB6.out.block i (Array.getElem?_eq_some_iff.1 hi).1).trans hi⟩⟩
                  rw [← HKE.out]
                  exact ⟨⟨by rw [HXX.out]; exact blk_below HBOX.out HB6.out, below_step HI.out.1.below HB6.out⟩, hC _ _ _ HI.out.2 (But.of_below HB6.out)⟩
            · have d2 : (x.size : Int) - 8 < (m : Int) := by omega
              have hke : k = cnt s := by
                by_cases h : k < cnt s
                · exact absurd (HOKD.out.1 (HOK.out h)).2.2.1 c2
                · omega
              gi_wp2_with fail
              refine bodyPost_ret (results_none rfl _ _ _) rfl ?_
              exact ⟨⟨_, rfl⟩, by rw [← hke]; exact HI.out, HR.out⟩
          · have d1 : (m : Int) > 65536 := by omega
            have hke : k = cnt s := by
              by_cases h : k < cnt s
              · exact absurd (HOKD.out.1 (HOK.out h)).2.1 c1
              · omega
            gi_wp2_with fail
            refine bodyPost_ret (results_none rfl _ _ _) rfl ?_
            exact ⟨⟨_, rfl⟩, by rw [← hke]; exact HI.out, HR.out⟩
    · have i8 : ¬ (8 : Int) ≤ (x.size : Int) := by omega
      have hke : k = cnt s := by
        by_cases h : k < cnt s
        · exact absurd (HOK.out h).1 h8
        · omega
      gi_wp2_with fail
      go_end0
      exact ⟨⟨_, rfl⟩, by rw [← hke]; exact HI.out, HR.out⟩
end Go.Proofs.Ytkpflejagagcbaa.P

namespace Go.Proofs.Ytkpflejagagcbaa.P
set_option linter.unusedVariables false
set_option linter.unusedSimpArgs false
open Go.RowKit Go.Shelf Go.Proofs.YtkpflejagagcbaaW.PrintWords
attribute [local go_sem] Oper.semAt_some
/-! log.Frames. -/
def cellsS (s : ByteArray) (k : Nat) : List Value := (List.range k).map fun i => Value.string (textAt s i)
theorem cellsS_succ (s : ByteArray) (k : Nat) : cellsS s (k + 1) = cellsS s k ++ [.string (textAt s k)] := by simp [cellsS, List.range_succ]
theorem info9_1 : (Try.prog.info? 9).map (fun i => (i.zero, i.size, i.bytes)) = some (some (.string ByteArray.empty), 1, 16) := by kernel_rfl
theorem own_but {W W' : World} {base : Nat} {e : TypeId} {size n : Nat} {v : Value} {xs : List Value} (h : W.ownsRow base e size v n xs) {g : Nat} (hb : But g W W') (hg : g < base) : W'.ownsRow base e size v n xs := by
  refine own_move h fun k hk => hb.block k (own_lt h k hk) ?_
  have := own_base h k hk
  omega
theorem app_keeps {W W4 w' : World} {B0 gb e size k : Nat} {v : Value} {xs : List Value} (hb : Below W.heap.size W W4) (hown : W4.ownsRow B0 e size v k xs) (hg : W4.grownBy w' v.ownBlock) (u : Value) : KeepsOthers W (w'.setCell ⟨gb, 0, none⟩ u) := by
  refine KeepsOthers.trans (KeepsOthers.trans ⟨hb.size, fun i o hi ho => (hb.block i (Array.getElem?_eq_some_iff.1 hi).1).trans hi⟩ (KeepsOthers.of_grownBy hg fun j o ej hj => ?_)) (KeepsOthers.setCell _ _ _)
  obtain ⟨cells, hc⟩ := own_typed hown j ej
  rw [hc] at hj
  cases hj
  rfl
set_option maxRecDepth 100000 in
set_option maxHeartbeats 4000000 in
theorem frames_in (s : ByteArray) (hs : s.size ≤ 90000) (w : World) :
    CallsIn Fence.wide 8 Try.prog 8 #[.string s] w fun e w' => ∃ v, e = .returned (.tuple #[v, .int .i64 (nAt s (cnt s) : Nat)]) ∧ w'.ownsRow w.heap.size 9 1 v (cnt s) (cellsS s (cnt s)) ∧ Below w.heap.size w w' := by
  have hro : Fence.wide.round = none := rfl
  refine callsIn_of_wp_marks Try.func8 rfl trivial ?_ hro
  simp only [Try.ntmps8, List.size_toArray, List.length_cons, List.length_nil, Nat.reduceAdd, Nat.reduceSub, Array.replicate_succ, Array.replicate_zero, List.push_toArray, List.append_toArray, List.nil_append, List.cons_append]
  have T := two w (.cells #[.slice none 0 0] 23) (.cells #[.int .i64 0] 3)
  have HT := Aside0.mk T
  clear T
  gi_wp2_with fail
  refine ⟨trivial, ?_⟩
  have hsz : ((w.alloc (.cells #[.slice none 0 0] 23)).alloc (.cells #[.int .i64 0] 3)).heap.size = w.heap.size + 1 + 1 := by simp
  generalize (w.alloc (.cells #[.slice none 0 0] 23)).alloc (.cells #[.int .i64 0] 3) = w1 at *
  refine (callsIn_wide.2 (records_any s w1)).mono ?_
  rintro e w2 ⟨rfl, hbx, hb⟩
  rw [hsz] at hbx hb ⊢
  have l2 : w.heap.size + 1 + 1 < w2.heap.size := hbx.lt
  gi_wp2_with fail
  have hw2 := below_step HT.out.2.2 (show Below w1.heap.size w1 w2 by rw [hsz]; exact hb)
  have hbo : Box w2 w.heap.size 23 #[.slice none 0 0] := (hb.block _ (by omega)).trans HT.out.1
  have hbn : Box w2 (w.heap.size + 1) 3 #[.int .i64 0] := (hb.block _ (by omega)).trans HT.out.2.1
  have HW2 := Aside0.mk hw2
  have HX2 := Aside0.mk hbx
  have HBO := Aside0.mk hbo
  have HBN := Aside0.mk hbn
  have hcl : cnt s ≤ 90000 := by have := rAt_size (Nat.le_refl (cnt s)); omega
  clear hw2 hbx hb hbo hbn HT
  refine range_rounds hro (by omega) (gf := 17) (lb := #[.pointer (some ⟨w.heap.size + 1 + 1, 0, none⟩)]) rfl trivial (enters_of Try.func17 (by kernel_rfl) rfl)
    (rec_rounds 7 (by omega) s hs (w.heap.size + 1 + 1) w (by omega)
      (fun k W => ∃ v, w2.heap.size ≤ W.heap.size ∧ Box W w.heap.size 23 #[v] ∧ Box W (w.heap.size + 1) 3 #[.int .i64 (nAt s k : Nat)] ∧ W.ownsRow w2.heap.size 9 1 v k (cellsS s k)) ?hC) (fun _ => rfl) ?hI ?hE ?hI0
    (fun k a1 W => a1 = { tmps := #[.string s, undef, .slice none 0 0, .int .i64 0, .pointer (some ⟨w.heap.size, 0, none⟩), .pointer (some ⟨w.heap.size + 1, 0, none⟩), .string (textAt s k), .string s,
        .func (.func 17) #[] #[.pointer (some ⟨w.heap.size + 1 + 1, 0, none⟩)], .string (textAt s k), undef, undef, undef, undef, undef, undef, undef, undef, undef, undef, undef], defers := [] } ∧
      Hd s w.heap.size (w.heap.size + 1 + 1) w k W ∧ ∃ v, w2.heap.size ≤ W.heap.size ∧ Box W w.heap.size 23 #[v] ∧ Box W (w.heap.size + 1) 3 #[.int .i64 (nAt s k : Nat)] ∧ W.ownsRow w2.heap.size 9 1 v k (cellsS s k)) ?hB ?hassign ?hbody ?hdone
  case hC =>
    rintro k W W' ⟨v, h0, h1, h2, h3⟩ hb
    exact ⟨v, Nat.le_trans h0 hb.size, hb.box h1 (by omega), hb.box h2 (by omega), own_but h3 hb (by omega)⟩
  case hI =>
    rintro k W lp o o' ⟨hd, v, h0, h1, h2, h3⟩ hlp hlo hoc
    refine ⟨⟨(World.putObj_heap_other (by omega)).trans hd.box, ?_⟩, v, Nat.le_trans h0 (by simp), (World.putObj_heap_other (by omega)).trans h1, (World.putObj_heap_other (by omega)).trans h2, ownsRow_putObj h3 o hlo hoc⟩
    exact hd.below.grown (grownBy_putObj' W lp o) (by have := hd.below.size; omega) (fun k e => by cases e; omega)
  case hE =>
    rintro k W lp o o' ⟨hd, v, h0, h1, h2, h3⟩ hlp hlo hoc
    refine ⟨⟨(World.putObj_heap_other (by omega)).trans hd.box, ?_⟩, v, Nat.le_trans h0 (by simp), (World.putObj_heap_other (by omega)).trans h1, (World.putObj_heap_other (by omega)).trans h2, ownsRow_putObj h3 o hlo hoc⟩
    exact hd.below.grown (grownBy_putObj' W lp o) (by have := hd.below.size; omega) (fun k e => by cases e; omega)
  case hI0 =>
    intro o o'
    refine ⟨⟨blk_alloc (blk_alloc HX2.out o) o', below_alloc (below_alloc HW2.out o) o'⟩, .slice none 0 0, by simp; omega, blk_alloc (blk_alloc HBO.out o) o', ?_, ⟨rfl, .inl ⟨rfl, rfl⟩⟩⟩
    have : nAt s 0 = 0 := Nat.sub_self _
    rw [this]
    exact blk_alloc (blk_alloc HBN.out o) o'
  case hB =>
    rintro k a1 W lp o o' ⟨rfl, hd, v, h0, h1, h2, h3⟩ hlp hlo hoc
    refine ⟨rfl, ⟨(World.putObj_heap_other (by omega)).trans hd.box, ?_⟩, v, Nat.le_trans h0 (by simp), (World.putObj_heap_other (by omega)).trans h1, (World.putObj_heap_other (by omega)).trans h2, ownsRow_putObj h3 o hlo hoc⟩
    exact hd.below.grown (grownBy_putObj' W lp o) (by have := hd.below.size; omega) (fun k e => by cases e; omega)
  case hassign =>
    rintro lp k W K hk ⟨hd, hc⟩ hK
    rw [show encs s k = #[.string (textAt s k)] from rfl]
    have HD := Aside0.mk hd
    have HC := Aside0.mk hc
    clear hd hc
    gi_wp2_with fail
    exact hK _ W (KeepsOthers.refl _) ⟨rfl, HD.out, HC.out⟩
  case hbody =>
    rintro lp k a1 W hk ⟨rfl, hd, v, h0, h1, h2, h3⟩
    have b4 := h1.cell 0 v rfl
    have b4f := h1.free 0
    have b5 := h2.cell 0 (.int .i64 (nAt s k : Nat)) rfl
    have hcs := cellsS_succ s k
    have hns := nAt_succ hk
    have hnl := rAt_size (show k + 1 ≤ cnt s by omega)
    have htl : (textAt s k).size ≤ 90000 := by have h := rAt_size (show k ≤ cnt s by omega); have h' := recT_size (rAt_ok hk); have h'' := (rAt_ok hk).2.2.1; show (recT (rAt s k)).size ≤ 90000; omega
    have hnk : nAt s k ≤ 90000 := by unfold nAt; omega
    have HCS := Aside0.mk hcs
    have HNS := Aside0.mk (show nAt s (k + 1) = nAt s k + (8 + (textAt s k).size) from hns)
    have HD := Aside0.mk hd
    have H1 := Aside0.mk h1
    have H2 := Aside0.mk h2
    have H3 := Aside0.mk h3
    clear hcs hns hd h1 h2 h3 hnl
    generalize textAt s k = t at *
    generalize nAt s k = m at *
    obtain ⟨i0, hi, hz0, hz1, hz2⟩ := info_parts info9_1
    have HIN := Aside0.mk (And.intro hi (And.intro hz0 (And.intro hz1 hz2)))
    have hk6 : k < 90000 := by omega
    clear hi hz0 hz1 hz2
    obtain ⟨W4, hW4⟩ : ∃ W4, W.alloc (.cells #[.string t] 9) = W4 := ⟨_, rfl⟩
    have hn4 : W4.heap[W.heap.size]? = some (.cells #[.string t] 9 (0, 0)) := by rw [← hW4]; exact blk_new W _
    have hb4 : Below W.heap.size W W4 := by rw [← hW4]; exact below_alloc (Below.refl _ _) _
    have hs4 : W4.heap.size = W.heap.size + 1 := by rw [← hW4]; simp
    have h24 := own_but H3.out (But.of_below hb4) (g := 0) (by omega)
    have H4 := Aside0.mk (And.intro hn4 (And.intro hb4 (And.intro hs4 h24)))
    clear hn4 hb4 hs4 h24
    gi_wp2_with (gi_at_builtin; refine wpListIn_append_own W4 rfl _ _ 23 rfl w2.heap.size 9 i0 (.string ByteArray.empty) 1 16 Try.underlying23 HIN.out.1 HIN.out.2.1 HIN.out.2.2.1 HIN.out.2.2.2 rfl (by decide) v k (cellsS s k) rfl H4.out.2.2.2 ⟨W.heap.size, 0, none⟩ 1 1 [.string t] rfl rfl ?c1 ?c2 ?c3 ?c4 ?c5 ?_)
    case c1 =>
      intro j u hu
      have hp : (⟨W.heap.size, 0, none⟩ : Addr).add j = ⟨W.heap.size, j, none⟩ := by unfold Addr.add; split <;> simp_all
      rw [hp]
      exact (blk_cell H4.out.1 j).trans (by simpa using hu)
    case c2 => simp [Value.oneCell']
    case c3 => show k + 1 ≤ 9223372036854775807; omega
    case c4 => omega
    case c5 => have := H4.out.2.2.1; omega
    intro v' w' hown hgr _
    obtain ⟨gr, cap, rfl⟩ := ownsRow_succ hown
    have hbs := own_base H3.out
    have hne : some w.heap.size ≠ v.ownBlock := fun e => by have := hbs _ e.symm; omega
    have hne2 : some (w.heap.size + 1) ≠ v.ownBlock := fun e => by have := hbs _ e.symm; omega
    have hv' : Box w' w.heap.size 23 #[v] := (hgr.block _ (by have := H4.out.2.2.1; omega) hne).trans (blk_below H1.out H4.out.2.1)
    have hn' : Box w' (w.heap.size + 1) 3 #[.int .i64 (m : Nat)] := (hgr.block _ (by have := H4.out.2.2.1; omega) hne2).trans (blk_below H2.out H4.out.2.1)
    rw [← HCS.out] at hown
    have b6 := hv'.cell 0 _ rfl
    have b6f := hv'.free 0
    have b7 := hn'.cell 0 (.int .i64 (m : Nat)) rfl
    have b7f := hn'.free 0
    have hbelow : Below w.heap.size w w' := (below_step HD.out.below H4.out.2.1).grown hgr (by have := H4.out.2.2.1; omega) (fun j e => by have := hbs j e; omega)
    have hsame : ∀ i, i < w2.heap.size → w'.heap[i]? = W.heap[i]? := fun i hi => (hgr.block i (by have := H4.out.2.2.1; omega) (fun e => by have := hbs i e.symm; omega)).trans (H4.out.2.1.block i (by omega))
    have HOWN := Aside0.mk hown
    have HV := Aside0.mk hv'
    have HNN := Aside0.mk hn'
    have HGR := Aside0.mk hgr
    have HBEL := Aside0.mk hbelow
    have HSAME := Aside0.mk hsame
    clear hown hv' hn' hgr hbelow hsame hbs hW4 b4 b4f b5
    gi_wp2
    have e : ((nAt s (k + 1) : Nat) : Int) = (m : Int) + (8 + (t.size : Int)) := by rw [HNS.out]; omega
    refine ⟨(app_keeps H4.out.2.1 H4.out.2.2.2 HGR.out _).trans (KeepsOthers.setCell _ _ _), ⟨?_, ?_⟩, ?_, .slice (some ⟨gr, 0, none⟩) (k + 1) cap, ?_, ?_, ?_⟩
    · exact blk_far (p := ⟨w.heap.size + 1, 0, none⟩) (blk_far (p := ⟨w.heap.size, 0, none⟩) (show w'.heap[_]? = _ from (HSAME.out _ (by omega)).trans HD.out.box) (by show w.heap.size + 1 + 1 ≠ w.heap.size; omega) _) (by show w.heap.size + 1 + 1 ≠ w.heap.size + 1; omega) _
    · exact below_set (below_set HBEL.out (by show w.heap.size ≤ w.heap.size; omega)) (by show w.heap.size ≤ w.heap.size + 1; omega)
    · have := HGR.out.size; have := H4.out.2.2.1; omega
    · exact blk_far (p := ⟨w.heap.size + 1, 0, none⟩) (blk_set HV.out 0 _) (by show w.heap.size ≠ w.heap.size + 1; omega) _
    · rw [e]
      exact blk_set (blk_far (p := ⟨w.heap.size, 0, none⟩) HNN.out (by show w.heap.size + 1 ≠ w.heap.size; omega) _) 0 _
    · exact (HOWN.out.kept (grownBy_setCell' w' _ _) (.inr (fun e => by have := own_base HOWN.out _ e; omega))).kept (grownBy_setCell' _ _ _) (.inr (fun e => by have := own_base HOWN.out _ e; omega))
  case hdone =>
    rintro D W hD ⟨hd, v, h0, h1, h2, h3⟩ hDd
    have b4 := h1.cell 0 v rfl
    have b5 := h2.cell 0 (.int .i64 (nAt s (cnt s) : Nat)) rfl
    have HD := Aside0.mk hd
    have H2 := Aside0.mk h3
    have HK := Aside0.mk hDd
    have hD2 : w2.heap.size ≤ D := hD
    clear hd h1 h2 h3 hDd
    gi_wp2
    gi_region
    all_goals gi_wp2
    all_goals refine ⟨by simp, .inl ⟨_, _, rfl, run_takeDeferred (w := W.drew) HK.out, ?_⟩⟩
    all_goals exact ⟨.tuple #[v, .int .i64 (nAt s (cnt s) : Nat)], by simp [results, Try.results8, go_sem], _, rfl, own_weaken (ownsRow_putObj (World.ownsRow.drew H2.out) _ (show W.drew.heap[D]? = _ from HK.out) rfl) (by omega), (below_drew1 HD.out.below).grown (grownBy_putObj' W.drew D _) (by have := (below_drew1 HD.out.below).size; omega) (fun k e => by cases e; omega)⟩
end Go.Proofs.Ytkpflejagagcbaa.P

namespace Go.Proofs.Ytkpflejagagcbaa.P
set_option linter.unusedVariables false
set_option linter.unusedSimpArgs false
open Go.RowKit Go.Shelf Go.Proofs.YtkpflejagagcbaaW.PrintWords
theorem reps9 (w : World) (base : Nat) (ok : Nat → Prop) (s : ByteArray) (n : Nat) : Reps (Kd.string.M w base ok) 1 (texts s n) (cellsS s n) := by
  induction n with
  | zero => exact Reps.none _ _
  | succ n ih =>
    rw [cellsS_succ, texts_succ]
    exact ih.snoc rfl rfl
theorem R_of_cells {w : World} {base : Nat} {v : Value} {s : ByteArray} {n : Nat} (h : w.ownsRow base 9 1 v n (cellsS s n)) (ok : Nat → Prop) (hok : ∀ k, base ≤ k → ok k) : Kd.R Kd.string 9 w base ok v (texts s n) := by
  refine ⟨fun k hk => hok k (own_base h k hk), cellsS s n, ?_, reps9 w base _ s n⟩
  rw [texts_len]
  exact h
theorem log_Frames.calls (s : ByteArray) (r1 : List ByteArray) (r2 : Int) (w : World) (h : log_Frames.f s = some (r1, r2)) :
    Calls Try.prog 8 #[.string s] w fun e w' => ∃ v0_ : Value, e = .returned (.tuple #[v0_, .int .i64 r2]) ∧ Kd.R Kd.string 9 w' w.heap.size (fun _ => True) v0_ r1 ∧ Below w.heap.size w w' := by
  unfold log_Frames.f at h
  split at h
  · rename_i hs
    injection h with h
    injection h with e1 e2
    subst e1 e2
    refine (callsIn_wide.1 (frames_in s hs w)).mono ?_
    rintro e w' ⟨v, rfl, ho, hb⟩
    exact ⟨v, rfl, R_of_cells ho _ (fun _ _ => trivial), hb⟩
  · cases h
#print axioms log_Frames.calls
end Go.Proofs.Ytkpflejagagcbaa.P
