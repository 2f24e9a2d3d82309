import Derived.Test.YtkpflejagagcbaaAwakeG
import Derived.OwnWalk
import Derived.Laws.Cover3
import Derived.Test.YtkpflejagagcbaaP0
import Derived.ProofKit
import Derived.OpenShut
import Derived.ShutString
import Derived.Lib.SmallJoins
import Derived.Deep.Slices
namespace Go.Proofs.Ytkpflejagagcbaa.P
set_option linter.unusedVariables false
set_option linter.unusedSimpArgs false
open Go.RowKit Go.Shelf Go.Proofs.YtkpflejagagcbaaW.PrintWords
attribute [local go_sem] Oper.semAt_some
/-! LogBack, walked: records there and back. -/
theorem cut_mod (c : Int) (n : Nat) (hn : n ≤ 90000) (h0 : 0 < n) : ∃ j : Nat, j < n ∧ wrap64 (Int.tmod (IntKind.u64.wrap c) (n : Int)) = (j : Int) := by
  have hw : 0 ≤ IntKind.u64.wrap c := by rw [IntKind.wrap_u64]; omega
  generalize IntKind.u64.wrap c = x at *
  rw [Int.tmod_eq_emod_of_nonneg hw]
  have h1 := Int.emod_nonneg x (show (n : Int) ≠ 0 by omega)
  have h2 := Int.emod_lt_of_pos x (show (0 : Int) < n by omega)
  refine ⟨(x % (n : Int)).toNat, by omega, ?_⟩
  unfold wrap64
  omega
theorem joinB_take (l : List ByteArray) (i : Nat) (h : i < l.length) : joinB (l.take (i + 1)) = joinB (l.take i) ++ frameB (l.getD i ByteArray.empty) := by
  rw [List.take_succ_eq_append_getElem h, joinB_snoc, List.getD_eq_getElem?_getD, List.getElem?_eq_getElem h]
  rfl
theorem joinB_size (l : List ByteArray) (hl : ∀ t ∈ l, t.size ≤ 2000) : (joinB l).size ≤ 2008 * l.length := by
  induction l with
  | nil => exact Nat.le_refl _
  | cons t l ih =>
    have := ih (fun t h => hl t (List.mem_cons_of_mem _ h))
    have ht := hl t (List.mem_cons_self ..)
    rw [joinB_cons, ByteArray.size_append, frame_size (by omega), List.length_cons]
    omega
theorem string_at {w : World} {A : Option Addr} {l : List ByteArray} (hC : Kd.C Kd.string w A l.length l) (i : Nat) (hi : i < l.length) : ∃ ad, A = some ad ∧ w.cell? (ad.add i) = some (.string (l.getD i ByteArray.empty)) := by
  obtain ⟨ad, h1, h2⟩ := Kd.at_string hC (i : Int) (by omega) (by omega)
  refine ⟨ad, h1, ?_⟩
  rw [Int.toNat_natCast] at h2
  rw [h2]
  simp [rdOf]
set_option maxRecDepth 100000 in
set_option maxHeartbeats 4000000 in
theorem back_law (l : List ByteArray) (A : Option Addr) (c : Nat) (hlen : l.length ≤ c) (w : World) (hC : Kd.C Kd.string w A l.length l) (t : ByteArray) (n : Int) :
    Calls Try.prog 4 #[.slice A l.length c, .string t, .int .i64 n] w fun e w' => e = .returned (.bool true) ∧ Below w.heap.size w w' := by
  have HC0 := Aside0.mk hC
  have HAW := Aside0.mk awake_any
  clear hC
  by_cases c1 : l.length ≤ 30
  · have d1 : ¬ ((l.length : Nat) : Int) > 30 := by omega
    by_cases c2 : t.size ≤ 2000
    · have d2 : ¬ ((t.size : Nat) : Int) > 2000 := by omega
      go_enter Try.func4, Try.ntmps4
      go_wp2_with fail
      go_loopw [7, 26] (fun sv iv wr => ∃ i : Nat, i ≤ l.length ∧ iv = .int .i64 (i : Nat) ∧ sv = .string (joinB (l.take i)) ∧ (∀ x ∈ l.take i, x.size ≤ 2000) ∧ Below w.heap.size w wr) (fun _ iv _ => l.length - (intOf iv).toNat)
      case atStart => exact ⟨0, by omega, rfl, rfl, fun x hx => by simp at hx, Below.refl _ _⟩
      case round =>
        obtain ⟨i, hi, rfl, rfl, hz, hbw⟩ := hrel
        have HZ := Aside0.mk hz
        have HW := Aside0.mk hbw
        have hjs := joinB_size (l.take i) hz
        rw [List.length_take] at hjs
        have hjs : (joinB (l.take i)).size ≤ 60240 := by omega
        clear hz hbw
        by_cases hlt : i < l.length
        · obtain ⟨ad, hA, hcell⟩ := string_at (Kd.C_below HC0.out HW.out) i hlt
          have hjt := joinB_take l i hlt
          have hi' : (i : Int) < (l.length : Int) := by omega
          have HJT := Aside0.mk hjt
          have HGT := Aside0.mk (show l.getD i ByteArray.empty = l[i] by rw [List.getD_eq_getElem?_getD, List.getElem?_eq_getElem hlt]; rfl)
          clear hjt
          subst hA
          generalize l.getD i ByteArray.empty = x at *
          generalize joinB (l.take i) = y at *
          by_cases c3 : x.size ≤ 2000
          · have d3 : ¬ ((x.size : Nat) : Int) > 2000 := by omega
            have hfz := frame_size (s := x) (by omega)
            have hcall := fun W => log_Frame.calls x (frameB x) W (frame_val x (by omega))
            have HCL := Aside0.mk hcall
            clear hcall
            generalize frameB x = f at *
            go_wp2_with fail
            refine (HCL.out _).mono ?_
            rintro e w1 ⟨rfl, hb⟩
            have HW1 := Aside0.mk (below_step HW.out hb)
            clear hb hcell
            go_wp2_with fail
            refine ⟨⟨i + 1, by omega, by go_num, by rw [HJT.out], ?_, HW1.out⟩, by simp [intOf]; omega⟩
            intro z hz
            rw [List.take_succ_eq_append_getElem hlt, List.mem_append, List.mem_singleton] at hz
            rcases hz with hz | rfl
            · exact HZ.out z hz
            · rw [← HGT.out]; exact c3
          · have d3 : ((x.size : Nat) : Int) > 2000 := by omega
            go_wp2_with fail
            refine (HAW.out _).mono ?_
            rintro e w1 ⟨rfl, hb⟩
            have HW1 := Aside0.mk (below_step HW.out hb)
            clear hb hcell
            go_wp2_with fail
            exact bodyPost_ret (v := .bool true) (by simp [results, Try.results4, go_sem]) rfl ⟨rfl, HW1.out⟩
        · obtain rfl : i = l.length := by omega
          rw [List.take_length] at hjs HZ ⊢
          have hft := frame_size (s := t) (by omega)
          obtain ⟨j, hj, ej⟩ := cut_mod n (frameB t).size (by omega) (by omega)
          have a1 := all_join l (fun x hx => by have := HZ.out x hx; omega) ((frameB t).extract 0 j)
          have a2 := all_join l (fun x hx => by have := HZ.out x hx; omega) (frameB t ++ ⟨#[]⟩)
          have a3 := all_frame (s := t) (by omega) ⟨#[]⟩
          have n1 := allT_no (cut_no (t := t) (by omega) hj)
          have n2 := allT_no (b := ⟨#[]⟩) (fun h => absurd h.1 (by decide))
          rw [n1.1, n1.2, List.append_nil, Nat.add_zero] at a1
          rw [a3.1, a3.2, n2.1, n2.2, app_nil, Nat.add_zero] at a2
          have hcx : ((frameB t).extract 0 j).size ≤ 2008 := by rw [ByteArray.size_extract]; omega
          have h1 := fun W => log_Frame.calls t (frameB t) W (frame_val t (by omega))
          have h2 := fun W => log_Frames.calls (joinB l ++ (frameB t).extract 0 j) l ((joinB l).size : Nat) W (by rw [frames_val _ (by rw [ByteArray.size_append]; omega), a1.1, a1.2])
          have h3 := fun W => log_Frames.calls (joinB l ++ frameB t) (l ++ [t]) (((joinB l).size + (frameB t).size : Nat)) W (by rw [frames_val _ (by rw [ByteArray.size_append]; omega), a2.1, a2.2])
          have H := Aside0.mk (And.intro h1 (And.intro h2 h3))
          clear h1 h2 h3 a1 a2 a3 n1 n2
          have HEJ := Aside0.mk ej
          have HFT := Aside0.mk hft
          have fs : (frameB t).size ≤ 2008 := by omega
          have fs8 : 8 ≤ (frameB t).size := by omega
          clear hft
          generalize frameB t = f at *
          generalize joinB l = y at *
          clear ej
          go_wp2_with fail
          refine (H.out.1 _).mono ?_
          rintro e w1 ⟨rfl, hb⟩
          have HW1 := Aside0.mk (below_step HW.out hb)
          clear hb
          have ej := HEJ.out
          have hj0 : (j : Int) ≤ (f.size : Int) := by omega
          have hf0 : (f.size : Int) ≠ 0 := by omega
          have hfw : IntKind.u64.wrap (f.size : Int) = (f.size : Int) := by rw [IntKind.wrap_u64]; omega
          go_wp2_with fail
          refine (H.out.2.1 _).mono ?_
          rintro e w2 ⟨v1, rfl, hR1, hb⟩
          obtain ⟨A1, k1, rfl, hC1, hl1⟩ := C_of_R hR1
          have HW2 := Aside0.mk (below_step HW1.out hb)
          have HR1 := Aside0.mk (And.intro hC1 hl1)
          clear hb hR1 hC1 hl1 ej hj0 hf0 hfw
          go_wp2_with fail
          refine (H.out.2.2 _).mono ?_
          rintro e w3 ⟨v2, rfl, hR2, hb⟩
          obtain ⟨A2, k2, rfl, hC2, hl2⟩ := C_of_R hR2
          have hln : (l ++ [t]).length = l.length + 1 := by simp
          rw [hln] at hC2 hl2 ⊢
          have HW3 := Aside0.mk (below_step HW2.out hb)
          have HR2 := Aside0.mk (And.intro hC2 hl2)
          have hC13 := Kd.C_below HR1.out.1 hb
          have hC03 := Kd.C_below HC0.out HW3.out
          have HS1 := Aside0.mk (truceref23_Same.calls 1000 A1 k1 l A c l true w3 hC13 HR1.out.2 hC03 hlen (same_refl l (by omega) 1000 (by omega)))
          clear hb hR2 hC2 hl2 hC13 hC03 hln
          go_wp2_with fail
          refine HS1.out.mono ?_
          rintro e w4 ⟨rfl, ⟨nd, hw4⟩⟩
          have HW4 := Aside0.mk (show Below w.heap.size w w4 by rw [hw4]; exact pw_below_drewN HW3.out _)
          have HC24 := Aside0.mk (show Kd.C Kd.string w4 A2 (l.length + 1) (l ++ [t]) by rw [hw4]; exact Kd.C_drewN HR2.out.1 _)
          clear hw4
          have ho4 : (w4.alloc (.cells #[] 9)).ownsRow w4.heap.size 9 1 (.slice (some ⟨w4.heap.size, 0, none⟩) 0 0) 0 (([] : List ByteArray).map Value.string) := ⟨rfl, .inr ⟨w4.heap.size, 0, #[], rfl, Nat.le_refl _, blk_new w4 _, Nat.le_refl _, by decide, rfl, rfl⟩⟩
          have HR4 := Aside0.mk (R_of_str (l := []) ho4 (fun _ => True) (fun _ _ => trivial))
          have HB4 := Aside0.mk (below_alloc (Below.refl w4.heap.size w4) (.cells #[] 9))
          have HC04 := Aside0.mk (Kd.C_below HC0.out (HW4.out.trans (HB4.out.mono HW4.out.size)))
          clear ho4
          go_wp2_with ((with_reducible refine gate_builtin (b := .append) (xs := #[.tmp 77, .tmp 78]) rfl ?_); (try (refine gate_guard (by rfl) ?_; dsimp only)); at_builtin; refine Kd.R_append_rows Kd.string (w0 := w4) w4.heap.size rfl (.tmp 77) (.tmp 78) 23 9 (.string ⟨#[]⟩) 16 rfl Try.underlying23 info9 rfl (by decide) (by omega) (.slice (some ⟨w4.heap.size, 0, none⟩) 0 0) [] l _ _ _ (fun _ => True) (fun _ => False) rfl rfl HR4.out HC04.out (fun _ _ h => h) (fun _ h => h.elim) (fun _ _ => trivial) HB4.out HB4.out.size ?aL ?_)
          case aL => simp; omega
          intro v5 w5 hR5 hb5 _ _
          try rw [List.nil_append] at hR5
          have HR5 := Aside0.mk hR5
          have HB5 := Aside0.mk hb5
          clear hR5 hb5 HR4 HB4 HC04
          go_wp2_with ((with_reducible refine gate_builtin (b := .append) (xs := #[.tmp 79, .tmp 81]) rfl ?_); (try (refine gate_guard (by rfl) ?_; dsimp only)); at_builtin; refine Kd.R_append Kd.string (w0 := w4) w4.heap.size rfl (.tmp 79) (.tmp 81) 23 9 (.string ⟨#[]⟩) 16 rfl Try.underlying23 info9 rfl (by decide) (by omega) v5 l t [.string t] (fun _ => True) (fun _ => False) rfl rfl rfl (fun _ hk => hk.elim) (fun _ _ => trivial) HR5.out HB5.out HB5.out.size ?aL ?_)
          case aL => omega
          intro v6 w6 hR6 hb6 _ _
          obtain ⟨A6, k6, rfl, hC6, hl6⟩ := C_of_R hR6
          have HW6 := Aside0.mk (HW4.out.trans (hb6.mono HW4.out.size))
          have hC26 := Kd.C_below HC24.out hb6
          have hln : (l ++ [t]).length = l.length + 1 := by simp
          rw [hln] at hC6 hl6 ⊢
          have hS2 := truceref23_Same.calls 1000 A2 k2 (l ++ [t]) A6 k6 (l ++ [t]) true w6 (by rw [hln]; exact hC26) (by rw [hln]; exact HR2.out.2) (by rw [hln]; exact hC6) (by rw [hln]; exact hl6) (same_refl _ (by rw [hln]; omega) 1000 (by rw [hln]; omega))
          rw [hln] at hS2
          have HS2 := Aside0.mk hS2
          clear hR6 hb6 hC6 hl6 hC26 hln hS2
          go_wp2_with fail
          refine HS2.out.mono ?_
          rintro e w7 ⟨rfl, ⟨nd2, hw7⟩⟩
          have HW7 := Aside0.mk (show Below w.heap.size w w7 by rw [hw7]; exact pw_below_drewN HW6.out _)
          clear hw7
          go_wp2_with fail
          refine (HAW.out _).mono ?_
          rintro e w8 ⟨rfl, hb⟩
          have HW8 := Aside0.mk (below_step HW7.out hb)
          clear hb
          go_wp2_with fail
          exact bodyPost_ret (v := .bool true) (by simp [results, Try.results4, go_sem]) rfl ⟨rfl, HW8.out⟩
    · have d2 : ((t.size : Nat) : Int) > 2000 := by omega
      go_enter Try.func4, Try.ntmps4
      go_wp2_with fail
      refine (HAW.out _).mono ?_
      rintro e w1 ⟨rfl, hb⟩
      have HW1 := Aside0.mk hb
      clear hb
      go_wp2_with fail
      exact bodyPost_ret (v := .bool true) (by simp [results, Try.results4, go_sem]) rfl ⟨rfl, HW1.out⟩
  · have d1 : ((l.length : Nat) : Int) > 30 := by omega
    go_enter Try.func4, Try.ntmps4
    go_wp2_with fail
    refine (HAW.out _).mono ?_
    rintro e w1 ⟨rfl, hb⟩
    have HW1 := Aside0.mk hb
    clear hb
    go_wp2_with fail
    exact bodyPost_ret (v := .bool true) (by simp [results, Try.results4, go_sem]) rfl ⟨rfl, HW1.out⟩
end Go.Proofs.Ytkpflejagagcbaa.P

namespace Go.Proofs.Ytkpflejagagcbaa.P
set_option linter.unusedSectionVars false
set_option linter.unusedSimpArgs false
open Go.ChangeShapes Go.WideShapes Go.ChangeAt Go.RowKit Go.Joins Go.Deep Go.Proofs.YtkpflejagagcbaaW.PrintWords
/-! Parameters opened: rows, and numbers of four words. -/
section
variable {H : Type} {enc : TypeId × Value → H} {W : World} {base : Nat} {spare : Nat → Bool} {held : Bool} {d : DataW H} {p : List MemPlace}
/-- A row of whatever elements. -/
theorem open_rowC {α : Type} {k : Kd α} {P : Program} {t e : TypeId} {v : Value} {b0 : Nat} {r : Reach} (ok : α → Prop) (ht : P.underlying t = some (.slice e)) (hc : P.cellsOf e = k.sz)
    (hel : ∀ n cs x, cs.length = k.sz → DataW.trod enc P W base spare held n e cs = some x → ∃ a, ok a ∧ k.K W a cs)
    (hv : Value.okWide P W r b0 t v) (h : DataW.Trod enc P W base spare held t v d p) : ∃ (l : List α) (A : Option Addr) (c : Nat), v = .slice A l.length c ∧ l.length ≤ c ∧ k.C W A l.length l ∧ ∀ a ∈ l, ok a := by
  obtain ⟨a0, len0, cap0, rfl⟩ := okWide_slice ht hv
  obtain ⟨fuel, hf⟩ := h
  rcases open_slice ht hf with ⟨hcs, _⟩ | ⟨a, len, cap, m, n, D, Pl, hcs, _, hl, hcap, hm, _, hx⟩
  · simp only [Value.cells, List.cons.injEq, and_true] at hcs
    exact ⟨[], none, 0, hcs, Nat.le_refl _, Kd.C_nil k W, fun a ha => by simp at ha⟩
  · have hv' : Value.slice a0 len0 cap0 = .slice (some a) len cap := by simpa [Value.cells] using hcs
    have hlm : len ≤ m := by rw [hm]; split <;> omega
    have hone : ∀ i : Fin len, ∃ x, ok x ∧ ∃ cs, cs.length = k.sz ∧ k.K W x cs ∧ ∀ j u, cs[j]? = some u → W.cell? (a.add (i * k.sz + j)) = some u := by
      intro i
      obtain ⟨cs, h1, h2⟩ := hx i (by omega)
      obtain ⟨_, hlen, hcell⟩ := World.cells?_some h1
      rw [hc] at hlen hcell
      obtain ⟨x, hok, hK⟩ := hel _ _ _ hlen h2
      refine ⟨x, hok, cs, hlen, hK, fun j u hj => ?_⟩
      have hjl := (List.getElem?_eq_some_iff.1 hj).1
      rw [← Go.Deep.add_add, hcell j (by omega), hj]
    obtain ⟨f, hf'⟩ := Classical.axiomOfChoice hone
    have hll : (List.ofFn f).length = len := List.length_ofFn
    refine ⟨List.ofFn f, some a, cap, by rw [hv', hll], by omega, ?_, ?_⟩
    · refine ⟨rfl, ?_, fun _ => ⟨a, rfl, fun j x hj => ?_⟩⟩
      · rw [hll]
        have : cap ≤ 9223372036854775807 := hcap
        omega
      · have hjl := (List.getElem?_eq_some_iff.1 hj).1
        rw [hll] at hjl
        have hx' : f ⟨j, hjl⟩ = x := by
          have := (List.getElem?_eq_some_iff.1 hj).2
          simpa using this
        obtain ⟨_, cs, h1, h2, h3⟩ := hf' ⟨j, hjl⟩
        rw [hx'] at h2
        exact ⟨cs, h1, h2, h3⟩
    · intro x hx'
      obtain ⟨i, rfl⟩ := List.mem_ofFn.1 hx'
      exact (hf' i).1
theorem open_texts {v : Value} {b0 : Nat} {r : Reach} (hv : Value.okWide Try.prog W r b0 23 v) (h : DataW.Trod enc Try.prog W base spare held 23 v d p) : ∃ (l : List ByteArray) (A : Option Addr) (c : Nat), v = .slice A l.length c ∧ l.length ≤ c ∧ Kd.string.C W A l.length l ∧ ∀ a ∈ l, True :=
  open_rowC (fun _ => True) Try.underlying23 (by kernel_rfl) (fun n cs x hl hx => by
    obtain ⟨s, e, _, _⟩ := DataW.trod_string Try.underlying9 hx
    exact ⟨s, trivial, e⟩) hv h
end
end Go.Proofs.Ytkpflejagagcbaa.P
