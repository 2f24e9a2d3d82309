import Derived.Test.YtnedmaddjikmkaaWs
import Derived.Laws.Externs
import Derived.Outline
import Derived.Deep.QuietTactic
import Derived.BigQuiet
import Derived.BigRegion
import Derived.StillTailTactics
namespace Go.Proofs.Ytnedmaddjikmkaa.P
set_option linter.unusedVariables false
set_option linter.unusedSimpArgs false
open Go.RowKit Go.Proofs.YtnedmaddjikmkaaW.PrintWords
theorem run_add (x y : W64) (c : Nat) (hc : c ≤ 1) (W : World) : (callFunc 28 #[.int .u64 (vw x), .int .u64 (vw y), .int .u64 (c : Int)]).run Try.prog W =
    .ok (.value (.tuple #[.int .u64 (vw (BitVec.ofNat 64 (x.toNat + y.toNat + c))), .int .u64 (((x.toNat + y.toNat + c) / 18446744073709551616 : Nat) : Int)])) W := by
  have hx := x.isLt
  have hy := y.isLt
  rw [run_callFunc_extern Try.func28 (by kernel_rfl) (by kernel_rfl) (by kernel_rfl) (e := add64Entry) (by kernel_rfl), run_add64 _ _ _ (vw_lo x) (vw_lo y) (by omega) (by omega)]
  simp only [Result.andThen]
  unfold vw
  rw [BitVec.toNat_ofNat]
  congr 5
def sub64Entry : Array Value → Sem Value := fun args => do
  let (x, y, b) ← Extern.MathBitsCarry.three "Sub64" args
  pure (Extern.MathBitsCarry.pair ((x + Extern.MathBitsCarry.m64 - y - b) % Extern.MathBitsCarry.m64) (if x < y + b then 1 else 0))
theorem run_sub64 {P : Program} (x y b : Nat) (hb : b ≤ 1) (w : World) :
    (sub64Entry #[.int .u64 x, .int .u64 y, .int .u64 b]).run P w =
      .ok (.tuple #[.int .u64 (((x + 18446744073709551616 - y - b) % 18446744073709551616 : Nat) : Int), .int .u64 ((if x < y + b then 1 else 0 : Nat) : Int)]) w := by
  have : b = 0 ∨ b = 1 := by omega
  rcases this with rfl | rfl <;> rfl
theorem run_sub (x y : W64) (c : Nat) (hc : c ≤ 1) (W : World) : (callFunc 29 #[.int .u64 (vw x), .int .u64 (vw y), .int .u64 (c : Int)]).run Try.prog W =
    .ok (.value (.tuple #[.int .u64 (vw (BitVec.ofNat 64 (x.toNat + 18446744073709551616 - y.toNat - c))), .int .u64 ((if x.toNat < y.toNat + c then 1 else 0 : Nat) : Int)])) W := by
  rw [run_callFunc_extern Try.func29 (by kernel_rfl) (by kernel_rfl) (by kernel_rfl) (e := sub64Entry) (by kernel_rfl)]
  unfold vw
  rw [run_sub64 _ _ _ hc]
  simp only [Result.andThen]
  rw [BitVec.toNat_ofNat]
/-- The sum's parts, from the lowest on, and what is carried. -/
def addk (A B : List W64) : Nat → List W64 × Nat
  | 0 => (A, 0)
  | k + 1 => ((addk A B k).1.set k (BitVec.ofNat 64 ((gw (addk A B k).1 k).toNat + (gw B k).toNat + (addk A B k).2)), ((gw (addk A B k).1 k).toNat + (gw B k).toNat + (addk A B k).2) / 18446744073709551616)
def subk (A B : List W64) : Nat → List W64 × Nat
  | 0 => (A, 0)
  | k + 1 => ((subk A B k).1.set k (BitVec.ofNat 64 ((gw (subk A B k).1 k).toNat + 18446744073709551616 - (gw B k).toNat - (subk A B k).2)), if (gw (subk A B k).1 k).toNat < (gw B k).toNat + (subk A B k).2 then 1 else 0)
theorem addk_len (A B : List W64) (k : Nat) : (addk A B k).1.length = A.length := by induction k with | zero => rfl | succ k ih => rw [addk, List.length_set, ih]
theorem subk_len (A B : List W64) (k : Nat) : (subk A B k).1.length = A.length := by induction k with | zero => rfl | succ k ih => rw [subk, List.length_set, ih]
theorem addk_c (A B : List W64) (k : Nat) : (addk A B k).2 ≤ 1 := by
  induction k with
  | zero => exact Nat.zero_le _
  | succ k ih =>
    have h1 := (gw (addk A B k).1 k).isLt
    have h2 := (gw B k).isLt
    rw [addk]
    show _ / _ ≤ 1
    omega
theorem subk_c (A B : List W64) (k : Nat) : (subk A B k).2 ≤ 1 := by
  induction k with
  | zero => exact Nat.zero_le _
  | succ k ih => rw [subk]; show (if _ then _ else _) ≤ _; split <;> omega
theorem zeros4 : #[Value.int .u64 0, .int .u64 0, .int .u64 0, .int .u64 0] = ws (List.replicate 4 0) := by rfl
theorem results_two {P : Program} {fn : Func} {p q : Tmp} {ty : TypeId} (h : fn.results = #[.cell p ty, .tmp q]) (tmps : Array Value) (w : World) (g : Nat) (t : TypeId) (cs : Array Value) (d : TypeDesc) (v : Value)
    (hp : tmps.getD p undef = .pointer (some ⟨g, 0, none⟩)) (hq : tmps.getD q undef = v) (hg : w.heap[g]? = some (.cells cs t (0, 0)))
    (hu : P.underlying ty = some d) (hd : (match d with | .struct _ | .array _ _ => true | _ => false) = true) (hi : (P.info? ty).map (·.size) = some cs.size) :
    (results fn tmps).run P w = .ok (.tuple #[.agg cs, v]) w := by
  have hp' : tmps[p]?.getD undef = .pointer (some ⟨g, 0, none⟩) := by simpa using hp
  have hq' : tmps[q]?.getD undef = v := by simpa using hq
  simp [results, h, hp', hq', asAddr, run_loadVar_row w g t ty cs (0, 0) d hg hu hd hi]
set_option maxHeartbeats 2000000 in
theorem radd_any (A B : List W64) (hA : A.length = 4) (hB : B.length = 4) (w : World) :
    Calls Try.prog 16 #[.agg (ws A), .agg (ws B)] w fun e w' => e = .returned (.tuple #[.agg (ws (addk A B 4).1), .bool (decide ((addk A B 4).2 > 0))]) ∧ Below w.heap.size w w' := by
  have HL := Aside0.mk (And.intro hA hB)
  have hi : (Try.prog.info? 25).map (·.size) = some 4 := by kernel_rfl
  have Hi := Aside0.mk hi
  have hst : ∀ k, addk A B (k + 1) = ((addk A B k).1.set k (BitVec.ofNat 64 ((gw (addk A B k).1 k).toNat + (gw B k).toNat + (addk A B k).2)), ((gw (addk A B k).1 k).toNat + (gw B k).toNat + (addk A B k).2) / 18446744073709551616) := fun k => rfl
  have HST := Aside0.mk hst
  clear hi hA hB hst
  go_enter Try.func16, Try.ntmps16
  go_wp2_with fail
  have T := three w (.cells (ws A) 25) (.cells (ws B) 25) (.cells (ws (List.replicate 4 0)) 25)
  rw [← zeros4] at T
  have HA := Aside0.mk (show Holds _ _ 25 (addk A B 0).1 from T.1)
  have HB := Aside0.mk (show Holds _ _ 25 B from T.2.1)
  have HZ := Aside0.mk (show Holds _ _ 25 (List.replicate 4 0) from T.2.2.1)
  have HW := Aside0.mk T.2.2.2
  clear T
  go_loopw [6, 7] (fun c i wr => ∃ k : Nat, k ≤ 4 ∧ i = .int .i64 k ∧ c = .int .u64 ((addk A B k).2 : Nat) ∧ Holds wr w.heap.size 25 (addk A B k).1 ∧ Holds wr (w.heap.size + 1) 25 B ∧ Holds wr (w.heap.size + 1 + 1) 25 (List.replicate 4 0) ∧ Below w.heap.size w wr) (fun c i _ => 4 - (intOf i).toNat)
  case atStart => exact ⟨0, by omega, rfl, rfl, HA.out, HB.out, HZ.out, HW.out⟩
  case round =>
    clear HA HB HZ HW
    obtain ⟨k, hk, rfl, rfl, ha, hb, hz, hw⟩ := hrel
    have HA := Aside0.mk ha
    have HB := Aside0.mk hb
    have HZ := Aside0.mk hz
    have HW := Aside0.mk hw
    clear ha hb hz hw
    by_cases hlt : k < 4
    · have hl := addk_len A B k
      rw [HL.out.1] at hl
      have hc := addk_c A B k
      have hs := HST.out k
      generalize addk A B k = S at *
      obtain ⟨L, c⟩ := S
      simp only at *
      have HLL := Aside0.mk hl
      have c0 := HA.out.cell k (by rw [HLL.out]; omega)
      have c1 := HA.out.free k
      have c2 := HB.out.cell k (by rw [HL.out.2]; omega)
      have ha := run_add (gw L k) (gw B k) c hc
      generalize (BitVec.toNat (gw L k) + BitVec.toNat (gw B k) + c) / 18446744073709551616 = c' at *
      generalize BitVec.ofNat 64 _ = v at *
      have HS := Aside0.mk hs
      clear hs hl
      go_wp2
      go_quiet (fail)
      have HA1 := Aside0.mk (HA.out.drewN nq)
      have HB1 := Aside0.mk (HB.out.drewN nq)
      have HZ1 := Aside0.mk (HZ.out.drewN nq)
      have HW1 := Aside0.mk (pw_below_drewN HW.out nq)
      clear c0 c1 c2 ha HA HB HZ HW
      generalize wr.drewN nq = w1 at *
      have c1 := HA1.out.free k
      have c0 := HA1.out.cell k (by rw [HLL.out]; omega)
      go_wp2
      refine ⟨⟨k + 1, by omega, by go_num, by rw [HS.out], by rw [HS.out]; exact HA1.out.set k _, HB1.out.far (by show w.heap.size + 1 ≠ w.heap.size; omega) _, HZ1.out.far (by show w.heap.size + 1 + 1 ≠ w.heap.size; omega) _, below_set HW1.out (Nat.le_refl _)⟩, by simp [intOf]; omega⟩
    · obtain rfl : k = 4 := by omega
      have hl := addk_len A B 4
      rw [HL.out.1] at hl
      have hc := addk_c A B 4
      have hs : addk A B 4 = addk A B 4 := rfl
      generalize hS : addk A B 4 = S at *
      obtain ⟨L, c⟩ := S
      simp only at *
      have HLL := Aside0.mk hl
      clear hl hs hlt hk
      have HSE := Aside0.mk hS
      clear hS
      rw [show ((4 : Nat) : Int) = 4 from rfl]
      go_wp2_with (first | (refine load_ws rfl 25 _ rfl w.heap.size rfl 25 L 4 _ HA.out HLL.out Try.underlying25 rfl Hi.out ?_) | (refine store_ws rfl 25 _ _ rfl (w.heap.size + 1 + 1) rfl 25 (List.replicate 4 0) L 4 rfl HZ.out (by simp) HLL.out Hi.out ?_; intro w1 hR hB hF hS; have HR1 := Aside0.mk hR; have HB1 := Aside0.mk hB; clear hR hB hF hS))
      refine bodyPost_ret (v := .tuple #[.agg (ws L), .bool (decide (c > 0))]) (results_two rfl _ _ (w.heap.size + 1 + 1) 25 (ws L) _ _ (by rfl) ?_ HR1.out Try.underlying25 rfl (by rw [Hi.out, ws_size, HLL.out])) rfl ⟨by rw [HSE.out], HW.out.trans (HB1.out _ (by omega))⟩
      first | rfl | (simp; done) | (have := hc; simp; omega)
set_option maxHeartbeats 2000000 in
theorem rsub_any (A B : List W64) (hA : A.length = 4) (hB : B.length = 4) (w : World) :
    Calls Try.prog 18 #[.agg (ws A), .agg (ws B)] w fun e w' => e = .returned (.tuple #[.agg (ws (subk A B 4).1), .bool (decide ((subk A B 4).2 > 0))]) ∧ Below w.heap.size w w' := by
  have HL := Aside0.mk (And.intro hA hB)
  have hi : (Try.prog.info? 25).map (·.size) = some 4 := by kernel_rfl
  have Hi := Aside0.mk hi
  have hst : ∀ k, subk A B (k + 1) = ((subk A B k).1.set k (BitVec.ofNat 64 ((gw (subk A B k).1 k).toNat + 18446744073709551616 - (gw B k).toNat - (subk A B k).2)), if (gw (subk A B k).1 k).toNat < (gw B k).toNat + (subk A B k).2 then 1 else 0) := fun k => rfl
  have HST := Aside0.mk hst
  clear hi hA hB hst
  go_enter Try.func18, Try.ntmps18
  go_wp2_with fail
  have T := three w (.cells (ws A) 25) (.cells (ws B) 25) (.cells (ws (List.replicate 4 0)) 25)
  rw [← zeros4] at T
  have HA := Aside0.mk (show Holds _ _ 25 (subk A B 0).1 from T.1)
  have HB := Aside0.mk (show Holds _ _ 25 B from T.2.1)
  have HZ := Aside0.mk (show Holds _ _ 25 (List.replicate 4 0) from T.2.2.1)
  have HW := Aside0.mk T.2.2.2
  clear T
  go_loopw [6, 7] (fun c i wr => ∃ k : Nat, k ≤ 4 ∧ i = .int .i64 k ∧ c = .int .u64 ((subk A B k).2 : Nat) ∧ Holds wr w.heap.size 25 (subk A B k).1 ∧ Holds wr (w.heap.size + 1) 25 B ∧ Holds wr (w.heap.size + 1 + 1) 25 (List.replicate 4 0) ∧ Below w.heap.size w wr) (fun c i _ => 4 - (intOf i).toNat)
  case atStart => exact ⟨0, by omega, rfl, rfl, HA.out, HB.out, HZ.out, HW.out⟩
  case round =>
    clear HA HB HZ HW
    obtain ⟨k, hk, rfl, rfl, ha, hb, hz, hw⟩ := hrel
    have HA := Aside0.mk ha
    have HB := Aside0.mk hb
    have HZ := Aside0.mk hz
    have HW := Aside0.mk hw
    clear ha hb hz hw
    by_cases hlt : k < 4
    · have hl := subk_len A B k
      rw [HL.out.1] at hl
      have hc := subk_c A B k
      have hs := HST.out k
      generalize subk A B k = S at *
      obtain ⟨L, c⟩ := S
      simp only at *
      have HLL := Aside0.mk hl
      have c0 := HA.out.cell k (by rw [HLL.out]; omega)
      have c1 := HA.out.free k
      have c2 := HB.out.cell k (by rw [HL.out.2]; omega)
      have ha := run_sub (gw L k) (gw B k) c hc
      generalize (if BitVec.toNat (gw L k) < BitVec.toNat (gw B k) + c then 1 else 0) = c' at *
      generalize BitVec.ofNat 64 _ = v at *
      have HS := Aside0.mk hs
      clear hs hl
      go_wp2
      go_quiet (fail)
      have HA1 := Aside0.mk (HA.out.drewN nq)
      have HB1 := Aside0.mk (HB.out.drewN nq)
      have HZ1 := Aside0.mk (HZ.out.drewN nq)
      have HW1 := Aside0.mk (pw_below_drewN HW.out nq)
      clear c0 c1 c2 ha HA HB HZ HW
      generalize wr.drewN nq = w1 at *
      have c1 := HA1.out.free k
      have c0 := HA1.out.cell k (by rw [HLL.out]; omega)
      go_wp2
      refine ⟨⟨k + 1, by omega, by go_num, by rw [HS.out], by rw [HS.out]; exact HA1.out.set k _, HB1.out.far (by show w.heap.size + 1 ≠ w.heap.size; omega) _, HZ1.out.far (by show w.heap.size + 1 + 1 ≠ w.heap.size; omega) _, below_set HW1.out (Nat.le_refl _)⟩, by simp [intOf]; omega⟩
    · obtain rfl : k = 4 := by omega
      have hl := subk_len A B 4
      rw [HL.out.1] at hl
      have hc := subk_c A B 4
      have hs : subk A B 4 = subk A B 4 := rfl
      generalize hS : subk A B 4 = S at *
      obtain ⟨L, c⟩ := S
      simp only at *
      have HLL := Aside0.mk hl
      clear hl hs hlt hk
      have HSE := Aside0.mk hS
      clear hS
      rw [show ((4 : Nat) : Int) = 4 from rfl]
      go_wp2_with (first | (refine load_ws rfl 25 _ rfl w.heap.size rfl 25 L 4 _ HA.out HLL.out Try.underlying25 rfl Hi.out ?_) | (refine store_ws rfl 25 _ _ rfl (w.heap.size + 1 + 1) rfl 25 (List.replicate 4 0) L 4 rfl HZ.out (by simp) HLL.out Hi.out ?_; intro w1 hR hB hF hS; have HR1 := Aside0.mk hR; have HB1 := Aside0.mk hB; clear hR hB hF hS))
      refine bodyPost_ret (v := .tuple #[.agg (ws L), .bool (decide (c > 0))]) (results_two rfl _ _ (w.heap.size + 1 + 1) 25 (ws L) _ _ (by rfl) ?_ HR1.out Try.underlying25 rfl (by rw [Hi.out, ws_size, HLL.out])) rfl ⟨by rw [HSE.out], HW.out.trans (HB1.out _ (by omega))⟩
      first | rfl | (simp; done) | (have := hc; simp; omega)
set_option maxHeartbeats 2000000 in
theorem sub_any (A B : List W64) (hA : A.length = 4) (hB : B.length = 4) (w : World) :
    Calls Try.prog 27 #[.agg (ws A), .agg (ws B)] w fun e w' => e = .returned (.tuple #[.agg (ws (subk A B 4).1), .bool (decide ((subk A B 4).2 = 1))]) ∧ Below w.heap.size w w' := by
  have HL := Aside0.mk (And.intro hA hB)
  have hi : (Try.prog.info? 25).map (·.size) = some 4 := by kernel_rfl
  have Hi := Aside0.mk hi
  have hst : ∀ k, subk A B (k + 1) = ((subk A B k).1.set k (BitVec.ofNat 64 ((gw (subk A B k).1 k).toNat + 18446744073709551616 - (gw B k).toNat - (subk A B k).2)), if (gw (subk A B k).1 k).toNat < (gw B k).toNat + (subk A B k).2 then 1 else 0) := fun k => rfl
  have HST := Aside0.mk hst
  clear hi hA hB hst
  go_enter Try.func27, Try.ntmps27
  go_wp2_with fail
  have T := three w (.cells (ws A) 25) (.cells (ws B) 25) (.cells (ws (List.replicate 4 0)) 25)
  rw [← zeros4] at T
  have HA := Aside0.mk (show Holds _ _ 25 (subk A B 0).1 from T.1)
  have HB := Aside0.mk (show Holds _ _ 25 B from T.2.1)
  have HZ := Aside0.mk (show Holds _ _ 25 (List.replicate 4 0) from T.2.2.1)
  have HW := Aside0.mk T.2.2.2
  clear T
  go_loopw [6, 8] (fun c i wr => ∃ k : Nat, k ≤ 4 ∧ i = .int .i64 k ∧ c = .int .u64 ((subk A B k).2 : Nat) ∧ Holds wr w.heap.size 25 (subk A B k).1 ∧ Holds wr (w.heap.size + 1) 25 B ∧ Holds wr (w.heap.size + 1 + 1) 25 (List.replicate 4 0) ∧ Below w.heap.size w wr) (fun c i _ => 4 - (intOf i).toNat)
  case atStart => exact ⟨0, by omega, rfl, rfl, HA.out, HB.out, HZ.out, HW.out⟩
  case round =>
    clear HA HB HZ HW
    obtain ⟨k, hk, rfl, rfl, ha, hb, hz, hw⟩ := hrel
    have HA := Aside0.mk ha
    have HB := Aside0.mk hb
    have HZ := Aside0.mk hz
    have HW := Aside0.mk hw
    clear ha hb hz hw
    by_cases hlt : k < 4
    · have hl := subk_len A B k
      rw [HL.out.1] at hl
      have hc := subk_c A B k
      have hs := HST.out k
      generalize subk A B k = S at *
      obtain ⟨L, c⟩ := S
      simp only at *
      have HLL := Aside0.mk hl
      have c0 := HA.out.cell k (by rw [HLL.out]; omega)
      have c1 := HA.out.free k
      have c2 := HB.out.cell k (by rw [HL.out.2]; omega)
      have ha := run_sub (gw L k) (gw B k) c hc
      generalize (if BitVec.toNat (gw L k) < BitVec.toNat (gw B k) + c then 1 else 0) = c' at *
      generalize BitVec.ofNat 64 _ = v at *
      have HS := Aside0.mk hs
      clear hs hl
      have i4 : (k : Int) < 4 := by omega
      go_wp2
      go_region
      clear c0 c2 ha
      go_wp2
      refine ⟨⟨k + 1, by omega, by go_num, by rw [HS.out], by rw [HS.out]; exact (HA.out.set k _).drewN 1, (HB.out.far (by show w.heap.size + 1 ≠ w.heap.size; omega) _).drewN 1, (HZ.out.far (by show w.heap.size + 1 + 1 ≠ w.heap.size; omega) _).drewN 1, below_drew1 (below_set HW.out (Nat.le_refl _))⟩, by simp [intOf]; omega⟩
    · obtain rfl : k = 4 := by omega
      have hl := subk_len A B 4
      rw [HL.out.1] at hl
      have hc := subk_c A B 4
      have hs : subk A B 4 = subk A B 4 := rfl
      generalize hS : subk A B 4 = S at *
      obtain ⟨L, c⟩ := S
      simp only at *
      have HLL := Aside0.mk hl
      clear hl hs hlt hk
      have HSE := Aside0.mk hS
      clear hS
      rw [show ((4 : Nat) : Int) = 4 from rfl]
      go_wp2_with (first | (refine load_ws rfl 25 _ rfl w.heap.size rfl 25 L 4 _ HA.out HLL.out Try.underlying25 rfl Hi.out ?_) | (refine store_ws rfl 25 _ _ rfl (w.heap.size + 1 + 1) rfl 25 (List.replicate 4 0) L 4 rfl HZ.out (by simp) HLL.out Hi.out ?_; intro w1 hR hB hF hS; have HR1 := Aside0.mk hR; have HB1 := Aside0.mk hB; clear hR hB hF hS))
      refine bodyPost_ret (v := .tuple #[.agg (ws L), .bool (decide (c = 1))]) (results_two rfl _ _ (w.heap.size + 1 + 1) 25 (ws L) _ _ (by rfl) ?_ HR1.out Try.underlying25 rfl (by rw [Hi.out, ws_size, HLL.out])) rfl ⟨by rw [HSE.out], HW.out.trans (HB1.out _ (by omega))⟩
      show Value.bool ((c : Int) == 1) = Value.bool (decide (c = 1)); congr 1; rw [Bool.eq_iff_iff, beq_iff_eq, decide_eq_true_iff]; omega
set_option maxHeartbeats 2000000 in
theorem add_any (A B : List W64) (hA : A.length = 4) (hB : B.length = 4) (w : World) :
    Calls Try.prog 24 #[.agg (ws A), .agg (ws B)] w fun e w' => e = .returned (.tuple #[.agg (ws (addk A B 4).1), .bool (decide ((addk A B 4).2 = 1))]) ∧ Below w.heap.size w w' := by
  have HL := Aside0.mk (And.intro hA hB)
  have hi : (Try.prog.info? 25).map (·.size) = some 4 := by kernel_rfl
  have Hi := Aside0.mk hi
  have hst : ∀ k, addk A B (k + 1) = ((addk A B k).1.set k (BitVec.ofNat 64 ((gw (addk A B k).1 k).toNat + (gw B k).toNat + (addk A B k).2)), ((gw (addk A B k).1 k).toNat + (gw B k).toNat + (addk A B k).2) / 18446744073709551616) := fun k => rfl
  have HST := Aside0.mk hst
  clear hi hA hB hst
  go_enter Try.func24, Try.ntmps24
  go_wp2_with fail
  have T := three w (.cells (ws A) 25) (.cells (ws B) 25) (.cells (ws (List.replicate 4 0)) 25)
  rw [← zeros4] at T
  have HA := Aside0.mk (show Holds _ _ 25 (addk A B 0).1 from T.1)
  have HB := Aside0.mk (show Holds _ _ 25 B from T.2.1)
  have HZ := Aside0.mk (show Holds _ _ 25 (List.replicate 4 0) from T.2.2.1)
  have HW := Aside0.mk T.2.2.2
  clear T
  go_loopw [6, 8] (fun c i wr => ∃ k : Nat, k ≤ 4 ∧ i = .int .i64 k ∧ c = .int .u64 ((addk A B k).2 : Nat) ∧ Holds wr w.heap.size 25 (addk A B k).1 ∧ Holds wr (w.heap.size + 1) 25 B ∧ Holds wr (w.heap.size + 1 + 1) 25 (List.replicate 4 0) ∧ Below w.heap.size w wr) (fun c i _ => 4 - (intOf i).toNat)
  case atStart => exact ⟨0, by omega, rfl, rfl, HA.out, HB.out, HZ.out, HW.out⟩
  case round =>
    clear HA HB HZ HW
    obtain ⟨k, hk, rfl, rfl, ha, hb, hz, hw⟩ := hrel
    have HA := Aside0.mk ha
    have HB := Aside0.mk hb
    have HZ := Aside0.mk hz
    have HW := Aside0.mk hw
    clear ha hb hz hw
    by_cases hlt : k < 4
    · have hl := addk_len A B k
      rw [HL.out.1] at hl
      have hc := addk_c A B k
      have hs := HST.out k
      generalize addk A B k = S at *
      obtain ⟨L, c⟩ := S
      simp only at *
      have HLL := Aside0.mk hl
      have c0 := HA.out.cell k (by rw [HLL.out]; omega)
      have c1 := HA.out.free k
      have c2 := HB.out.cell k (by rw [HL.out.2]; omega)
      have ha := run_add (gw L k) (gw B k) c hc
      generalize (BitVec.toNat (gw L k) + BitVec.toNat (gw B k) + c) / 18446744073709551616 = c' at *
      generalize BitVec.ofNat 64 _ = v at *
      have HS := Aside0.mk hs
      clear hs hl
      have i4 : (k : Int) < 4 := by omega
      go_wp2
      go_region
      clear c0 c2 ha
      go_wp2
      refine ⟨⟨k + 1, by omega, by go_num, by rw [HS.out], by rw [HS.out]; exact (HA.out.set k _).drewN 1, (HB.out.far (by show w.heap.size + 1 ≠ w.heap.size; omega) _).drewN 1, (HZ.out.far (by show w.heap.size + 1 + 1 ≠ w.heap.size; omega) _).drewN 1, below_drew1 (below_set HW.out (Nat.le_refl _))⟩, by simp [intOf]; omega⟩
    · obtain rfl : k = 4 := by omega
      have hl := addk_len A B 4
      rw [HL.out.1] at hl
      have hc := addk_c A B 4
      have hs : addk A B 4 = addk A B 4 := rfl
      generalize hS : addk A B 4 = S at *
      obtain ⟨L, c⟩ := S
      simp only at *
      have HLL := Aside0.mk hl
      clear hl hs hlt hk
      have HSE := Aside0.mk hS
      clear hS
      rw [show ((4 : Nat) : Int) = 4 from rfl]
      go_wp2_with (first | (refine load_ws rfl 25 _ rfl w.heap.size rfl 25 L 4 _ HA.out HLL.out Try.underlying25 rfl Hi.out ?_) | (refine store_ws rfl 25 _ _ rfl (w.heap.size + 1 + 1) rfl 25 (List.replicate 4 0) L 4 rfl HZ.out (by simp) HLL.out Hi.out ?_; intro w1 hR hB hF hS; have HR1 := Aside0.mk hR; have HB1 := Aside0.mk hB; clear hR hB hF hS))
      refine bodyPost_ret (v := .tuple #[.agg (ws L), .bool (decide (c = 1))]) (results_two rfl _ _ (w.heap.size + 1 + 1) 25 (ws L) _ _ (by rfl) ?_ HR1.out Try.underlying25 rfl (by rw [Hi.out, ws_size, HLL.out])) rfl ⟨by rw [HSE.out], HW.out.trans (HB1.out _ (by omega))⟩
      show Value.bool ((c : Int) == 1) = Value.bool (decide (c = 1)); congr 1; rw [Bool.eq_iff_iff, beq_iff_eq, decide_eq_true_iff]; omega
end Go.Proofs.Ytnedmaddjikmkaa.P


