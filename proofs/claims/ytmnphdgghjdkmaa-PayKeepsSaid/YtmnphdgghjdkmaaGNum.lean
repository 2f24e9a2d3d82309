import Derived.Test.YtmnphdgghjdkmaaWs
import Derived.Laws.Externs
import Derived.Outline
import Derived.Deep.QuietTactic
import Derived.BigQuiet
import Derived.BigRegion
import Derived.StillTailTactics
namespace Go.Proofs.Ytmnphdgghjdkmaa.P
set_option linter.unusedVariables false
set_option linter.unusedSimpArgs false
open Go.RowKit Go.Proofs.YtmnphdgghjdkmaaW.PrintWords
theorem run_add (x y : W64) (c : Nat) (hc : c ≤ 1) (W : World) : (callFunc 25 #[.int .u64 (vw x), .int .u64 (vw y), .int .u64 (c : Int)]).run Try.prog W =
    .ok (.value (.tuple #[.int .u64 (vw (BitVec.ofNat 64 (x.toNat + y.toNat + c))), .int .u64 (((x.toNat + y.toNat + c) / 18446744073709551616 : Nat) : Int)])) W := by
  have hx := x.isLt
  have hy := y.isLt
  rw [run_callFunc_extern Try.func25 (by kernel_rfl) (by kernel_rfl) (by kernel_rfl) (e := add64Entry) (by kernel_rfl), run_add64 _ _ _ (vw_lo x) (vw_lo y) (by omega) (by omega)]
  simp only [Result.andThen]
  unfold vw
  rw [BitVec.toNat_ofNat]
  congr 5
def sub64Entry : Array Value → Sem Value := fun args => do
  let (x, y, b) ← Extern.MathBitsCarry.three "Sub64" args
  pure (Extern.MathBitsCarry.pair ((x + Extern.MathBitsCarry.m64 - y - b) % Extern.MathBitsCarry.m64) (if x < y + b then 1 else 0))
theorem run_sub64 {P : Program} (x y b : Nat) (hb : b ≤ 1) (w : World) :
    (sub64Entry #[.int .u64 x, .int .u64 y, .int .u64 b]).run P w =
      .ok (.tuple #[.int .u64 (((x + 18446744073709551616 - y - b) % 18446744073709551616 : Nat) : Int), .int .u64 ((if x < y + b then 1 else 0 : Nat) : Int)]) w := by
  have : b = 0 ∨ b = 1 := by omega
  rcases this with rfl | rfl <;> rfl
theorem run_sub (x y : W64) (c : Nat) (hc : c ≤ 1) (W : World) : (callFunc 31 #[.int .u64 (vw x), .int .u64 (vw y), .int .u64 (c : Int)]).run Try.prog W =
    .ok (.value (.tuple #[.int .u64 (vw (BitVec.ofNat 64 (x.toNat + 18446744073709551616 - y.toNat - c))), .int .u64 ((if x.toNat < y.toNat + c then 1 else 0 : Nat) : Int)])) W := by
  rw [run_callFunc_extern Try.func31 (by kernel_rfl) (by kernel_rfl) (by kernel_rfl) (e := sub64Entry) (by kernel_rfl)]
  unfold vw
  rw [run_sub64 _ _ _ hc]
  simp only [Result.andThen]
  rw [BitVec.toNat_ofNat]
/-- The sum's parts, from the lowest on, and what is carried. -/
def addk (A B : List W64) : Nat → List W64 × Nat
  | 0 => (A, 0)
  | k + 1 => ((addk A B k).1.set k (BitVec.ofNat 64 ((gw (addk A B k).1 k).toNat + (gw B k).toNat + (addk A B k).2)), ((gw (addk A B k).1 k).toNat + (gw B k).toNat + (addk A B k).2) / 18446744073709551616)
def subk (A B : List W64) : Nat → List W64 × Nat
  | 0 => (A, 0)
  | k + 1 => ((subk A B k).1.set k (BitVec.ofNat 64 ((gw (subk A B k).1 k).toNat + 18446744073709551616 - (gw B k).toNat - (subk A B k).2)), if (gw (subk A B k).1 k).toNat < (gw B k).toNat + (subk A B k).2 then 1 else 0)
theorem addk_len (A B : List W64) (k : Nat) : (addk A B k).1.length = A.length := by induction k with | zero => rfl | succ k ih => rw [addk, List.length_set, ih]
theorem subk_len (A B : List W64) (k : Nat) : (subk A B k).1.length = A.length := by induction k with | zero => rfl | succ k ih => rw [subk, List.length_set, ih]
theorem addk_c (A B : List W64) (k : Nat) : (addk A B k).2 ≤ 1 := by
  induction k with
  | zero => exact Nat.zero_le _
  | succ k ih =>
    have h1 := (gw (addk A B k).1 k).isLt
    have h2 := (gw B k).isLt
    rw [addk]
    show _ / _ ≤ 1
    omega
theorem subk_c (A B : List W64) (k : Nat) : (subk A B k).2 ≤ 1 := by
  induction k with
  | zero => exact Nat.zero_le _
  | succ k ih => rw [subk]; show (if _ then _ else _) ≤ _; split <;> omega
theorem zeros4 : #[Value.int .u64 0, .int .u64 0, .int .u64 0, .int .u64 0] = ws (List.replicate 4 0) := by rfl
theorem results_two {P : Program} {fn : Func} {p q : Tmp} {ty : TypeId} (h : fn.results = #[.cell p ty, .tmp q]) (tmps : Array Value) (w : World) (g : Nat) (t : TypeId) (cs : Array Value) (d : TypeDesc) (v : Value)
    (hp : tmps.getD p undef = .pointer (some ⟨g, 0, none⟩)) (hq : tmps.getD q undef = v) (hg : w.heap[g]? = some (.cells cs t (0, 0)))
    (hu : P.underlying ty = some d) (hd : (match d with | .struct _ | .array _ _ => true | _ => false) = true) (hi : (P.info? ty).map (·.size) = some cs.size) :
    (results fn tmps).run P w = .ok (.tuple #[.agg cs, v]) w := by
  have hp' : tmps[p]?.getD undef = .pointer (some ⟨g, 0, none⟩) := by simpa using hp
  have hq' : tmps[q]?.getD undef = v := by simpa using hq
  simp [results, h, hp', hq', asAddr, run_loadVar_row w g t ty cs (0, 0) d hg hu hd hi]
set_option maxHeartbeats 2000000 in
theorem radd_any (A B : List W64) (hA : A.length = 4) (hB : B.length = 4) (w : World) :
    Calls Try.prog 15 #[.agg (ws A), .agg (ws B)] w fun e w' => e = .returned (.tuple #[.agg (ws (addk A B 4).1), .bool (decide ((addk A B 4).2 > 0))]) ∧ Below w.heap.size w w' := by
  have HL := Aside0.mk (And.intro hA hB)
  have hi : (Try.prog.info? 24).map (·.size) = some 4 := by kernel_rfl
  have Hi := Aside0.mk hi
  have hst : ∀ k, addk A B (k + 1) = ((addk A B k).1.set k (BitVec.ofNat 64 ((gw (addk A B k).1 k).toNat + (gw B k).toNat + (addk A B k).2)), ((gw (addk A B k).1 k).toNat + (gw B k).toNat + (addk A B k).2) / 18446744073709551616) := fun k => rfl
  have HST := Aside0.mk hst
  clear hi hA hB hst
  go_enter Try.func15, Try.ntmps15
  go_wp2_with fail
  have T := three w (.cells (ws A) 24) (.cells (ws B) 24) (.cells (ws (List.replicate 4 0)) 24)
  rw [← zeros4] at T
  have HA := Aside0.mk (show Holds _ _ 24 (addk A B 0).1 from T.1)
  have HB := Aside0.mk (show Holds _ _ 24 B from T.2.1)
  have HZ := Aside0.mk (show Holds _ _ 24 (List.replicate 4 0) from T.2.2.1)
  have HW := Aside0.mk T.2.2.2
  clear T
  go_loopw [6, 7] (fun c i wr => ∃ k : Nat, k ≤ 4 ∧ i = .int .i64 k ∧ c = .int .u64 ((addk A B k).2 : Nat) ∧ Holds wr w.heap.size 24 (addk A B k).1 ∧ Holds wr (w.heap.size + 1) 24 B ∧ Holds wr (w.heap.size + 1 + 1) 24 (List.replicate 4 0) ∧ Below w.heap.size w wr) (fun c i _ => 4 - (intOf i).toNat)
  case atStart => exact ⟨0, by omega, rfl, rfl, HA.out, HB.out, HZ.out, HW.out⟩
  case round =>
    clear HA HB HZ HW
    obtain ⟨k, hk, rfl, rfl, ha, hb, hz, hw⟩ := hrel
    have HA := Aside0.mk ha
    have HB := Aside0.mk hb
    have HZ := Aside0.mk hz
    have HW := Aside0.mk hw
    clear ha hb hz hw
    by_cases hlt : k < 4
    · have hl := addk_len A B k
      rw [HL.out.1] at hl
      have hc := addk_c A B k
      have hs := HST.out k
      generalize addk A B k = S at *
      obtain ⟨L, c⟩ := S
      simp only at *
      have HLL := Aside0.mk hl
      have c0 := HA.out.cell k (by rw [HLL.out]; omega)
      have c1 := HA.out.free k
      have c2 := HB.out.cell k (by rw [HL.out.2]; omega)
      have ha := run_add (gw L k) (gw B k) c hc
      generalize (BitVec.toNat (gw L k) + BitVec.toNat (gw B k) + c) / 18446744073709551616 = c' at *
      generalize BitVec.ofNat 64 _ = v at *
      have HS := Aside0.mk hs
      clear hs hl
      go_wp2
      go_quiet (fail)
      have HA1 := Aside0.mk (HA.out.drewN nq)
      have HB1 := Aside0.mk (HB.out.drewN nq)
      have HZ1 := Aside0.mk (HZ.out.drewN nq)
      have HW1 := Aside0.mk (pw_below_drewN HW.out nq)
      clear c0 c1 c2 ha HA HB HZ HW
      generalize wr.drewN nq = w1 at *
      have c1 := HA1.out.free k
      have c0 := HA1.out.cell k (by rw [HLL.out]; omega)
      go_wp2
      refine ⟨⟨k + 1, by omega, by go_num, by rw [HS.out], by rw [HS.out]; exact HA1.out.set k _, HB1.out.far (by show w.heap.size + 1 ≠ w.heap.size; omega) _, HZ1.out.far (by show w.heap.size + 1 + 1 ≠ w.heap.size; omega) _, below_set HW1.out (Nat.le_refl _)⟩, by simp [intOf]; omega⟩
    · obtain rfl : k = 4 := by omega
      have hl := addk_len A B 4
      rw [HL.out.1] at hl
      have hc := addk_c A B 4
      have hs : addk A B 4 = addk A B 4 := rfl
      generalize hS : addk A B 4 = S at *
      obtain ⟨L, c⟩ := S
      simp only at *
      have HLL := Aside0.mk hl
      clear hl hs hlt hk
      have HSE := Aside0.mk hS
      clear hS
      rw [show ((4 : Nat) : Int) = 4 from rfl]
      go_wp2_with (first | (refine load_ws rfl 24 _ rfl w.heap.size rfl 24 L 4 _ HA.out HLL.out Try.underlying24 rfl Hi.out ?_) | (refine store_ws rfl 24 _ _ rfl (w.heap.size + 1 + 1) rfl 24 (List.replicate 4 0) L 4 rfl HZ.out (by simp) HLL.out Hi.out ?_; intro w1 hR hB hF hS; have HR1 := Aside0.mk hR; have HB1 := Aside0.mk hB; clear hR hB hF hS))
      refine bodyPost_ret (v := .tuple #[.agg (ws L), .bool (decide (c > 0))]) (results_two rfl _ _ (w.heap.size + 1 + 1) 24 (ws L) _ _ (by rfl) ?_ HR1.out Try.underlying24 rfl (by rw [Hi.out, ws_size, HLL.out])) rfl ⟨by rw [HSE.out], HW.out.trans (HB1.out _ (by omega))⟩
      first | rfl | (simp; done) | (have := hc; simp; omega)
set_option maxHeartbeats 2000000 in
theorem rsub_any (A B : List W64) (hA : A.length = 4) (hB : B.length = 4) (w : World) :
    Calls Try.prog 23 #[.agg (ws A), .agg (ws B)] w fun e w' => e = .returned (.tuple #[.agg (ws (subk A B 4).1), .bool (decide ((subk A B 4).2 > 0))]) ∧ Below w.heap.size w w' := by
  have HL := Aside0.mk (And.intro hA hB)
  have hi : (Try.prog.info? 24).map (·.size) = some 4 := by kernel_rfl
  have Hi := Aside0.mk hi
  have hst : ∀ k, subk A B (k + 1) = ((subk A B k).1.set k (BitVec.ofNat 64 ((gw (subk A B k).1 k).toNat + 18446744073709551616 - (gw B k).toNat - (subk A B k).2)), if (gw (subk A B k).1 k).toNat < (gw B k).toNat + (subk A B k).2 then 1 else 0) := fun k => rfl
  have HST := Aside0.mk hst
  clear hi hA hB hst
  go_enter Try.func23, Try.ntmps23
  go_wp2_with fail
  have T := three w (.cells (ws A) 24) (.cells (ws B) 24) (.cells (ws (List.replicate 4 0)) 24)
  rw [← zeros4] at T
  have HA := Aside0.mk (show Holds _ _ 24 (subk A B 0).1 from T.1)
  have HB := Aside0.mk (show Holds _ _ 24 B from T.2.1)
  have HZ := Aside0.mk (show Holds _ _ 24 (List.replicate 4 0) from T.2.2.1)
  have HW := Aside0.mk T.2.2.2
  clear T
  go_loopw [6, 7] (fun c i wr => ∃ k : Nat, k ≤ 4 ∧ i = .int .i64 k ∧ c = .int .u64 ((subk A B k).2 : Nat) ∧ Holds wr w.heap.size 24 (subk A B k).1 ∧ Holds wr (w.heap.size + 1) 24 B ∧ Holds wr (w.heap.size + 1 + 1) 24 (List.replicate 4 0) ∧ Below w.heap.size w wr) (fun c i _ => 4 - (intOf i).toNat)
  case atStart => exact ⟨0, by omega, rfl, rfl, HA.out, HB.out, HZ.out, HW.out⟩
  case round =>
    clear HA HB HZ HW
    obtain ⟨k, hk, rfl, rfl, ha, hb, hz, hw⟩ := hrel
    have HA := Aside0.mk ha
    have HB := Aside0.mk hb
    have HZ := Aside0.mk hz
    have HW := Aside0.mk hw
    clear ha hb hz hw
    by_cases hlt : k < 4
    · have hl := subk_len A B k
      rw [HL.out.1] at hl
      have hc := subk_c A B k
      have hs := HST.out k
      generalize subk A B k = S at *
      obtain ⟨L, c⟩ := S
      simp only at *
      have HLL := Aside0.mk hl
      have c0 := HA.out.cell k (by rw [HLL.out]; omega)
      have c1 := HA.out.free k
      have c2 := HB.out.cell k (by rw [HL.out.2]; omega)
      have ha := run_sub (gw L k) (gw B k) c hc
      generalize (if BitVec.toNat (gw L k) < BitVec.toNat (gw B k) + c then 1 else 0) = c' at *
      generalize BitVec.ofNat 64 _ = v at *
      have HS := Aside0.mk hs
      clear hs hl
      go_wp2
      go_quiet (fail)
      have HA1 := Aside0.mk (HA.out.drewN nq)
      have HB1 := Aside0.mk (HB.out.drewN nq)
      have HZ1 := Aside0.mk (HZ.out.drewN nq)
      have HW1 := Aside0.mk (pw_below_drewN HW.out nq)
      clear c0 c1 c2 ha HA HB HZ HW
      generalize wr.drewN nq = w1 at *
      have c1 := HA1.out.free k
      have c0 := HA1.out.cell k (by rw [HLL.out]; omega)
      go_wp2
      refine ⟨⟨k + 1, by omega, by go_num, by rw [HS.out], by rw [HS.out]; exact HA1.out.set k _, HB1.out.far (by show w.heap.size + 1 ≠ w.heap.size; omega) _, HZ1.out.far (by show w.heap.size + 1 + 1 ≠ w.heap.size; omega) _, below_set HW1.out (Nat.le_refl _)⟩, by simp [intOf]; omega⟩
    · obtain rfl : k = 4 := by omega
      have hl := subk_len A B 4
      rw [HL.out.1] at hl
      have hc := subk_c A B 4
      have hs : subk A B 4 = subk A B 4 := rfl
      generalize hS : subk A B 4 = S at *
      obtain ⟨L, c⟩ := S
      simp only at *
      have HLL := Aside0.mk hl
      clear hl hs hlt hk
      have HSE := Aside0.mk hS
      clear hS
      rw [show ((4 : Nat) : Int) = 4 from rfl]
      go_wp2_with (first | (refine load_ws rfl 24 _ rfl w.heap.size rfl 24 L 4 _ HA.out HLL.out Try.underlying24 rfl Hi.out ?_) | (refine store_ws rfl 24 _ _ rfl (w.heap.size + 1 + 1) rfl 24 (List.replicate 4 0) L 4 rfl HZ.out (by simp) HLL.out Hi.out ?_; intro w1 hR hB hF hS; have HR1 := Aside0.mk hR; have HB1 := Aside0.mk hB; clear hR hB hF hS))
      refine bodyPost_ret (v := .tuple #[.agg (ws L), .bool (decide (c > 0))]) (results_two rfl _ _ (w.heap.size + 1 + 1) 24 (ws L) _ _ (by rfl) ?_ HR1.out Try.underlying24 rfl (by rw [Hi.out, ws_size, HLL.out])) rfl ⟨by rw [HSE.out], HW.out.trans (HB1.out _ (by omega))⟩
      first | rfl | (simp; done) | (have := hc; simp; omega)
set_option maxHeartbeats 2000000 in
theorem sub_any (A B : List W64) (hA : A.length = 4) (hB : B.length = 4) (w : World) :
    Calls Try.prog 21 #[.agg (ws A), .agg (ws B)] w fun e w' => e = .returned (.tuple #[.agg (ws (subk A B 4).1), .bool (decide ((subk A B 4).2 = 1))]) ∧ Below w.heap.size w w' := by
  have HL := Aside0.mk (And.intro hA hB)
  have hi : (Try.prog.info? 24).map (·.size) = some 4 := by kernel_rfl
  have Hi := Aside0.mk hi
  have hst : ∀ k, subk A B (k + 1) = ((subk A B k).1.set k (BitVec.ofNat 64 ((gw (subk A B k).1 k).toNat + 18446744073709551616 - (gw B k).toNat - (subk A B k).2)), if (gw (subk A B k).1 k).toNat < (gw B k).toNat + (subk A B k).2 then 1 else 0) := fun k => rfl
  have HST := Aside0.mk hst
  clear hi hA hB hst
  go_enter Try.func21, Try.ntmps21
  go_wp2_with fail
  have T := three w (.cells (ws A) 24) (.cells (ws B) 24) (.cells (ws (List.replicate 4 0)) 24)
  rw [← zeros4] at T
  have HA := Aside0.mk (show Holds _ _ 24 (subk A B 0).1 from T.1)
  have HB := Aside0.mk (show Holds _ _ 24 B from T.2.1)
  have HZ := Aside0.mk (show Holds _ _ 24 (List.replicate 4 0) from T.2.2.1)
  have HW := Aside0.mk T.2.2.2
  clear T
  go_loopw [6, 8] (fun c i wr => ∃ k : Nat, k ≤ 4 ∧ i = .int .i64 k ∧ c = .int .u64 ((subk A B k).2 : Nat) ∧ Holds wr w.heap.size 24 (subk A B k).1 ∧ Holds wr (w.heap.size + 1) 24 B ∧ Holds wr (w.heap.size + 1 + 1) 24 (List.replicate 4 0) ∧ Below w.heap.size w wr) (fun c i _ => 4 - (intOf i).toNat)
  case atStart => exact ⟨0, by omega, rfl, rfl, HA.out, HB.out, HZ.out, HW.out⟩
  case round =>
    clear HA HB HZ HW
    obtain ⟨k, hk, rfl, rfl, ha, hb, hz, hw⟩ := hrel
    have HA := Aside0.mk ha
    have HB := Aside0.mk hb
    have HZ := Aside0.mk hz
    have HW := Aside0.mk hw
    clear ha hb hz hw
    by_cases hlt : k < 4
    · have hl := subk_len A B k
      rw [HL.out.1] at hl
      have hc := subk_c A B k
      have hs := HST.out k
      generalize subk A B k = S at *
      obtain ⟨L, c⟩ := S
      simp only at *
      have HLL := Aside0.mk hl
      have c0 := HA.out.cell k (by rw [HLL.out]; omega)
      have c1 := HA.out.free k
      have c2 := HB.out.cell k (by rw [HL.out.2]; omega)
      have ha := run_sub (gw L k) (gw B k) c hc
      generalize (if BitVec.toNat (gw L k) < BitVec.toNat (gw B k) + c then 1 else 0) = c' at *
      generalize BitVec.ofNat 64 _ = v at *
      have HS := Aside0.mk hs
      clear hs hl
      have i4 : (k : Int) < 4 := by omega
      go_wp2
      go_region
      clear c0 c2 ha
      go_wp2
      refine ⟨⟨k + 1, by omega, by go_num, by rw [HS.out], by rw [HS.out]; exact (HA.out.set k _).drewN 1, (HB.out.far (by show w.heap.size + 1 ≠ w.heap.size; omega) _).drewN 1, (HZ.out.far (by show w.heap.size + 1 + 1 ≠ w.heap.size; omega) _).drewN 1, below_drew1 (below_set HW.out (Nat.le_refl _))⟩, by simp [intOf]; omega⟩
    · obtain rfl : k = 4 := by omega
      have hl := subk_len A B 4
      rw [HL.out.1] at hl
      have hc := subk_c A B 4
      have hs : subk A B 4 = subk A B 4 := rfl
      generalize hS : subk A B 4 = S at *
      obtain ⟨L, c⟩ := S
      simp only at *
      have HLL := Aside0.mk hl
      clear hl hs hlt hk
      have HSE := Aside0.mk hS
      clear hS
      rw [show ((4 : Nat) : Int) = 4 from rfl]
      go_wp2_with (first | (refine load_ws rfl 24 _ rfl w.heap.size rfl 24 L 4 _ HA.out HLL.out Try.underlying24 rfl Hi.out ?_) | (refine store_ws rfl 24 _ _ rfl (w.heap.size + 1 + 1) rfl 24 (List.replicate 4 0) L 4 rfl HZ.out (by simp) HLL.out Hi.out ?_; intro w1 hR hB hF hS; have HR1 := Aside0.mk hR; have HB1 := Aside0.mk hB; clear hR hB hF hS))
      refine bodyPost_ret (v := .tuple #[.agg (ws L), .bool (decide (c = 1))]) (results_two rfl _ _ (w.heap.size + 1 + 1) 24 (ws L) _ _ (by rfl) ?_ HR1.out Try.underlying24 rfl (by rw [Hi.out, ws_size, HLL.out])) rfl ⟨by rw [HSE.out], HW.out.trans (HB1.out _ (by omega))⟩
      show Value.bool ((c : Int) == 1) = Value.bool (decide (c = 1)); congr 1; rw [Bool.eq_iff_iff, beq_iff_eq, decide_eq_true_iff]; omega
theorem eqItems_ws (d : Nat) (A B : List W64) : ∀ (is : List Nat) (w : World), (∀ i ∈ is, i < A.length ∧ i < B.length) → (Op.eqItems (d + 1) 22 1 (ws A) (ws B) is).run Try.prog w = .ok (is.all fun i => gw A i == gw B i) w
  | [], w, _ => by simp [Op.eqItems]
  | i :: is, w, h => by
    have hi := h i (by simp)
    have ih := eqItems_ws d A B is w (fun j hj => h j (by simp [hj]))
    have hag : ∀ w, (isAgg 22).run Try.prog w = .ok false w := fun w => by simp [isAgg, run_underlying Try.underlying22]
    have hq : ∀ (a b : Int) (w : World), (Op.equalIn (d + 1) 22 (.int .u64 a) (.int .u64 b)).run Try.prog w = .ok (a == b) w := fun a b w => by simp [Op.equalIn, run_underlying Try.underlying22]
    have ha := ws_get A i hi.1
    have hb := ws_get B i hi.2
    have hp : ∀ (X : List W64), i < X.length → (part 22 (ws X) (i * 1)).run Try.prog w = .ok (.int .u64 (vw (gw X i))) w := fun X hX => by
      simp [part, hag, ws_get X i hX]
    rw [Op.eqItems]
    simp only [Sem.run_bind, hp A hi.1, hp B hi.2, Result.andThen_ok, hq]
    have hv : (vw (gw A i) == vw (gw B i)) = (gw A i == gw B i) := by
      rw [Bool.eq_iff_iff, beq_iff_eq, beq_iff_eq]
      constructor
      · intro e
        have := congrArg (BitVec.ofInt 64) e
        rwa [of_vw, of_vw] at this
      · intro e; rw [e]
    rw [hv, List.all_cons]
    cases gw A i == gw B i
    · simp
    · simp [ih]
theorem run_eq_ws (d : Nat) (A B : List W64) (hA : A.length = 4) (hB : B.length = 4) (w : World) : (Op.equalIn (d + 2) 24 (.agg (ws A)) (.agg (ws B))).run Try.prog w = .ok (decide (A = B)) w := by
  have hi : ∃ i, Try.prog.info? 22 = some i := by
    have h : (Try.prog.info? 22).isSome = true := by kernel_rfl
    exact Option.isSome_iff_exists.1 h
  obtain ⟨i, hi⟩ := hi
  have hc : Try.prog.cellsOf 22 = 1 := by kernel_rfl
  rw [run_equalIn_array w (d + 1) _ _ Try.underlying24 hi, hc, eqItems_ws d A B (List.range 4) w (fun i hi => by simp at hi; omega)]
  congr 1
  rw [Bool.eq_iff_iff, List.all_eq_true, decide_eq_true_iff]
  constructor
  · intro h
    apply List.ext_getElem (by omega)
    intro k h1 h2
    have := h k (by simp; omega)
    rw [beq_iff_eq] at this
    simpa [gw, List.getD, List.getElem?_eq_getElem h1, List.getElem?_eq_getElem h2] using this
  · rintro rfl k _
    simp
def cmpk (A B : List W64) : Nat → Int
  | 0 => 0
  | k + 1 => if vw (gw A k) < vw (gw B k) then -1 else if vw (gw B k) < vw (gw A k) then 1 else cmpk A B k
set_option maxHeartbeats 2000000 in
theorem rcmp_any (A B : List W64) (hA : A.length = 4) (hB : B.length = 4) (w : World) :
    Calls Try.prog 16 #[.agg (ws A), .agg (ws B)] w fun e w' => e = .returned (.int .i64 (cmpk A B 4)) ∧ Below w.heap.size w w' := by
  have HL := Aside0.mk (And.intro hA hB)
  have hst : ∀ k, cmpk A B (k + 1) = if vw (gw A k) < vw (gw B k) then -1 else if vw (gw B k) < vw (gw A k) then 1 else cmpk A B k := fun k => rfl
  have HST := Aside0.mk hst
  clear hA hB hst
  go_enter Try.func16, Try.ntmps16
  go_wp2_with fail
  have T := two w (.cells (ws A) 24) (.cells (ws B) 24)
  have HA := Aside0.mk (show Holds _ _ 24 A from T.1)
  have HB := Aside0.mk (show Holds _ _ 24 B from T.2.1)
  have HW := Aside0.mk T.2.2
  clear T
  go_loopw [5] (fun i wr => ∃ k : Nat, k ≤ 4 ∧ i = .int .i64 ((k : Int) - 1) ∧ cmpk A B 4 = cmpk A B k ∧ Holds wr w.heap.size 24 A ∧ Holds wr (w.heap.size + 1) 24 B ∧ Below w.heap.size w wr) (fun i _ => (intOf i + 1).toNat)
  case atStart => exact ⟨4, by omega, rfl, rfl, HA.out, HB.out, HW.out⟩
  case round =>
    clear HA HB HW
    obtain ⟨k, hk, rfl, he, ha, hb, hw⟩ := hrel
    have HA := Aside0.mk ha
    have HB := Aside0.mk hb
    have HW := Aside0.mk hw
    have HE := Aside0.mk he
    clear ha hb hw he
    cases k with
    | zero =>
      go_wp2
      refine bodyPost_ret (v := .int .i64 0) (by simp [results, Try.results16, go_sem]) rfl ⟨?_, HW.out⟩
      rw [HE.out]; rfl
    | succ j =>
      have hs := HST.out j
      have c0 := HA.out.cell j (by rw [HL.out.1]; omega)
      have c2 := HB.out.cell j (by rw [HL.out.2]; omega)
      rw [show ((j + 1 : Nat) : Int) - 1 = (j : Int) by omega]
      have i4 : (j : Int) < 4 := by omega
      by_cases h1 : vw (gw A j) < vw (gw B j)
      · rw [if_pos h1, ← HE.out] at hs
        have HS := Aside0.mk hs
        clear hs
        go_wp2
        go_quiet (fail)
        go_wp2
        refine bodyPost_ret (v := .int .i64 (-1)) (by simp [results, Try.results16, go_sem]) rfl ⟨?_, pw_below_drewN HW.out _⟩
        rw [HS.out]
      · rw [if_neg h1] at hs
        by_cases h2 : vw (gw B j) < vw (gw A j)
        · rw [if_pos h2, ← HE.out] at hs
          have HS := Aside0.mk hs
          clear hs
          go_wp2
          go_quiet (fail)
          go_wp2
          go_quiet (fail)
          go_wp2
          refine bodyPost_ret (v := .int .i64 1) (by simp [results, Try.results16, go_sem]) rfl ⟨?_, pw_below_drewN (pw_below_drewN HW.out _) _⟩
          rw [HS.out]
        · rw [if_neg h2, ← HE.out] at hs
          have HS := Aside0.mk hs
          clear hs
          go_wp2
          go_quiet (fail)
          go_wp2
          go_quiet (fail)
          clear c0 c2
          go_wp2
          refine ⟨⟨j, by omega, by go_num, HS.out, HA.out.drewN _, HB.out.drewN _, pw_below_drewN HW.out _⟩, by simp [intOf]⟩
def ncmp (A B : List W64) : Int := if A = B then 0 else if (subk A B 4).2 = 1 then -1 else 1
set_option maxHeartbeats 2000000 in
theorem ncmp_any (A B : List W64) (hA : A.length = 4) (hB : B.length = 4) (w : World) :
    Calls Try.prog 29 #[.agg (ws A), .agg (ws B)] w fun e w' => e = .returned (.int .i64 (ncmp A B)) ∧ Below w.heap.size w w' := by
  have hi : (Try.prog.info? 24).map (·.size) = some 4 := by kernel_rfl
  have Hi := Aside0.mk hi
  have HL := Aside0.mk (And.intro hA hB)
  have heq := fun d w => run_eq_ws d A B hA hB w
  have hsl := subk_len A B 4
  rw [hA] at hsl
  have hn : ncmp A B = if A = B then 0 else if (subk A B 4).2 = 1 then -1 else 1 := rfl
  have HSL := Aside0.mk hsl
  have HSUB := Aside0.mk (sub_any A B hA hB)
  clear hi hA hB hsl
  have T := two w (.cells (ws A) 24) (.cells (ws B) 24)
  have HA := Aside0.mk (show Holds _ _ 24 A from T.1)
  have HB := Aside0.mk (show Holds _ _ 24 B from T.2.1)
  have HW := Aside0.mk T.2.2
  clear T
  by_cases h : A = B
  · rw [decide_eq_true h] at heq
    rw [if_pos h] at hn
    have HN := Aside0.mk hn
    clear hn h
    go_enter Try.func29, Try.ntmps29
    go_wp2_with (first | (refine load_ws rfl 24 _ rfl w.heap.size rfl 24 A 4 _ HA.out HL.out.1 Try.underlying24 rfl Hi.out ?_) | (refine load_ws rfl 24 _ rfl (w.heap.size + 1) rfl 24 B 4 _ HB.out HL.out.2 Try.underlying24 rfl Hi.out ?_))
    refine bodyPost_ret (v := .int .i64 0) (by simp [results, Try.results29, go_sem]) rfl ⟨by rw [HN.out], HW.out⟩
  · rw [decide_eq_false h] at heq
    rw [if_neg h] at hn
    have HN := Aside0.mk hn
    clear hn h
    go_enter Try.func29, Try.ntmps29
    go_wp2_with (first | (refine load_ws rfl 24 _ rfl w.heap.size rfl 24 A 4 _ HA.out HL.out.1 Try.underlying24 rfl Hi.out ?_) | (refine load_ws rfl 24 _ rfl (w.heap.size + 1) rfl 24 B 4 _ HB.out HL.out.2 Try.underlying24 rfl Hi.out ?_))
    refine (HSUB.out _).mono ?_
    rintro e w5 ⟨rfl, hb⟩
    have HB5 := Aside0.mk (below_step HW.out hb)
    clear hb
    have hz : Holds (w5.alloc (.cells (ws (List.replicate 4 0)) 24)) w5.heap.size 24 (List.replicate 4 0) := blk_new w5 _
    have hw5 := below_alloc HB5.out (.cells (ws (List.replicate 4 0)) 24)
    rw [← zeros4] at hz hw5
    have HZ := Aside0.mk hz
    have HW5 := Aside0.mk hw5
    have l5 := HB5.out.size
    clear hz hw5 HA HB HW HB5
    generalize subk A B 4 = S at *
    obtain ⟨L, c⟩ := S
    simp only at *
    by_cases hc : c = 1
    · rw [if_pos hc] at HN
      rw [decide_eq_true hc]
      go_wp2_with (refine store_ws rfl 24 _ _ rfl w5.heap.size rfl 24 (List.replicate 4 0) L 4 rfl HZ.out (by simp) HSL.out Hi.out ?_; intro w1 hR hB hF hS; have HB1 := Aside0.mk hB; clear hR hB hF hS)
      refine bodyPost_ret (v := .int .i64 (-1)) (by simp [results, Try.results29, go_sem]) rfl ⟨by rw [HN.out], HW5.out.trans (HB1.out _ l5)⟩
    · rw [if_neg hc] at HN
      rw [decide_eq_false hc]
      go_wp2_with (refine store_ws rfl 24 _ _ rfl w5.heap.size rfl 24 (List.replicate 4 0) L 4 rfl HZ.out (by simp) HSL.out Hi.out ?_; intro w1 hR hB hF hS; have HB1 := Aside0.mk hB; clear hR hB hF hS)
      refine bodyPost_ret (v := .int .i64 1) (by simp [results, Try.results29, go_sem]) rfl ⟨by rw [HN.out], HW5.out.trans (HB1.out _ l5)⟩
end Go.Proofs.Ytmnphdgghjdkmaa.P
