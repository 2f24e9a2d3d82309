import Derived.Test.YtkpflejagagcbaaGTurns
import Derived.Test.YtkpflejagagcbaaGMarks
namespace Go.Proofs.Ytkpflejagagcbaa.P
set_option linter.unusedVariables false
set_option linter.unusedSimpArgs false
open Go.RowKit Go.Proofs.YtkpflejagagcbaaW.PrintWords
/-- The five sums of a round. -/
def rC (A : List W64) : Nat → List W64
  | 0 => List.replicate 5 0
  | k + 1 => (rC A k).set k (gw A k ^^^ gw A (k + 5) ^^^ gw A (k + 10) ^^^ gw A (k + 15) ^^^ gw A (k + 20))
theorem rC_len (A : List W64) (k : Nat) : (rC A k).length = 5 := by induction k with | zero => rfl | succ k ih => rw [rC, List.length_set, ih]
def rD (C : List W64) (x : Nat) : W64 := gw C ((x + 4) % 5) ^^^ (gw C ((x + 1) % 5)).rotateLeft 1
def rBy (A : List W64) (R : List Nat) (d : W64) (x : Nat) (B : List W64) : Nat → List W64
  | 0 => B
  | y + 1 => (rBy A R d x B y).set (y + 5 * ((2 * x + 3 * y) % 5)) ((gw A (x + 5 * y) ^^^ d).rotateLeft (gn R (x + 5 * y)))
theorem rBy_len (A : List W64) (R : List Nat) (d : W64) (x : Nat) (B : List W64) (k : Nat) : (rBy A R d x B k).length = B.length := by induction k with | zero => rfl | succ k ih => rw [rBy, List.length_set, ih]
def rBx (A : List W64) (R : List Nat) (C : List W64) : Nat → List W64
  | 0 => List.replicate 25 0
  | x + 1 => rBy A R (rD C x) x (rBx A R C x) 5
theorem rBx_len (A : List W64) (R : List Nat) (C : List W64) (k : Nat) : (rBx A R C k).length = 25 := by induction k with | zero => rfl | succ k ih => rw [rBx, rBy_len, ih]
def rAy (B : List W64) (x : Nat) (A : List W64) : Nat → List W64
  | 0 => A
  | y + 1 => (rAy B x A y).set (x + 5 * y) (gw B (x + 5 * y) ^^^ (~~~ gw B ((x + 1) % 5 + 5 * y) &&& gw B ((x + 2) % 5 + 5 * y)))
theorem rAy_len (B : List W64) (x : Nat) (A : List W64) (k : Nat) : (rAy B x A k).length = A.length := by induction k with | zero => rfl | succ k ih => rw [rAy, List.length_set, ih]
def rAx (B A : List W64) : Nat → List W64
  | 0 => A
  | x + 1 => rAy B x (rAx B A x) 5
theorem rAx_len (B A : List W64) (k : Nat) : (rAx B A k).length = A.length := by induction k with | zero => rfl | succ k ih => rw [rAx, rAy_len, ih]
def rRound (A : List W64) (m : W64) : List W64 :=
  let F := rAx (rBx A (tR 24) (rC A 5) 5) A 5
  F.set 0 (gw F 0 ^^^ m)
theorem rRound_len (A : List W64) (m : W64) : (rRound A m).length = A.length := by rw [rRound]; simp only [List.length_set, rAx_len]
def rP (A : List W64) : Nat → List W64
  | 0 => A
  | i + 1 => rRound (rP A i) (gw (mkO 24).1 i)
theorem rP_len (A : List W64) (k : Nat) : (rP A k).length = A.length := by induction k with | zero => rfl | succ k ih => rw [rP, rRound_len, ih]
theorem run_index_ns {P : Program} {t e : TypeId} {n : Nat} (h : P.underlying t = some (.array n e)) (he : P.underlying e = some (.int .i64)) (hc : P.cellsOf e = 1) (L : List Nat) (k : Nat) (hk : k < n) (hL : L.length = n) (W : World) :
    (Instr.index t (.agg (ns L)) (.int .i64 (k : Int))).run P W = .ok (.int .i64 (gn L k : Nat)) W := by
  have hi : ∃ i, P.info? e = some i := by
    unfold Program.cellsOf at hc
    cases h : P.info? e with
    | none => simp [h] at hc
    | some i => exact ⟨i, rfl⟩
  obtain ⟨i, hi⟩ := hi
  have hs : i.size = 1 := by unfold Program.cellsOf at hc; simpa [hi] using hc
  have hag : ∀ w, (isAgg e).run P w = .ok false w := fun w => by simp [isAgg, run_underlying he]
  have hz : (sizeOf e).run P W = .ok 1 W := by rw [run_sizeOf W hi, hc]
  have hg := ns_get L k (by omega)
  have h3 : 0 ≤ (k : Int) ∧ (k : Int) < (n : Int) := by omega
  simp [Instr.index, asIntOf, run_underlying h, h3, hz, part, hag, hg]
  intro h; omega
theorem tR_lt : ∀ p < 25, gn (tR 24) p < 64 := by decide +kernel
theorem vw_sub (a : W64) : IntKind.u64.wrap (18446744073709551615 - vw a) = vw (~~~ a) := by
  rw [IntKind.wrap_u64]
  unfold vw
  rw [BitVec.toNat_not]
  have := a.isLt
  omega
/-- What the memory holds through a round. -/
structure Mem (w : World) (gr gk : Nat) (R : List Nat) (M : List W64) (A : List W64) (W : World) : Prop where
  ha : Holds W w.heap.size 40 A
  hr : Holds W (w.heap.size + 1) 40 (List.replicate 25 0)
  hn : HoldsN W gr 49 R
  hm : Holds W gk 51 M
  hb : Below w.heap.size w W
  l1 : w.heap.size + 1 < gr
  l2 : gr < gk
theorem Mem.alloc {w W : World} {gr gk : Nat} {R : List Nat} {M A : List W64} (h : Mem w gr gk R M A W) (o : Obj) : Mem w gr gk R M A (W.alloc o) :=
  ⟨h.ha.alloc o, h.hr.alloc o, blk_alloc h.hn o, h.hm.alloc o, below_alloc h.hb o, h.l1, h.l2⟩
theorem Mem.drew {w W : World} {gr gk : Nat} {R : List Nat} {M A : List W64} (h : Mem w gr gk R M A W) : Mem w gr gk R M A W.drew :=
  ⟨h.ha.drewN 1, h.hr.drewN 1, h.hn, h.hm.drewN 1, below_drew1 h.hb, h.l1, h.l2⟩
theorem Mem.far {w W : World} {gr gk : Nat} {R : List Nat} {M A : List W64} (h : Mem w gr gk R M A W) (g k : Nat) (hg : gk < g) (v : Value) : Mem w gr gk R M A (W.setCell ⟨g, k, none⟩ v) :=
  have l1 := h.l1
  have l2 := h.l2
  ⟨h.ha.far (by show w.heap.size ≠ g; omega) v, h.hr.far (by show w.heap.size + 1 ≠ g; omega) v, blk_far h.hn (by show gr ≠ g; omega) v, h.hm.far (by show gk ≠ g; omega) v, below_set h.hb (by show w.heap.size ≤ g; omega), l1, l2⟩
theorem Mem.set {w W : World} {gr gk : Nat} {R : List Nat} {M A : List W64} (h : Mem w gr gk R M A W) (k : Nat) (b : W64) : Mem w gr gk R M (A.set k b) (W.setCell ⟨w.heap.size, k, none⟩ (.int .u64 (vw b))) :=
  have l1 := h.l1
  have l2 := h.l2
  ⟨h.ha.set k b, h.hr.far (by show w.heap.size + 1 ≠ w.heap.size; omega) _, blk_far h.hn (by show gr ≠ w.heap.size; omega) _, h.hm.far (by show gk ≠ w.heap.size; omega) _, below_set h.hb (by show w.heap.size ≤ w.heap.size; omega), l1, l2⟩
theorem Mem.below {w W w1 : World} {gr gk : Nat} {R : List Nat} {M A : List W64} (h : Mem w gr gk R M A W) (hb : Below W.heap.size W w1) : Mem w gr gk R M A w1 :=
  ⟨h.ha.below hb, h.hr.below hb, blk_below h.hn hb, h.hm.below hb, below_step h.hb hb, h.l1, h.l2⟩
set_option maxRecDepth 8000 in
set_option maxHeartbeats 2000000 in
theorem rpermute_any (L : List W64) (hL : L.length = 25) (w : World) :
    Calls Try.prog 19 #[.agg (ws L)] w fun e w' => e = .returned (.agg (ws (rP L 24))) ∧ Below w.heap.size w w' := by
  have hi : (Try.prog.info? 40).map (·.size) = some 25 := by kernel_rfl
  have Hi := Aside0.mk hi
  clear hi
  have ht := turns_any
  have hm := marks_any
  have hrl := tR_len 24
  have hml := mkO_len 24
  have hrt := tR_lt
  have hP : ∀ i, rP L (i + 1) = rRound (rP L i) (gw (mkO 24).1 i) := fun i => rfl
  have HP := Aside0.mk hP
  clear hP
  have hRd : ∀ A m, rRound A m = (rAx (rBx A (tR 24) (rC A 5) 5) A 5).set 0 (gw (rAx (rBx A (tR 24) (rC A 5) 5) A 5) 0 ^^^ m) := fun A m => rfl
  have HRD := Aside0.mk hRd
  clear hRd
  generalize tR 24 = R at *
  generalize (mkO 24).1 = M at *
  have HT := Aside0.mk ht
  have HM := Aside0.mk hm
  have HRL := Aside0.mk hrl
  have HML := Aside0.mk hml
  have HRT := Aside0.mk hrt
  clear ht hm hrl hml hrt
  go_enter Try.func19, Try.ntmps19
  go_wp2_with fail
  have T := two w (.cells (ws L) 40) (.cells (ws (List.replicate 25 0)) 40)
  rw [← zeros25] at T
  have HA := Aside0.mk (show Holds _ _ 40 L from T.1)
  have HR := Aside0.mk (show Holds _ _ 40 (List.replicate 25 0) by rw [Holds, ← zeros25]; exact T.2.1)
  have HB := Aside0.mk T.2.2
  clear T
  refine (HT.out _).mono ?_
  rintro e w2 ⟨rfl, hb⟩
  have HA2 := Aside0.mk (HA.out.below hb)
  have HR2 := Aside0.mk (HR.out.below hb)
  have HB2 := Aside0.mk (below_step HB.out hb)
  clear hb HA HR HB
  have hi5 : (Try.prog.info? 49).map (·.size) = some 25 := by kernel_rfl
  have Hi5 := Aside0.mk hi5
  clear hi5
  have hi7 : (Try.prog.info? 51).map (·.size) = some 24 := by kernel_rfl
  have Hi7 := Aside0.mk hi7
  clear hi7
  have l2 := HR2.out.lt
  have n2 : HoldsN (w2.alloc (.cells (ns (List.replicate 25 0)) 49)) w2.heap.size 49 (List.replicate 25 0) := blk_new w2 _
  rw [← nzeros25] at n2
  have N2 := Aside0.mk n2
  have A2 := Aside0.mk (HA2.out.alloc (.cells (ns (List.replicate 25 0)) 49))
  have R2 := Aside0.mk (HR2.out.alloc (.cells (ns (List.replicate 25 0)) 49))
  have B2 := Aside0.mk (below_alloc HB2.out (.cells (ns (List.replicate 25 0)) 49))
  clear n2 HA2 HR2 HB2
  go_wp2_with (refine store_ns rfl 49 _ _ rfl w2.heap.size rfl 49 (List.replicate 25 0) R 25 rfl (by exact N2.out) (by simp) HRL.out Hi5.out ?_; intro w3 hR hB hF hS; have HN3 := Aside0.mk hR; have HB3 := Aside0.mk hB; have HF3 := Aside0.mk hF; clear hR hB hF hS)
  have HA3 : Aside0 (Holds w3 w.heap.size 40 L) := Aside0.mk ((HF3.out _ (by omega)).trans A2.out)
  have HR3 : Aside0 (Holds w3 (w.heap.size + 1) 40 (List.replicate 25 0)) := Aside0.mk ((HF3.out _ (by omega)).trans R2.out)
  have HW3 := Aside0.mk (B2.out.trans (HB3.out w.heap.size (by omega)))
  clear A2 R2 B2 N2 HB3 HF3
  generalize w2.heap.size = gr at *
  refine (HM.out _).mono ?_
  rintro e w4 ⟨rfl, hb⟩
  have HA4 := Aside0.mk (HA3.out.below hb)
  have HR4 := Aside0.mk (HR3.out.below hb)
  have HN4 : Aside0 (HoldsN w4 gr 49 R) := Aside0.mk (blk_below HN3.out hb)
  have HB4 := Aside0.mk (below_step HW3.out hb)
  clear hb HA3 HR3 HW3 HN3
  have l4 : gr < w4.heap.size := blk_lt HN4.out
  have n4 : Holds (w4.alloc (.cells (ws (List.replicate 24 0)) 51)) w4.heap.size 51 (List.replicate 24 0) := blk_new w4 _
  have A4 := Aside0.mk (HA4.out.alloc (.cells (ws (List.replicate 24 0)) 51))
  have R4 := Aside0.mk (HR4.out.alloc (.cells (ws (List.replicate 24 0)) 51))
  have T4 : Aside0 (HoldsN (w4.alloc (.cells (ws (List.replicate 24 0)) 51)) gr 49 R) := Aside0.mk (blk_alloc HN4.out _)
  have B4 := Aside0.mk (below_alloc HB4.out (.cells (ws (List.replicate 24 0)) 51))
  rw [← zeros24] at n4
  have N4 := Aside0.mk n4
  clear n4 HA4 HR4 HB4 HN4
  go_wp2_with (refine store_ws rfl 51 _ _ rfl w4.heap.size rfl 51 (List.replicate 24 0) M 24 rfl (by exact N4.out) (by simp) HML.out Hi7.out ?_; intro w5 hR hB hF hS; have HM5 := Aside0.mk hR; have HB5 := Aside0.mk hB; have HF5 := Aside0.mk hF; clear hR hB hF hS)
  have HMem : Aside0 (Mem w gr w4.heap.size R M L w5) := Aside0.mk ⟨(HF5.out _ _ _ (by omega) A4.out), (HF5.out _ _ _ (by omega) R4.out), (((HB5.out w4.heap.size (Nat.le_refl _)).block gr l4).trans T4.out), HM5.out, (B4.out.trans (HB5.out w.heap.size (by omega))), l2, l4⟩
  clear A4 R4 T4 B4 N4 HM5 HB5 HF5
  generalize w4.heap.size = gk at *
  go_loopw [5] (fun i wr => ∃ k : Nat, k ≤ 24 ∧ i = .int .i64 k ∧ Mem w gr gk R M (rP L k) wr) (fun i _ => 24 - (intOf i).toNat)
  case atStart =>
    exact ⟨0, by omega, rfl, HMem.out⟩
  case round =>
    clear HMem
    obtain ⟨i, hi, rfl, hm⟩ := hrel
    have HMem := Aside0.mk hm
    clear hm
    by_cases hlt : i < 24
    · have hAl : (rP L i).length = 25 := by rw [rP_len]; exact hL
      have hst := HP.out i
      generalize rP L i = A at *
      have HA := Aside0.mk hAl
      have HST := Aside0.mk hst
      clear hAl hst
      go_wp2
      have lg : gk < wr.heap.size := HMem.out.hm.lt
      have c5 : Holds (wr.alloc (.cells (ws (List.replicate 5 0)) 53)) wr.heap.size 53 (rC A 0) := blk_new wr _
      have HM1 := Aside0.mk (HMem.out.alloc (.cells (ws (List.replicate 5 0)) 53))
      rw [← zeros5] at c5 HM1
      have HC5 := Aside0.mk c5
      clear c5 HMem
      generalize wr.heap.size = g at *
      rw [show decide ((i : Int) < 24) = true from decide_eq_true (by omega)]
      go_loopw [7] (fun x wq => ∃ k : Nat, k ≤ 5 ∧ x = .int .i64 k ∧ Mem w gr gk R M A wq ∧ Holds wq g 53 (rC A k)) (fun x _ => 5 - (intOf x).toNat)
      case atStart => exact ⟨0, by omega, rfl, HM1.out, HC5.out⟩
      case round =>
        clear HM1 HC5
        obtain ⟨k, hk, rfl, hm, hc⟩ := hrel
        have HMem := Aside0.mk hm
        have HC := Aside0.mk hc
        clear hm hc
        by_cases hlt' : k < 5
        · have a0 := HMem.out.ha.cell k (by rw [HA.out]; omega)
          obtain ⟨k5, h5⟩ : ∃ k5, k + 5 = k5 := ⟨_, rfl⟩
          obtain ⟨k10, h10⟩ : ∃ k5, k + 10 = k5 := ⟨_, rfl⟩
          obtain ⟨k15, h15⟩ : ∃ k5, k + 15 = k5 := ⟨_, rfl⟩
          obtain ⟨k20, h20⟩ : ∃ k5, k + 20 = k5 := ⟨_, rfl⟩
          have a5 := HMem.out.ha.cell k5 (by rw [HA.out]; omega)
          have a10 := HMem.out.ha.cell k10 (by rw [HA.out]; omega)
          have a15 := HMem.out.ha.cell k15 (by rw [HA.out]; omega)
          have a20 := HMem.out.ha.cell k20 (by rw [HA.out]; omega)
          have c0 := HC.out.cell k (by rw [rC_len]; omega)
          have c1 := HC.out.free k
          have hst : rC A (k + 1) = (rC A k).set k (gw A k ^^^ gw A (k + 5) ^^^ gw A (k + 10) ^^^ gw A (k + 15) ^^^ gw A (k + 20)) := rfl
          rw [h5, h10, h15, h20] at hst
          have HCT := Aside0.mk hst
          clear hst
          have i5 : (k5 : Int) < 25 := by omega
          have i10 : (k10 : Int) < 25 := by omega
          have i15 : (k15 : Int) < 25 := by omega
          have i20 : (k20 : Int) < 25 := by omega
          have i0 : (k : Int) < 25 := by omega
          have i00 : (k : Int) < 5 := by omega
          have e5 : IntKind.i64.wrap ((k : Int) + 5) = (k5 : Int) := by rw [IntKind.wrap_i64]; omega
          have e10 : IntKind.i64.wrap ((k : Int) + 10) = (k10 : Int) := by rw [IntKind.wrap_i64]; omega
          have e15 : IntKind.i64.wrap ((k : Int) + 15) = (k15 : Int) := by rw [IntKind.wrap_i64]; omega
          have e20 : IntKind.i64.wrap ((k : Int) + 20) = (k20 : Int) := by rw [IntKind.wrap_i64]; omega
          clear h5 h10 h15 h20
          go_wp2
          refine wp_region_still_tail 25 (by kernel_rfl) (by kernel_rfl) ?_
          simp only [List.take_succ_cons, List.take_zero, List.drop_succ_cons, List.drop_zero]
          repeat still_step
          refine wpStill_nil ?_
          change wpList _ _ _ _ _ wr.drew
          simp only [vw_xor]
          clear e5 e10 e15 e20 a5 a10 a15 a20 i5 i10 i15 i20
          go_wp2
          refine ⟨⟨k + 1, by omega, by go_num, (HMem.out.far g k lg _).drew, by rw [HCT.out]; exact (HC.out.set k _).drewN 1⟩, by simp [intOf]; omega⟩
        · obtain rfl : k = 5 := by omega
          have hcl := rC_len A 5
          have hrd := HRD.out A (gw M i)
          generalize rC A 5 = C at *
          have HCl := Aside0.mk hcl
          have HRD1 := Aside0.mk hrd
          clear hcl hrd HRD hlt' hk
          rw [show ((5 : Nat) : Int) = 5 from rfl]
          go_wp2
          have lg2 : g < wr.heap.size := HC.out.lt
          have c5 : Holds (wr.alloc (.cells (ws (List.replicate 25 0)) 40)) wr.heap.size 40 (rBx A R C 0) := blk_new wr _
          have HM1 := Aside0.mk (HMem.out.alloc (.cells (ws (List.replicate 25 0)) 40))
          have HC1 := Aside0.mk (HC.out.alloc (.cells (ws (List.replicate 25 0)) 40))
          rw [← zeros25] at c5 HM1 HC1
          have HB5 := Aside0.mk c5
          clear c5 HMem HC
          generalize wr.heap.size = g2 at *
          go_loopw [9] (fun x wq => ∃ k : Nat, k ≤ 5 ∧ x = .int .i64 k ∧ Mem w gr gk R M A wq ∧ Holds wq g 53 C ∧ Holds wq g2 40 (rBx A R C k)) (fun x _ => 5 - (intOf x).toNat)
          case atStart => exact ⟨0, by omega, rfl, HM1.out, HC1.out, HB5.out⟩
          case round =>
            clear HM1 HC1 HB5
            obtain ⟨x, hx, rfl, hm, hc, hb⟩ := hrel
            have HMem := Aside0.mk hm
            have HC := Aside0.mk hc
            have HB := Aside0.mk hb
            clear hm hc hb
            by_cases hxl : x < 5
            · obtain ⟨m, h4⟩ : ∃ m, (x + 4) % 5 = m := ⟨_, rfl⟩
              obtain ⟨n, h1⟩ : ∃ m, (x + 1) % 5 = m := ⟨_, rfl⟩
              have hd : rD C x = gw C m ^^^ (gw C n).rotateLeft 1 := by rw [rD, h4, h1]
              have hbx : rBx A R C (x + 1) = rBy A R (rD C x) x (rBx A R C x) 5 := rfl
              have hbl := rBx_len A R C x
              generalize rD C x = d at *
              generalize rBx A R C x = B at *
              have HD := Aside0.mk hd
              have HBX := Aside0.mk hbx
              have HBL := Aside0.mk hbl
              clear hd hbx hbl
              have c4 := HC.out.cell m (by rw [HCl.out]; omega)
              have c1 := HC.out.cell n (by rw [HCl.out]; omega)
              have i1 : (m : Int) < 5 := by omega
              have i2 : (n : Int) < 5 := by omega
              have i3 : (x : Int) < 5 := by omega
              have e1 : IntKind.i64.wrap ((x : Int) + 4) = (x : Int) + 4 := by rw [IntKind.wrap_i64]; omega
              have e2 : IntKind.i64.wrap ((x : Int) + 1) = (x : Int) + 1 := by rw [IntKind.wrap_i64]; omega
              have e3 : ((x : Int) + 4).tmod 5 = (m : Int) := by rw [Int.tmod_eq_emod_of_nonneg (by omega)]; omega
              have e4 : ((x : Int) + 1).tmod 5 = (n : Int) := by rw [Int.tmod_eq_emod_of_nonneg (by omega)]; omega
              clear h4 h1
              go_wp2
              refine wp_region_still_tail 12 (by kernel_rfl) (by kernel_rfl) ?_
              simp only [List.take_succ_cons, List.take_zero, List.drop_succ_cons, List.drop_zero]
              repeat still_step
              still_call ((rturn_any (gw C n) 1 (by omega) (by omega) _).mono fun e w' h => ⟨h.1, h.2.symm⟩)
              repeat still_step
              refine wpStill_nil ?_
              change wpList _ _ _ _ _ wr.drew
              rw [vw_xor, ← HD.out]
              clear e1 e2 e3 e4 c4 c1
              go_wp2
              have HM1 := Aside0.mk HMem.out.drew
              have HC1 := Aside0.mk (HC.out.drewN 1)
              have HB1 := Aside0.mk (HB.out.drewN 1)
              clear HMem HC HB
              have lx : (2 : Int) * 0 = 0 := rfl
              go_loopw [11] (fun y wq => ∃ k : Nat, k ≤ 5 ∧ y = .int .i64 k ∧ Mem w gr gk R M A wq ∧ Holds wq g 53 C ∧ Holds wq g2 40 (rBy A R d x B k)) (fun y _ => 5 - (intOf y).toNat)
              case atStart => exact ⟨0, by omega, rfl, HM1.out, HC1.out, HB1.out⟩
              case round =>
                clear HM1 HC1 HB1 lx
                obtain ⟨y, hy, rfl, hm, hc, hb⟩ := hrel
                have HMem := Aside0.mk hm
                have HC := Aside0.mk hc
                have HB := Aside0.mk hb
                clear hm hc hb
                by_cases hyl : y < 5
                · obtain ⟨p, hp⟩ : ∃ m, x + 5 * y = m := ⟨_, rfl⟩
                  obtain ⟨z, hz⟩ : ∃ m, (2 * x + 3 * y) % 5 = m := ⟨_, rfl⟩
                  obtain ⟨q, hq⟩ : ∃ m, y + 5 * z = m := ⟨_, rfl⟩
                  obtain ⟨x2, hx2⟩ : ∃ m, 2 * x = m := ⟨_, rfl⟩
                  obtain ⟨y3, hy3⟩ : ∃ m, 3 * y = m := ⟨_, rfl⟩
                  obtain ⟨s, hs⟩ : ∃ m, x2 + y3 = m := ⟨_, rfl⟩
                  obtain ⟨z5, hz5⟩ : ∃ m, 5 * z = m := ⟨_, rfl⟩
                  obtain ⟨y5, hy5⟩ : ∃ m, 5 * y = m := ⟨_, rfl⟩
                  have hby : rBy A R d x B (y + 1) = (rBy A R d x B y).set q ((gw A p ^^^ d).rotateLeft (gn R p)) := by rw [rBy, hz, hq, hp]
                  have hbl := rBy_len A R d x B y
                  rw [HBL.out] at hbl
                  have hp25 : p < 25 := by omega
                  have hq25 : q < 25 := by omega
                  have hgn := HRT.out p hp25
                  have c0 := HMem.out.ha.cell p (by rw [HA.out]; omega)
                  have c1 : wr.cell? ⟨gr, p, none⟩ = some (.int .i64 (gn R p : Nat)) := (blk_cell HMem.out.hn p).trans (ns_get R p (by rw [HRL.out]; omega))
                  generalize rBy A R d x B y = B1 at *
                  have c2 := HB.out.cell q (by rw [hbl]; omega)
                  have c3 := HB.out.free q
                  generalize gn R p = r at *
                  have HBY := Aside0.mk hby
                  have HBL1 := Aside0.mk hbl
                  clear hby hbl
                  have i1 : (p : Int) < 25 := by omega
                  have i2 : (q : Int) < 25 := by omega
                  have e1 : IntKind.i64.wrap (2 * (x : Int)) = (x2 : Int) := by rw [IntKind.wrap_i64]; omega
                  have e2 : IntKind.i64.wrap (3 * (y : Int)) = (y3 : Int) := by rw [IntKind.wrap_i64]; omega
                  have e3 : IntKind.i64.wrap ((x2 : Int) + (y3 : Int)) = (s : Int) := by rw [IntKind.wrap_i64]; omega
                  have e4 : (s : Int).tmod 5 = (z : Int) := by rw [Int.tmod_eq_emod_of_nonneg (by omega)]; omega
                  have e5 : IntKind.i64.wrap (5 * (z : Int)) = (z5 : Int) := by rw [IntKind.wrap_i64]; omega
                  have e6 : IntKind.i64.wrap ((y : Int) + (z5 : Int)) = (q : Int) := by rw [IntKind.wrap_i64]; omega
                  have e7 : IntKind.i64.wrap (5 * (y : Int)) = (y5 : Int) := by rw [IntKind.wrap_i64]; omega
                  have e8 : IntKind.i64.wrap ((x : Int) + (y5 : Int)) = (p : Int) := by rw [IntKind.wrap_i64]; omega
                  clear hp hz hq hx2 hy3 hs hz5 hy5
                  have E := Aside0.mk (And.intro e1 (And.intro e2 (And.intro e3 (And.intro e4 (And.intro e5 (And.intro e6 (And.intro e7 e8)))))))
                  clear e1 e2 e3 e4 e5 e6 e7 e8
                  go_wp2
                  obtain ⟨e1, e2, e3, e4, e5, e6, e7, e8⟩ := E.out
                  refine wp_region_still_tail 25 (by kernel_rfl) (by kernel_rfl) ?_
                  simp only [List.take_succ_cons, List.take_zero, List.drop_succ_cons, List.drop_zero]
                  repeat still_step
                  try simp only [vw_xor]
                  still_call ((rturn_any (gw A p ^^^ d) (r : Int) (by omega) (by omega) _).mono fun e w' h => ⟨h.1, h.2.symm⟩)
                  repeat still_step
                  refine wpStill_nil ?_
                  change wpList _ _ _ _ _ wr.drew
                  clear e1 e2 e3 e4 e5 e6 e7 e8 E c0 c1
                  go_wp2
                  refine ⟨⟨y + 1, by omega, by go_num, (HMem.out.far g2 q (by omega) _).drew, ?_, ?_⟩, by simp [intOf]; omega⟩
                  · exact (HC.out.far (by show g ≠ g2; omega) _).drewN 1
                  · rw [HBY.out]; exact (HB.out.set q _).drewN 1
                · obtain rfl : y = 5 := by omega
                  rw [← HBX.out] at HB
                  rw [show ((5 : Nat) : Int) = 5 from rfl]
                  go_wp2
                  refine ⟨⟨x + 1, by omega, by go_num, HMem.out, HC.out, HB.out⟩, by simp [intOf]; omega⟩
            · obtain rfl : x = 5 := by omega
              have hbl := rBx_len A R C 5
              generalize rBx A R C 5 = B at *
              have HBL := Aside0.mk hbl
              clear hbl hxl hx
              rw [show ((5 : Nat) : Int) = 5 from rfl]
              go_wp2
              go_loopw [12] (fun x wq => ∃ k : Nat, k ≤ 5 ∧ x = .int .i64 k ∧ Mem w gr gk R M (rAx B A k) wq ∧ Holds wq g2 40 B) (fun x _ => 5 - (intOf x).toNat)
              case atStart => exact ⟨0, by omega, rfl, HMem.out, HB.out⟩
              case round =>
                clear HMem HC HB
                obtain ⟨x, hx, rfl, hm, hb⟩ := hrel
                have HMem := Aside0.mk hm
                have HB := Aside0.mk hb
                clear hm hb
                by_cases hxl : x < 5
                · have hax : rAx B A (x + 1) = rAy B x (rAx B A x) 5 := rfl
                  have hal := rAx_len B A x
                  rw [HA.out] at hal
                  generalize rAx B A x = F at *
                  have HAX := Aside0.mk hax
                  have HAL := Aside0.mk hal
                  clear hax hal
                  go_wp2
                  rw [show decide ((x : Int) < 5) = true from decide_eq_true (by omega)]
                  go_loopw [13] (fun y wq => ∃ k : Nat, k ≤ 5 ∧ y = .int .i64 k ∧ Mem w gr gk R M (rAy B x F k) wq ∧ Holds wq g2 40 B) (fun y _ => 5 - (intOf y).toNat)
                  case atStart => exact ⟨0, by omega, rfl, HMem.out, HB.out⟩
                  case round =>
                    clear HMem HB
                    obtain ⟨y, hy, rfl, hm, hb⟩ := hrel
                    have HMem := Aside0.mk hm
                    have HB := Aside0.mk hb
                    clear hm hb
                    by_cases hyl : y < 5
                    · obtain ⟨m, hm1⟩ : ∃ m, (x + 1) % 5 = m := ⟨_, rfl⟩
                      obtain ⟨n, hn2⟩ : ∃ m, (x + 2) % 5 = m := ⟨_, rfl⟩
                      obtain ⟨y5, hy5⟩ : ∃ m, 5 * y = m := ⟨_, rfl⟩
                      have hay : rAy B x F (y + 1) = (rAy B x F y).set (x + y5) (gw B (x + y5) ^^^ (~~~ gw B (m + y5) &&& gw B (n + y5))) := by rw [rAy, hm1, hn2, hy5]
                      obtain ⟨p0, hp0⟩ : ∃ m, x + y5 = m := ⟨_, rfl⟩
                      obtain ⟨p1, hp1⟩ : ∃ z, m + y5 = z := ⟨_, rfl⟩
                      obtain ⟨p2, hp2⟩ : ∃ z, n + y5 = z := ⟨_, rfl⟩
                      rw [hp0, hp1, hp2] at hay
                      have hal := rAy_len B x F y
                      rw [HAL.out] at hal
                      generalize rAy B x F y = G at *
                      have l0 : p0 < 25 := by omega
                      have l1 : p1 < 25 := by omega
                      have l2 : p2 < 25 := by omega
                      have c0 := HMem.out.ha.cell p0 (by omega)
                      have c0' := HMem.out.ha.free p0
                      have b0 := HB.out.cell p0 (by rw [HBL.out]; omega)
                      have b1 := HB.out.cell p1 (by rw [HBL.out]; omega)
                      have b2 := HB.out.cell p2 (by rw [HBL.out]; omega)
                      have HAY := Aside0.mk hay
                      have HGL := Aside0.mk hal
                      clear hay hal
                      have i0 : (p0 : Int) < 25 := by omega
                      have i1 : (p1 : Int) < 25 := by omega
                      have i2 : (p2 : Int) < 25 := by omega
                      have e1 : IntKind.i64.wrap ((x : Int) + 1) = (x : Int) + 1 := by rw [IntKind.wrap_i64]; omega
                      have e2 : IntKind.i64.wrap ((x : Int) + 2) = (x : Int) + 2 := by rw [IntKind.wrap_i64]; omega
                      have e3 : ((x : Int) + 1).tmod 5 = (m : Int) := by rw [Int.tmod_eq_emod_of_nonneg (by omega)]; omega
                      have e4 : ((x : Int) + 2).tmod 5 = (n : Int) := by rw [Int.tmod_eq_emod_of_nonneg (by omega)]; omega
                      have e5 : IntKind.i64.wrap (5 * (y : Int)) = (y5 : Int) := by rw [IntKind.wrap_i64]; omega
                      have e6 : IntKind.i64.wrap ((x : Int) + (y5 : Int)) = (p0 : Int) := by rw [IntKind.wrap_i64]; omega
                      have e7 : IntKind.i64.wrap ((m : Int) + (y5 : Int)) = (p1 : Int) := by rw [IntKind.wrap_i64]; omega
                      have e8 : IntKind.i64.wrap ((n : Int) + (y5 : Int)) = (p2 : Int) := by rw [IntKind.wrap_i64]; omega
                      have f1 : ((x : Int) + 1) % 5 = (m : Int) := by omega
                      have f2 : 5 * (y : Int) = (y5 : Int) := by omega
                      have f3 : (m : Int) + (y5 : Int) = (p1 : Int) := by omega
                      clear hp0 hp1 hp2 hm1 hn2 hy5
                      have E := Aside0.mk (And.intro e1 (And.intro e2 (And.intro e3 (And.intro e4 (And.intro e5 (And.intro e6 (And.intro e7 e8)))))))
                      clear e1 e2 e3 e4 e5 e6 e7 e8
                      go_wp2
                      obtain ⟨e1, e2, e3, e4, e5, e6, e7, e8⟩ := E.out
                      clear f1 f2 f3
                      refine wp_region_still_tail 23 (by kernel_rfl) (by kernel_rfl) ?_
                      simp only [List.take_succ_cons, List.take_zero, List.drop_succ_cons, List.drop_zero]
                      repeat still_step
                      refine wpStill_nil ?_
                      change wpList _ _ _ _ _ wr.drew
                      simp only [vw_sub, vw_xor, vw_and]
                      clear e1 e2 e3 e4 e5 e6 e7 e8 E b0 b1 b2
                      go_wp2
                      refine ⟨⟨y + 1, by omega, by go_num, ?_, (HB.out.far (by show g2 ≠ w.heap.size; have := HMem.out.l1; have := HMem.out.l2; omega) _).drewN 1⟩, by simp [intOf]; omega⟩
                      rw [HAY.out]; exact (HMem.out.set p0 _).drew
                    · obtain rfl : y = 5 := by omega
                      rw [← HAX.out] at HMem
                      rw [show ((5 : Nat) : Int) = 5 from rfl]
                      go_wp2
                      refine ⟨⟨x + 1, by omega, by go_num, HMem.out, HB.out⟩, by simp [intOf]; omega⟩
                · obtain rfl : x = 5 := by omega
                  have hal := rAx_len B A 5
                  rw [HA.out] at hal
                  rw [HRD1.out] at HST
                  generalize rAx B A 5 = F at *
                  have i0 : (i : Int) < 24 := by omega
                  have c0 := HMem.out.ha.cell 0 (by omega)
                  have c0' := HMem.out.ha.free 0
                  have c1 := HMem.out.hm.cell i (by rw [HML.out]; omega)
                  clear hal HRD1 hx hxl
                  rw [show ((5 : Nat) : Int) = 5 from rfl]
                  go_wp2
                  refine wp_region_still_tail 7 (by kernel_rfl) (by kernel_rfl) ?_
                  simp only [List.take_succ_cons, List.take_zero, List.drop_succ_cons, List.drop_zero]
                  repeat still_step
                  refine wpStill_nil ?_
                  change wpList _ _ _ _ _ wr.drew
                  simp only [vw_xor]
                  clear c1
                  go_wp2
                  refine ⟨⟨i + 1, by omega, by go_num, by rw [HST.out]; exact (HMem.out.set 0 _).drew⟩, by simp [intOf]; omega⟩
    · obtain rfl : i = 24 := by omega
      have hA25 : (rP L 24).length = 25 := by rw [rP_len]; exact hL
      obtain ⟨A, hA⟩ : ∃ A, rP L 24 = A := ⟨_, rfl⟩
      rw [hA] at HMem hA25
      have HA25 := Aside0.mk hA25
      have HE := Aside0.mk hA
      have HF := Aside0.mk HMem.out.ha
      have HR := Aside0.mk HMem.out.hr
      have HB := Aside0.mk HMem.out.hb
      clear hA25 hlt hi hA HMem
      rw [show ((24 : Nat) : Int) = 24 from rfl]
      go_wp2_with (first | (refine load_ws rfl 40 _ rfl w.heap.size rfl 40 A 25 _ HF.out HA25.out Try.underlying40 rfl Hi.out ?_) | (refine store_ws rfl 40 _ _ rfl (w.heap.size+1) rfl 40 (List.replicate 25 0) A 25 rfl HR.out (by simp) HA25.out Hi.out ?_; intro w1 hR hB hF hS; have HR1 := Aside0.mk hR; have HB1 := Aside0.mk hB; clear hR hB hF hS))
      refine ret_ws rfl _ _ (w.heap.size + 1) 40 A rfl HR1.out HA25.out Try.underlying40 rfl Hi.out rfl ⟨by rw [HE.out], HB.out.trans (HB1.out _ (by omega))⟩
end Go.Proofs.Ytkpflejagagcbaa.P
