import Derived.Test.YtkpflejagagcbaaGIter
import Derived.Test.YtkpflejagagcbaaGPermute
import Derived.Test.YtkpflejagagcbaaStillIn
namespace Go.Proofs.Ytkpflejagagcbaa.P
set_option linter.unusedVariables false
open Go.RowKit Go.Shelf Go.Proofs.YtkpflejagagcbaaW.PrintWords
attribute [local go_sem] Oper.semAt_some
def sb (x : ByteArray) (i : Nat) : UInt8 := x.data.getD i 0
def absI (A : List W64) (x : ByteArray) : Nat → List W64
  | 0 => A
  | i + 1 => (absI A x i).set (i / 8) (gw (absI A x i) (i / 8) ^^^ BitVec.ofNat 64 (sb x i).toNat <<< (i % 8 * 8))
theorem absI_len (A : List W64) (x : ByteArray) (k : Nat) : (absI A x k).length = A.length := by induction k with | zero => rfl | succ k ih => rw [absI, List.length_set, ih]
def absB (A : List W64) (x : Blk) : List W64 := permuted (absI A x.1 x.1.size)
def absAll (pre : List Blk) : List W64 := pre.foldl absB (List.replicate 25 0)
theorem hpk_len (A : List W64) (k : Nat) (B : List W64) (h : B = (hp A k).1) : B.length = A.length := by rw [h, hp_len]
theorem permuted_len (A : List W64) : (permuted A).length = A.length := hpk_len A 24 _ (by unfold permuted; rfl)
theorem absB_len (A : List W64) (x : Blk) : (absB A x).length = A.length := by rw [absB, permuted_len, absI_len]
theorem absAll_snoc (pre : List Blk) (x : Blk) : absAll (pre ++ [x]) = absB (absAll pre) x := by rw [absAll, List.foldl_append, List.foldl_cons, List.foldl_nil, absAll]
theorem absAll_len (pre : List Blk) : (absAll pre).length = 25 := by
  unfold absAll
  have h : ∀ (pre : List Blk) (A : List W64), A.length = 25 → (pre.foldl absB A).length = 25 := by
    intro pre
    induction pre with
    | nil => intro A h; exact h
    | cons x pre ih =>
      intro A h
      rw [List.foldl_cons]
      exact ih _ (by rw [absB_len, h])
  exact h pre _ (List.length_replicate ..)
def outB (A : List W64) (i : Nat) : UInt8 := UInt8.ofNat (gw A (i / 8) >>> (i % 8 * 8)).toNat
def outL (A : List W64) (k : Nat) : List UInt8 := (List.range k).map (outB A)
theorem byte_wrap (b : UInt8) : IntKind.u64.wrap (b.toNat : Int) = vw (BitVec.ofNat 64 b.toNat) := by
  have hb := b.toNat_lt
  rw [wrap_nat _ (by omega)]
  unfold vw
  rw [BitVec.toNat_ofNat, Nat.mod_eq_of_lt (by omega)]
def qOf (s : ByteArray) : Nat := s.size / 136 + 1
theorem padM_q (s : ByteArray) : padM s.size = 136 * qOf s := by unfold padM qOf; omega
def hsum (s : ByteArray) : ByteArray := ⟨(outL (absAll (upto (pad s) (qOf s))) 32).toArray⟩
set_option maxRecDepth 100000 in
set_option maxHeartbeats 4000000 in
theorem sum_in (s : ByteArray) (hs : s.size ≤ 100000) (w : World) :
    CallsIn Fence.wide 9 Try.prog 18 #[.string s] w fun e w' => e = .returned (.string (hsum s)) ∧ Below w.heap.size w w' := by
  have hro : Fence.wide.round = none := rfl
  refine callsIn_of_wp_marks Try.func18 rfl trivial ?_ hro
  simp only [Try.ntmps18, List.size_toArray, List.length_cons, List.length_nil, Nat.reduceAdd, Nat.reduceSub, Array.replicate_succ, Array.replicate_zero, List.push_toArray, List.append_toArray, List.nil_append, List.cons_append]
  gi_wp2_with fail
  have HA0 : Holds (w.alloc (.cells (ws (List.replicate 25 0)) 40)) w.heap.size 40 (absAll []) := blk_new w _
  have HB0 := below_alloc (Below.refl w.heap.size w) (.cells (ws (List.replicate 25 0)) 40)
  rw [← zeros25] at HA0 HB0
  have HA := Aside0.mk HA0
  have HB := Aside0.mk HB0
  clear HA0 HB0
  refine ⟨trivial, ?_⟩
  refine (callsIn_wide.2 (blocks_any s hs _)).mono ?_
  rintro e w1 ⟨rfl, hx, hxf, hp, hl, hb⟩
  have HA1 := Aside0.mk (HA.out.below hb)
  have HB1 := Aside0.mk (below_step HB.out hb)
  have hsz : (w.alloc (.cells #[Value.int .u64 0, .int .u64 0, .int .u64 0, .int .u64 0, .int .u64 0, .int .u64 0, .int .u64 0, .int .u64 0, .int .u64 0, .int .u64 0, .int .u64 0, .int .u64 0, .int .u64 0, .int .u64 0, .int .u64 0, .int .u64 0, .int .u64 0, .int .u64 0, .int .u64 0, .int .u64 0, .int .u64 0, .int .u64 0, .int .u64 0, .int .u64 0, .int .u64 0] 40)).heap.size = w.heap.size + 1 := by simp
  rw [hsz] at hx hxf hp hl ⊢
  have HX := Aside0.mk hx
  have HP := Aside0.mk hp
  have HL := Aside0.mk hl
  clear hx hxf hp hl hb HA HB
  have hlen := (pad_len s).trans (padM_q s)
  rw [padM_q] at HX
  have hq : qOf s ≤ 1000 := by unfold qOf; omega
  have HS : Aside0 (hsum s = ⟨(outL (absAll (upto (pad s) (qOf s))) 32).toArray⟩) := Aside0.mk rfl
  obtain ⟨h, hh⟩ : ∃ h, hsum s = h := ⟨_, rfl⟩
  rw [hh] at HS
  have HH := Aside0.mk hh
  clear hh
  generalize pad s = L at *
  generalize qOf s = q at *
  gi_wp2_with fail
  have hga := HA1.out.lt
  refine wpIn_rangeFunc_ownF hro (by omega) (gf := 27) (lb := #[.pointer (some ⟨w.heap.size + 1 + 1, 0, none⟩)]) rfl trivial (enters_of Try.func27 (by kernel_rfl) rfl)
    (iter_stops Fence.wide 8 trivial hro (by omega) (w.heap.size + 1 + 1) (w.heap.size + 1) q (136 * q) L w1 rfl hlen hq (by have := HL.out; omega) HL.out HX.out HP.out) Keeps2.trans
    (fun W l o o' hl _ _ _ => ⟨World.putObj_heap_other (by have := HL.out; omega), World.putObj_heap_other (by have := HL.out; omega)⟩) (Below.refl _ _) (fun _ => rfl)
    (fun pre W => Holds W w.heap.size 40 (absAll pre) ∧ (w1.heap.size ≤ W.heap.size ∧ Below w.heap.size w W)) (fun _ _ _ => False)
    (OwnFrom.and (fun s A B row hs hg hr => (hg.block _ hs.lt (fun e => by have := (hr _ e.symm).1; omega)).trans hs) (OwnFrom.and (fun s A B row hs hg hr => Nat.le_trans hs hg.size) (ownFrom_below (Nat.le_refl _) HB1.out.size)))
    (fun _ _ _ _ _ hs _ _ => hs) ⟨HA1.out, Nat.le_refl _, HB1.out⟩ ?a1 ?assign ?body ?done ?stop
  case assign =>
    intro l x W K hK
    gi_wp2
    exact hK
  case stop =>
    rintro D c pre W _ _ h _
    exact h.elim
  case body =>
    rintro l pre x W ⟨ha, hwW, hb⟩ _
    gi_wp2_with fail
    have hx6 := x.2
    have hst := absAll_snoc pre x
    have hab : ∀ A, absB A x = permuted (absI A x.1 x.1.size) := fun A => rfl
    rw [hab] at hst
    rw [hx6] at hst
    have hal := absAll_len pre
    generalize absAll pre = A at *
    have hcell : ∀ i, i < 136 → x.1.data[i]? = some (sb x.1 i) := by
      intro i hi
      have : i < x.1.data.size := by show i < x.1.size; omega
      rw [Array.getElem?_eq_getElem this]
      simp only [sb, Array.getD, dif_pos this]
      rfl
    generalize x.1 = y at *
    rw [show (y.size : Int) = 136 by omega]
    gi_loopw [13] (fun i wr => ∃ k : Nat, k ≤ 136 ∧ i = .int .i64 (k : Nat) ∧ Holds wr w.heap.size 40 (absI A y k) ∧ (∃ wq, True) ∧ Below w.heap.size w wr ∧ KeepsOthers W wr ∧ Keeps2 (w.heap.size + 1) (w.heap.size + 1 + 1) W wr) (fun i _ => 136 - (intOf i).toNat)
    case atStart => exact ⟨0, by omega, rfl, ha, ⟨W, trivial⟩, hb, KeepsOthers.refl _, Keeps2.refl _ _ _⟩
    case round =>
      obtain ⟨k, hk, rfl, hA, _, hB, hKO, hK2⟩ := hrel
      by_cases hlt : k < 136
      · obtain ⟨p, hp⟩ : ∃ p, k / 8 = p := ⟨_, rfl⟩
        obtain ⟨r, hr⟩ : ∃ p, k % 8 = p := ⟨_, rfl⟩
        obtain ⟨r8, hr8⟩ : ∃ p, r * 8 = p := ⟨_, rfl⟩
        have hst2 : absI A y (k + 1) = (absI A y k).set p (gw (absI A y k) p ^^^ BitVec.ofNat 64 (sb y k).toNat <<< r8) := by rw [absI, hp, hr, hr8]
        have hl2 := absI_len A y k
        rw [hal] at hl2
        have hck := hcell k hlt
        generalize absI A y k = C at *
        have c0 := hA.cell p (by omega)
        have c1 := hA.free p
        have f1 : (k : Int) / 8 = (p : Int) := by omega
        have f2 : (k : Int) % 8 = (r : Int) := by omega
        have f3 : (r : Int) * 8 = (r8 : Int) := by omega
        have hr64 : r8 < 64 := by omega
        have hp25 : p < 25 := by omega
        have HST := Aside0.mk hst
        have HST2 := Aside0.mk hst2
        have HCL := Aside0.mk hcell
        clear hst hst2 hcell hp hr hr8
        have hy8 : (256 : Int) > ((sb y k).toNat : Int) := by have := (sb y k).toNat_lt; omega
        gi_wp2
        have i1 : (p : Int) < 25 := by omega
        have i2 : (k : Int) < 136 := by omega
        have e1 : (k : Int).tdiv 8 = (p : Int) := by rw [Int.tdiv_eq_ediv_of_nonneg (by omega)]; omega
        have e5 : IntKind.i64.wrap (r8 : Int) = (r8 : Int) := by rw [IntKind.wrap_i64]; omega
        have e6 := byte_wrap (sb y k)
        have e7 := fun a => vw_shl a r8
        have e8 : min r8 64 = r8 := by omega
        have e9 : y[k]'(by omega) = sb y k := by
          have := hck
          rw [Array.getElem?_eq_getElem (by show k < y.size; omega)] at this
          exact Option.some.inj this
        have e0 : IntKind.i64.wrap (p : Int) = (p : Int) := by rw [IntKind.wrap_i64]; omega
        have e2 : (k : Int).tmod 8 = (r : Int) := by rw [Int.tmod_eq_emod_of_nonneg (by omega)]; omega
        have e3 : IntKind.i64.wrap ((r : Int) * 8) = (r8 : Int) := by rw [IntKind.wrap_i64]; omega
        refine wpIn_region_still_tail 14 (by kernel_rfl) (by kernel_rfl) (by kernel_rfl) ?_
        simp only [List.take_succ_cons, List.take_zero, List.drop_succ_cons, List.drop_zero]
        repeat still_step
        refine wpStill_nil ?_
        change wpList _ _ _ _ _ wr.drew
        simp only [vw_xor]
        clear e0 e1 e2 e3 e5 e6 e7 e8 e9
        go_wp2
        refine ⟨rfl, ?_⟩
        gi_wp2
        refine ⟨⟨k + 1, by omega, by go_num, ?_, ⟨W, trivial⟩, ?_, ?_, ?_⟩, by simp [intOf]; omega⟩
        · rw [HST2.out]; exact (hA.set p _).drewN 1
        · exact below_drew1 (below_set hB (Nat.le_refl _))
        · exact (hKO.trans (KeepsOthers.setCell _ _ _)).trans (KeepsOthers.drew _)
        · exact hK2.trans ⟨Below.heap_setCell _ _ _ _ (by show w.heap.size + 1 ≠ w.heap.size; omega), Below.heap_setCell _ _ _ _ (by show w.heap.size + 1 + 1 ≠ w.heap.size; omega)⟩
      · obtain rfl : k = 136 := by omega
        have hl2 := absI_len A y 136
        rw [hal] at hl2
        generalize absI A y 136 = C at *
        have HCL2 := Aside0.mk hl2
        have HA2 := Aside0.mk hA
        clear hl2 hA hlt hk
        have hi : (Try.prog.info? 40).map (·.size) = some 25 := by kernel_rfl
        have Hi := Aside0.mk hi
        clear hi
        rw [show ((136 : Nat) : Int) = 136 from rfl]
        gi_wp2_with (refine load_wsIn rfl 40 _ rfl w.heap.size rfl 40 C 25 _ HA2.out HCL2.out Try.underlying40 rfl Hi.out ?_)
        refine ⟨trivial, ?_⟩
        refine (CallsIn.inRound l (callsIn_wide.2 (permute_any C HCL2.out _))).mono ?_
        rintro e w4 ⟨rfl, hb4⟩
        have HA4 := Aside0.mk (HA2.out.below hb4)
        have HB4 := Aside0.mk (below_step hB hb4)
        have HK4 : Aside0 (KeepsOthers W w4) := Aside0.mk (hKO.trans ⟨hb4.size, fun k o hk ho => (hb4.block k (Array.getElem?_eq_some_iff.1 hk).1).trans hk⟩)
        have hsz4 : w.heap.size + 1 + 1 < wr.heap.size := by have := HL.out; have := hKO.size; omega
        have H24 : Aside0 (Keeps2 (w.heap.size + 1) (w.heap.size + 1 + 1) W w4) := Aside0.mk (hK2.trans ⟨hb4.block _ (by omega), hb4.block _ hsz4⟩)
        clear hb4 HA2 hB hKO hK2
        have hpl := permuted_len C
        rw [HCL2.out] at hpl
        rw [← hst] at hpl ⊢
        have HPL := Aside0.mk hpl
        clear hpl
        obtain ⟨A1, hA1⟩ : ∃ A1, absAll (pre ++ [x]) = A1 := ⟨_, rfl⟩
        rw [hA1] at HPL ⊢
        have HE := Aside0.mk hA1
        clear hA1 hst hab hcell
        gi_wp2_with (refine store_wsIn rfl 40 _ _ rfl w.heap.size rfl 40 C A1 25 rfl HA4.out HCL2.out HPL.out Hi.out ?_; intro w5 hR hBw hF hS; have HA5 := Aside0.mk hR; have HB5 := Aside0.mk hBw; have HF5 := Aside0.mk hF; clear hR hBw hF hS)
        refine ⟨HK4.out.trans ⟨(HB5.out w.heap.size (Nat.le_refl _)).size, fun k o hk ho => (HF5.out k (fun e => ?_)).trans hk⟩, H24.out.trans ⟨HF5.out _ (by omega), HF5.out _ (by omega)⟩, by show Holds _ _ _ (absAll (pre ++ [x])); rw [HE.out]; exact HA5.out, by have := HK4.out.size; have := (HB5.out w.heap.size (Nat.le_refl _)).size; omega, HB4.out.trans (HB5.out _ (Nat.le_refl _))⟩
        subst e
        have := HA4.out
        rw [Holds] at this
        rw [this] at hk
        cases hk
        cases ho
  case done =>
    rintro D ys W hD rfl ⟨ha, hwW, hb⟩ hK
    have hal := absAll_len (upto L q)
    generalize absAll (upto L q) = A at *
    have hbl := Lib.fresh_isBuilder 44 5 W
    have ha1 := ha.alloc (.cells #[.pointer none, .slice none 0 0] 44)
    have hb1 := (Below.refl W.heap.size W).alloc (Nat.le_refl _) (.cells #[.pointer none, .slice none 0 0] 44)
    have hDW : D < W.heap.size := (Array.getElem?_eq_some_iff.1 hK).1
    have hgW := ha.lt
    gi_wp2_with fail
    gi_loopw [33] (fun i wr => ∃ k : Nat, k ≤ 32 ∧ i = .int .i64 (k : Nat) ∧ Holds wr w.heap.size 40 A ∧ Lib.IsBuilder 44 5 W.heap.size W.heap.size (Lib.byteCells (outL A k)) wr ∧ Below W.heap.size W wr) (fun i _ => 32 - (intOf i).toNat)
    case atStart => exact ⟨0, by omega, rfl, ha1, hbl, hb1⟩
    case round =>
      obtain ⟨k, hk, rfl, hA, hB, hBw⟩ := hrel
      by_cases hlt : k < 32
      · obtain ⟨p, hp⟩ : ∃ p, k / 8 = p := ⟨_, rfl⟩
        obtain ⟨r, hr⟩ : ∃ p, k % 8 = p := ⟨_, rfl⟩
        obtain ⟨r8, hr8⟩ : ∃ p, r * 8 = p := ⟨_, rfl⟩
        have hob : outB A k = UInt8.ofNat (gw A p >>> r8).toNat := by rw [outB, hp, hr, hr8]
        have f1 : (k : Int) / 8 = (p : Int) := by omega
        have f2 : (k : Int) % 8 = (r : Int) := by omega
        have f3 : (r : Int) * 8 = (r8 : Int) := by omega
        have hr64 : r8 < 64 := by omega
        have c0 := hA.cell p (by omega)
        have f4 := vw_shr (gw A p) r8
        clear hp hr hr8
        gi_wp2_with fail
        refine ⟨trivial, ?_⟩
        refine (callsIn_wide.2 (write_byte W.heap.size W.heap.size _ (vw (gw A p >>> r8) % 256) wr hB (by rw [Lib.byteCells_length]; simp [outL]; omega) hBw.size)).mono ?_
        rintro e w6 ⟨rfl, hB6, hb6⟩
        have hby : (vw (gw A p >>> r8) % 256) = ((outB A k).toNat : Int) := by
          rw [hob]
          unfold vw
          simp
        have hL6 : Lib.byteCells (outL A k) ++ [Value.int .u8 (vw (gw A p >>> r8) % 256)] = Lib.byteCells (outL A (k + 1)) := by
          rw [hby]
          simp [outL, Lib.byteCells, List.range_succ]
        rw [hL6] at hB6
        have hA6 : Holds w6 w.heap.size 40 A := (hb6.block _ hgW).trans hA
        clear f1 f2 f3 f4 c0
        gi_wp2
        refine ⟨⟨k + 1, by omega, by go_num, hA6, .inr hB6, hBw.trans hb6⟩, by simp [intOf]; omega⟩
      · obtain rfl : k = 32 := by omega
        rw [show ((32 : Nat) : Int) = 32 from rfl]
        gi_wp2_with fail
        refine ⟨trivial, ?_⟩
        have hne : outL A 32 ≠ [] := by
          intro e
          have := congrArg List.length e
          simp [outL] at this
        refine (callsIn_wide.2 (builder_string W.heap.size W.heap.size (outL A 32) wr hB hne)).mono ?_
        rintro e w7 ⟨rfl, hb7⟩
        have hK7 : w7.heap[D]? = some (.deferred (some [])) := ((hb7.block D hDW).trans (hBw.block D hDW)).trans hK
        have hfin := (hb.trans (hBw.mono hb.size)).trans (hb7.mono hb.size)
        have hfin2 := hfin.trans (belowK_b (w := w) (Nat.le_refl _) w7 D _ (.deferred none) (by omega) hK7 rfl rfl)
        rw [← HS.out]
        clear hne hbl ha1 hb1 hB hA
        gi_wp2
        refine ⟨by simp, .inl ⟨_, _, rfl, run_takeDeferred hK7, ?_⟩⟩
        exact ⟨_, results_tmp rfl _ _ _, by rw [HH.out]; rfl, hfin2⟩
theorem sum_any (s : ByteArray) (hs : s.size ≤ 100000) (w : World) :
    Calls Try.prog 18 #[.string s] w fun e w' => e = .returned (.string (hsum s)) ∧ Below w.heap.size w w' := callsIn_wide.1 (sum_in s hs w)
#print axioms sum_any
end Go.Proofs.Ytkpflejagagcbaa.P
