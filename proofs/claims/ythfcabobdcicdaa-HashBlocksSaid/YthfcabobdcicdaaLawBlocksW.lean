import Derived.Test.YthfcabobdcicdaaGAwake
import Derived.Test.YthfcabobdcicdaaGRSum
namespace Go.Proofs.Ythfcabobdcicdaa.P
set_option linter.unusedVariables false
open Go.RowKit Go.Proofs.YthfcabobdcicdaaW.PrintWords
/-! the plain law: to lay bits beside others -/
theorem xor_or (a b : W64) (i : Nat) (h : a.toNat < 2 ^ i) : a ^^^ b <<< i = a ||| b <<< i := by
  apply BitVec.eq_of_getLsbD_eq
  intro j hj
  rw [BitVec.getLsbD_xor, BitVec.getLsbD_or, BitVec.getLsbD_shiftLeft]
  by_cases hji : j < i
  · simp [hji]
  · have : a.getLsbD j = false := by
      show a.toNat.testBit j = false
      exact Nat.testBit_lt_two_pow (Nat.lt_of_lt_of_le h (Nat.pow_le_pow_right (by omega) (by omega)))
    rw [this]
    simp
/-- Words with bytes laid into them by or. -/
def orI (A : List W64) (x : Nat → UInt8) : Nat → List W64
  | 0 => A
  | i + 1 => (orI A x i).set (i / 8) (gw (orI A x i) (i / 8) ||| BitVec.ofNat 64 (x i).toNat <<< (i % 8 * 8))
theorem orI_len (A : List W64) (x : Nat → UInt8) (k : Nat) : (orI A x k).length = A.length := by induction k with | zero => rfl | succ k ih => rw [orI, List.length_set, ih]
theorem gw_set (L : List W64) (k j : Nat) (v : W64) : gw (L.set k v) j = if k = j ∧ j < L.length then v else gw L j := by
  unfold gw
  simp only [List.getD_eq_getElem?_getD, List.getElem?_set]
  by_cases h : k = j
  · subst h
    by_cases h2 : k < L.length
    · simp [h2]
    · simp [h2]
  · simp [h]
theorem gw_zeros (n v : Nat) : gw (List.replicate n (0 : W64)) v = 0 := by
  unfold gw
  rw [List.getD_eq_getElem?_getD, List.getElem?_replicate]
  split <;> rfl
theorem orI_lt (x : Nat → UInt8) (k : Nat) : ∀ v, (gw (orI (List.replicate 25 0) x k) v).toNat < 2 ^ (8 * (k - 8 * v)) := by
  induction k with
  | zero =>
    intro v
    rw [orI, gw_zeros]
    exact Nat.two_pow_pos _
  | succ k ih =>
    intro v
    rw [orI, gw_set]
    have mono : 2 ^ (8 * (k - 8 * v)) ≤ 2 ^ (8 * (k + 1 - 8 * v)) := Nat.pow_le_pow_right (by omega) (by omega)
    split
    · rename_i h
      obtain ⟨rfl, _⟩ := h
      have i1 := ih (k / 8)
      rw [BitVec.toNat_or, BitVec.toNat_shiftLeft]
      refine Nat.or_lt_two_pow (Nat.lt_of_lt_of_le i1 mono) (Nat.lt_of_le_of_lt (Nat.mod_le _ _) ?_)
      rw [BitVec.toNat_ofNat, Nat.shiftLeft_eq, show 8 * (k + 1 - 8 * (k / 8)) = 8 + k % 8 * 8 by omega, Nat.pow_add]
      have hb := (x k).toNat_lt
      exact Nat.mul_lt_mul_of_pos_right (by omega) (Nat.two_pow_pos _)
    · exact Nat.lt_of_lt_of_le (ih v) mono
theorem orI_abs (y : ByteArray) (k : Nat) : orI (List.replicate 25 0) (sb y) k = absI (List.replicate 25 0) y k := by
  induction k with
  | zero => rfl
  | succ k ih =>
    have h := orI_lt (sb y) k (k / 8)
    rw [show 8 * (k - 8 * (k / 8)) = k % 8 * 8 by omega] at h
    rw [orI, absI, ← xor_or _ _ _ h, ih]
theorem zero31 (Z : List UInt8) (hZ : List.replicate 136 0 = Z) (W : World) : (zeroValue 31).run Try.prog W = .ok (.agg (bs Z)) W := by
  have hz : (Try.prog.info? 31).map (·.zero) = some (some (.agg (bs (List.replicate 136 0)))) := by kernel_rfl
  obtain ⟨i, hi, hz⟩ := Option.map_eq_some_iff.1 hz
  rw [hZ] at hz
  clear hZ
  simp [zeroValue, typeInfo, hi, hz]
theorem orI_congr (A : List W64) (x x' : Nat → UInt8) (k : Nat) (h : ∀ i, i < k → x i = x' i) : orI A x k = orI A x' k := by
  induction k with
  | zero => rfl
  | succ k ih => rw [orI, orI, ih (fun i hi => h i (by omega)), h k (by omega)]
def HoldsT (W : World) (g : Nat) (L : List UInt8) : Prop := W.heap[g]? = some (.cells (bs L) 31 (0, 0))
theorem HoldsT.cell {W : World} {g : Nat} {L : List UInt8} (h : HoldsT W g L) (k : Nat) (hk : k < L.length) : W.cell? ⟨g, k, none⟩ = some (.int .u8 ((gb L k).toNat : Int)) :=
  (blk_cell h k).trans (bs_get L k hk)
theorem HoldsT.free {W : World} {g : Nat} {L : List UInt8} (h : HoldsT W g L) (k : Nat) : W.frozen? ⟨g, k, none⟩ = false := blk_frozen h k
theorem HoldsT.set {W : World} {g : Nat} {L : List UInt8} (h : HoldsT W g L) (k : Nat) (b : UInt8) : HoldsT (W.setCell ⟨g, k, none⟩ (.int .u8 (b.toNat : Int))) g (L.set k b) := by
  unfold HoldsT
  rw [← bs_set]
  exact blk_set h k _
theorem run_copy31 (g : Nat) (s : ByteArray) (L : List UInt8) (W : World) (hg : HoldsT W g L) (hL : L.length = 136) (hs : s.size ≤ 136) (ty : TypeId) :
    (Builtin.copy_ #[30, 9] ty #[.slice (some ⟨g, 0, none⟩) 136 136, .string s]).run Try.prog W = .ok (goInt s.size) (W.setRow g (bs (s.data.toList ++ L.drop s.size))) := by
  rw [Lib.run_copy_row_string W 30 9 ty 5 g 0 136 136 s (bs L) 31 Try.underlying30 (by kernel_rfl) hg hs (by rw [bs_size]; omega)]
  congr 2
  simp [bs, Lib.byteCells, List.map_drop]
theorem run_index_bs {P : Program} {t e : TypeId} {n : Nat} (h : P.underlying t = some (.array n e)) (he : P.underlying e = some (.int .u8)) (hc : P.cellsOf e = 1) (L : List UInt8) (k : Nat) (hk : k < n) (hL : L.length = n) (W : World) :
    (Instr.index t (.agg (bs L)) (.int .i64 (k : Int))).run P W = .ok (.int .u8 ((gb L k).toNat : Int)) W := by
  have hi : ∃ i, P.info? e = some i := by
    unfold Program.cellsOf at hc
    cases h : P.info? e with
    | none => simp [h] at hc
    | some i => exact ⟨i, rfl⟩
  obtain ⟨i, hi⟩ := hi
  have hs : i.size = 1 := by unfold Program.cellsOf at hc; simpa [hi] using hc
  have hag : ∀ w, (isAgg e).run P w = .ok false w := fun w => by simp [isAgg, run_underlying he]
  have hz : (sizeOf e).run P W = .ok 1 W := by rw [run_sizeOf W hi, hc]
  have hg := bs_get L k (by omega)
  have h3 : 0 ≤ (k : Int) ∧ (k : Int) < (n : Int) := by omega
  simp [Instr.index, asIntOf, run_underlying h, h3, hz, part, hag, hg]
  intro h; omega
set_option maxRecDepth 100000 in
set_option maxHeartbeats 4000000 in
theorem blocks_small (s : ByteArray) (hs : s.size ≤ 135) (w : World) : Calls Try.prog 7 #[.string s] w fun e w' => e = .returned (.bool true) ∧ Below w.heap.size w w' := by
  have hsum1 := sum_any s (by omega)
  have hsz1 := hsum_size s
  have hpm : padM s.size = 136 := by unfold padM; omega
  have hq1 : qOf s = 1 := by unfold qOf; omega
  have hlen := (pad_len s).trans hpm
  have hS : hsum s = ⟨(outL (permuted (orI (List.replicate 25 0) (gb (pad s)) 136)) 32).toArray⟩ := by
    have h1 : absAll (upto (pad s) 1) = permuted (absI (List.replicate 25 0) (blkOf (pad s) 0).1 136) := by
      rw [upto_succ, absAll_snoc, absB, (blkOf (pad s) 0).2]
      rfl
    rw [hsum, hq1, h1, ← orI_abs, orI_congr _ (sb (blkOf (pad s) 0).1) (gb (pad s)) 136 (fun i hi => by rw [gb_blk (pad s) 0 i hi (by omega)]; simp)]
  have hp0 : pad0 s = s.data.toList ++ (List.replicate 136 0).drop s.size := by rw [pad0, hpm]
  have hp1 : pad1 s = (pad0 s).set s.size (gb (pad0 s) s.size ||| 1) := rfl
  have hp2 : pad s = (pad1 s).set (padM s.size - 1) (gb (pad1 s) (padM s.size - 1) ||| 128) := rfl
  rw [hpm] at hp2
  simp only [Nat.reduceSub] at hp2
  generalize hsum s = h at *
  generalize pad s = LP at *
  obtain ⟨n, hn⟩ : ∃ n, s.size = n := ⟨_, rfl⟩
  rw [hn] at hp1 hs
  have HP := Aside0.mk (And.intro hp0 (And.intro hp1 hp2))
  have HLP := Aside0.mk hlen
  have HS := Aside0.mk hS
  have HZ1 := Aside0.mk hsz1
  have HSUM := Aside0.mk hsum1
  clear hp0 hp1 hp2 hlen hS hpm hq1 hsum1 hsz1
  obtain ⟨Z, hZ⟩ : ∃ Z, List.replicate 136 (0 : UInt8) = Z := ⟨_, rfl⟩
  have hal := zero31 Z hZ
  have hZl : Z.length = 136 := by rw [← hZ]; rfl
  have HZ := Aside0.mk hZ
  have HZL := Aside0.mk hZl
  clear hZ hZl
  go_enter Try.func7, Try.ntmps7
  go_wp2_with fail
  have T : HoldsT (w.alloc (.cells (bs Z) 31)) w.heap.size Z := blk_new w _
  rw [run_copy31 w.heap.size s Z _ T HZL.out (by omega)]
  have hG := setRow_heap _ w.heap.size (bs Z) (bs (s.data.toList ++ Z.drop s.size)) 31 (0, 0) T
  have hB := below_setRow (w := w) (below_alloc (Below.refl _ _) (.cells (bs Z) 31)) (g := w.heap.size) (Nat.le_refl _) (bs (s.data.toList ++ Z.drop s.size))
  generalize World.setRow _ _ _ = W2 at *
  simp only [Result.andThen]
  rw [Oper.upon_value]
  have hls : (s.data.toList ++ Z.drop s.size).length = 136 := by have := HZL.out; simp; omega
  obtain ⟨hp0, hp1, hp2⟩ := HP.out
  rw [HZ.out] at hp0
  rw [← hp0] at hG hls
  clear hp0 HP T hal HZ HZL
  generalize pad0 s = L at *
  generalize pad1 s = L1 at *
  obtain ⟨v1, hv1⟩ : ∃ v1, gb L n ||| 1 = v1 := ⟨_, rfl⟩
  rw [hv1] at hp1
  subst hp1
  obtain ⟨v2, hv2⟩ : ∃ v2, gb (L.set n v1) 135 ||| 128 = v2 := ⟨_, rfl⟩
  rw [hv2] at hp2
  have e1 : bits .or .u8 ((gb L n).toNat : Int) 1 = (v1.toNat : Int) := by rw [← hv1]; exact or_byte _ 1
  have e2 : bits .or .u8 ((gb (L.set n v1) 135).toNat : Int) 128 = (v2.toNat : Int) := by rw [← hv2]; exact or_byte _ 128
  have HG := Aside0.mk (show HoldsT W2 w.heap.size L from hG)
  have HB := Aside0.mk hB
  have HL := Aside0.mk hls
  have HP := Aside0.mk hp2
  clear hG hB hls hp2 hv1 hv2
  have HG1 : Aside0 (HoldsT (W2.setCell ⟨w.heap.size, n, none⟩ (.int .u8 (v1.toNat : Int))) w.heap.size (L.set n v1)) := Aside0.mk (HG.out.set n v1)
  have HG2 := Aside0.mk (HG1.out.set 135 v2)
  rw [← HP.out] at HG2
  have b0 := HG.out.cell n (by rw [HL.out]; omega)
  have b1 := HG.out.free n
  have b2 := HG1.out.cell 135 (by rw [List.length_set, HL.out]; omega)
  have b3 := HG1.out.free 135
  have HB2 : Aside0 (Below w.heap.size w ((W2.setCell ⟨w.heap.size, n, none⟩ (.int .u8 (v1.toNat : Int))).setCell ⟨w.heap.size, 135, none⟩ (.int .u8 (v2.toNat : Int)))) := Aside0.mk (below_set (below_set HB.out (Nat.le_refl _)) (Nat.le_refl _))
  have l2 : w.heap.size < W2.heap.size := blk_lt HG.out
  clear HG HG1 HB HL HP
  have hi31 : (Try.prog.info? 31).map (·.size) = some (bs LP).size := by rw [bs_size, HLP.out]; kernel_rfl
  have Hi31 := Aside0.mk hi31
  clear hi31
  go_wp2_with (refine wpList_load_row rfl 31 _ rfl w.heap.size rfl 31 (bs LP) (0, 0) _ (blk_alloc HG2.out _) Try.underlying31 rfl Hi31.out ?_)
  obtain ⟨W3, hW3⟩ : ∃ W3, (W2.setCell ⟨w.heap.size, n, none⟩ (.int .u8 (v1.toNat : Int))).setCell ⟨w.heap.size, 135, none⟩ (.int .u8 (v2.toNat : Int)) = W3 := ⟨_, rfl⟩
  have hs3 : W3.heap.size = W2.heap.size := by rw [← hW3]; simp
  rw [hW3] at HG2 HB2 ⊢
  have ha0 : Holds (W3.alloc (.cells (ws (List.replicate 25 0)) 23)) W2.heap.size 23 (orI (List.replicate 25 0) (gb LP) 0) := by rw [← hs3]; exact blk_new W3 _
  have hb0 := below_alloc HB2.out (.cells (ws (List.replicate 25 0)) 23)
  rw [← zeros25] at ha0 hb0
  have HA0 := Aside0.mk ha0
  have HB0 := Aside0.mk hb0
  clear ha0 hb0 hW3 hs3 HG2 HB2 b0 b1 b2 b3 e1 e2
  generalize W2.heap.size = ga at *
  generalize W3.alloc _ = W4 at *
  have hin := fun (k : Nat) (hk : k < 136) (W : World) => run_index_bs (P := Try.prog) Try.underlying31 Try.underlying5 (by kernel_rfl) LP k hk HLP.out W
  have HIN := Aside0.mk hin
  clear hin
  go_loopw [27] (fun i wr => ∃ k : Nat, k ≤ 136 ∧ i = .int .i64 (k : Nat) ∧ Holds wr ga 23 (orI (List.replicate 25 0) (gb LP) k) ∧ Below w.heap.size w wr) (fun i _ => 136 - (intOf i).toNat)
  case atStart => exact ⟨0, by omega, rfl, HA0.out, HB0.out⟩
  case round =>
    clear HA0 HB0
    obtain ⟨k, hk, rfl, ha, hb⟩ := hrel
    have HA := Aside0.mk ha
    have HB := Aside0.mk hb
    clear ha hb
    by_cases hlk : k < 136
    · obtain ⟨v, hv⟩ : ∃ p, k / 8 = p := ⟨_, rfl⟩
      obtain ⟨r1, hr⟩ : ∃ p, k % 8 = p := ⟨_, rfl⟩
      obtain ⟨r8, hr8⟩ : ∃ p, r1 * 8 = p := ⟨_, rfl⟩
      have hst2 : orI (List.replicate 25 0) (gb LP) (k + 1) = (orI (List.replicate 25 0) (gb LP) k).set v (gw (orI (List.replicate 25 0) (gb LP) k) v ||| BitVec.ofNat 64 (gb LP k).toNat <<< r8) := by rw [orI, hv, hr, hr8]
      have hl2 := orI_len (List.replicate 25 0) (gb LP) k
      rw [List.length_replicate] at hl2
      have hx := HIN.out k hlk
      generalize orI (List.replicate 25 0) (gb LP) k = C at *
      have c0 := HA.out.cell v (by omega)
      have c1 := HA.out.free v
      have hr64 : r8 < 64 := by omega
      have hp25 : v < 25 := by omega
      have HST2 := Aside0.mk hst2
      have hy8 : (256 : Int) > ((gb LP k).toNat : Int) := by have := (gb LP k).toNat_lt; omega
      have i1 : (v : Int) < 25 := by omega
      have i2 : (k : Int) < 136 := by omega
      have e1 : (k : Int).tdiv 8 = (v : Int) := by rw [Int.tdiv_eq_ediv_of_nonneg (by omega)]; omega
      have e2 : (k : Int).tmod 8 = (r1 : Int) := by rw [Int.tmod_eq_emod_of_nonneg (by omega)]; omega
      have e3 : IntKind.i64.wrap ((r1 : Int) * 8) = (r8 : Int) := by rw [IntKind.wrap_i64]; omega
      have e4 : IntKind.i64.wrap (r8 : Int) = (r8 : Int) := by rw [IntKind.wrap_i64]; omega
      have e0 : IntKind.i64.wrap (v : Int) = (v : Int) := by rw [IntKind.wrap_i64]; omega
      have e6 := byte_wrap (gb LP k)
      have e7 := fun a => vw_shl a r8
      have e8 : min r8 64 = r8 := by omega
      have E := Aside0.mk (And.intro e0 (And.intro e1 (And.intro e2 (And.intro e3 (And.intro e4 (And.intro e6 (And.intro e7 e8)))))))
      clear hst2 hv hr hr8 e0 e1 e2 e3 e4 e6 e7 e8
      go_wp2
      obtain ⟨e0, e1, e2, e3, e4, e6, e7, e8⟩ := E.out
      refine wp_region_still_tail 12 (by kernel_rfl) (by kernel_rfl) ?_
      simp only [List.take_succ_cons, List.take_zero, List.drop_succ_cons, List.drop_zero]
      repeat still_step
      refine wpStill_nil ?_
      change wpList _ _ _ _ _ wr.drew
      simp only [vw_or]
      clear e0 e1 e2 e3 e4 e6 e7 e8 E hx
      go_wp2
      refine ⟨⟨k + 1, by omega, by go_num, ?_, ?_⟩, by simp [intOf]; omega⟩
      · rw [HST2.out]; exact (HA.out.set v _).drewN 1
      · exact below_drew1 (below_set HB.out (by show w.heap.size ≤ ga; omega))
    · obtain rfl : k = 136 := by omega
      have hl2 := orI_len (List.replicate 25 0) (gb LP) 136
      rw [List.length_replicate] at hl2
      generalize orI (List.replicate 25 0) (gb LP) 136 = C at *
      have HCL := Aside0.mk hl2
      have hi : (Try.prog.info? 23).map (·.size) = some 25 := by kernel_rfl
      have Hi := Aside0.mk hi
      clear hl2 hlk hk hi HIN Hi31
      rw [show ((136 : Nat) : Int) = 136 from rfl]
      go_wp2_with (refine load_ws rfl 23 _ rfl ga rfl 23 C 25 _ HA.out HCL.out Try.underlying23 rfl Hi.out ?_)
      refine (rpermute_any C HCL.out _).mono ?_
      rintro e w4 ⟨rfl, hb4⟩
      have HA4 := Aside0.mk (HA.out.below hb4)
      have HB4 := Aside0.mk (below_step HB.out hb4)
      clear hb4 HA HB
      have hpl := permuted_len C
      have hpe := permuted_eq C HCL.out
      rw [HCL.out] at hpl
      rw [← hpe]
      have hS := HS.out
      obtain ⟨A, hA1⟩ : ∃ A1, permuted C = A1 := ⟨_, rfl⟩
      rw [hA1] at hpl hS ⊢
      have HPL := Aside0.mk hpl
      have hcl : ∀ k, k < 32 → ∃ hk : k < h.size, h[k]'hk = outB A k := by
        intro k hk
        subst hS
        refine ⟨by show k < (outL A 32).toArray.size; simp [outL, hk], ?_⟩
        show (outL A 32).toArray[k]'_ = _
        simp [outL]
      have HCE := Aside0.mk hcl
      clear hpl hpe hA1 hS HS hcl
      go_wp2_with (refine store_ws rfl 23 _ _ rfl ga rfl 23 C A 25 rfl HA4.out HCL.out HPL.out Hi.out ?_; intro w5 hR hBw hF hS; have HA5 := Aside0.mk hR; have HB5 := Aside0.mk hBw; clear hR hBw hF hS)
      have HBW := Aside0.mk (HB4.out.trans (HB5.out _ (by omega)))
      clear HB4 HB5 HA4
      refine (HSUM.out _).mono ?_
      rintro e w6 ⟨rfl, hb⟩
      have HA6 := Aside0.mk (HA5.out.below hb)
      have HB6 := Aside0.mk (below_step HBW.out hb)
      clear hb HA5 HBW HSUM
      have hz1 := HZ1.out
      go_wp2
      go_loopw [51] (fun i wr => ∃ k : Nat, k ≤ 32 ∧ i = .int .i64 (k : Nat) ∧ Holds wr ga 23 A ∧ Below w.heap.size w wr) (fun i _ => 32 - (intOf i).toNat)
      case atStart => exact ⟨0, by omega, rfl, HA6.out, HB6.out⟩
      case round =>
        clear HA6 HB6
        obtain ⟨k, hk, rfl, ha, hb⟩ := hrel
        have HA := Aside0.mk ha
        have HB := Aside0.mk hb
        clear ha hb
        by_cases hlk : k < 32
        · obtain ⟨v, hv⟩ : ∃ p, k / 8 = p := ⟨_, rfl⟩
          obtain ⟨r1, hr⟩ : ∃ p, k % 8 = p := ⟨_, rfl⟩
          obtain ⟨r8, hr8⟩ : ∃ p, r1 * 8 = p := ⟨_, rfl⟩
          have hob : outB A k = UInt8.ofNat (gw A v >>> r8).toNat := by rw [outB, hv, hr, hr8]
          have c0 := HA.out.cell v (by have := HPL.out; omega)
          obtain ⟨hk1, hk2⟩ := HCE.out k hlk
          have f1 : (k : Int) / 8 = (v : Int) := by omega
          have f2 : (k : Int) % 8 = (r1 : Int) := by omega
          have f3 : (r1 : Int) * 8 = (r8 : Int) := by omega
          have hr64 : r8 < 64 := by omega
          have hv25 : v < 25 := by omega
          have f4 := vw_shr (gw A v) r8
          have hby : vw (gw A v >>> r8) % 256 = ((outB A k).toNat : Int) := by
            rw [hob]
            unfold vw
            simp
          clear hv hr hr8 hob
          go_wp2
          go_quiet (fail)
          clear f1 f2 f3 f4 hby c0 hk2
          go_wp2
          refine ⟨⟨k + 1, by omega, by go_num, HA.out.drewN nq, ?_⟩, by simp [intOf]; omega⟩
          exact pw_below_drewN HB.out nq
        · obtain rfl : k = 32 := by omega
          rw [show ((32 : Nat) : Int) = 32 from rfl]
          clear hz1 HZ1 HCE
          go_wp2_with fail
          refine (awake_any _).mono ?_
          rintro e w1 ⟨rfl, hb⟩
          go_wp2
          exact bodyPost_ret (v := .bool true) (by simp [results, Try.results7, go_sem]) rfl ⟨rfl, below_step HB.out hb⟩
theorem blocks_law (s : ByteArray) (hsz : s.size ≤ 140737488351232) (w : World) : Calls Try.prog 7 #[.string s] w fun e w' => e = .returned (.bool true) ∧ Below w.heap.size w w' := by
  by_cases hs : s.size ≤ 135
  · exact blocks_small s hs w
  · go_enter Try.func7, Try.ntmps7
    go_wp2_with fail
    refine (awake_any _).mono ?_
    rintro e w1 ⟨rfl, hb⟩
    go_wp2
    exact bodyPost_ret (v := .bool true) (by simp [results, Try.results7, go_sem]) rfl ⟨rfl, hb⟩
#print axioms blocks_law
end Go.Proofs.Ythfcabobdcicdaa.P
