import Derived.Test.YtkpflejagagcbaaGSum
import Derived.Test.YtkpflejagagcbaaSame
namespace Go.Proofs.Ytkpflejagagcbaa.P
set_option linter.unusedVariables false
open Go.RowKit Go.Proofs.YtkpflejagagcbaaW.PrintWords
theorem gb_pad0 (s : ByteArray) : gb (pad0 s) s.size = 0 := by
  have h := padM_gt s.size
  have hl : s.data.toList.length = s.size := by rw [Array.length_toList]; rfl
  unfold gb pad0
  rw [List.getD_eq_getElem?_getD, List.getElem?_append_right (by omega), hl, Nat.sub_self, List.drop_replicate, List.getElem?_replicate_of_lt (by omega)]
  rfl
theorem pad1_eq (s : ByteArray) : pad1 s = (pad0 s).set s.size 1 := by rw [pad1, gb_pad0]; rfl
theorem gb_blk (L : List UInt8) (j k : Nat) (hk : k < 136) (h : 136 * j + 136 ≤ L.length) : sb (blkOf L j).1 k = gb L (136 * j + k) := by
  show (blkL L j).toArray.getD k 0 = L.getD (136 * j + k) 0
  rw [blkL_eq L j h]
  simp [List.getD_eq_getElem?_getD, hk]
/-- What is written of the 32 bytes. -/
def outP (A : List W64) (k : Nat) : List UInt8 := outL A k ++ List.replicate (32 - k) 0
theorem outP_len (A : List W64) (k : Nat) (h : k ≤ 32) : (outP A k).length = 32 := by simp [outP, outL]; omega
theorem outP_succ (A : List W64) (k : Nat) (h : k < 32) : outP A (k + 1) = (outP A k).set k (outB A k) := by
  have hl : (outL A k).length = k := by simp [outL]
  unfold outP
  obtain ⟨m, hm⟩ : ∃ m, 32 - k = m + 1 := ⟨31 - k, by omega⟩
  rw [hm, List.replicate_succ, List.set_append_right _ _ (by omega), hl, Nat.sub_self, List.set_cons_zero, show 32 - (k + 1) = m by omega]
  simp [outL, List.range_succ]
theorem outP_end (A : List W64) : outP A 32 = outL A 32 := by simp [outP]
theorem conv_all (g m c : Nat) (L : List UInt8) (W : World) (h : HoldsB W g L) (hL : L.length = m) :
    (convert 37 9 (.slice (some ⟨g, 0, none⟩) m c)).run Try.prog W = .ok (.string ⟨L.toArray⟩) W := by
  have := run_convert_bytes_back (P := Try.prog) W 37 9 5 ⟨g, 0, none⟩ c L Try.underlying37 Try.underlying5 Try.underlying9 (fun j hj => by
    have hp : (⟨g, 0, none⟩ : Addr).add j = ⟨g, j, none⟩ := by unfold Addr.add; split <;> simp_all
    rw [hp, h.cell _ hj]
    simp [gb, List.getD, List.getElem?_eq_getElem hj])
  rw [hL] at this
  exact this
set_option maxRecDepth 100000 in
set_option maxHeartbeats 4000000 in
theorem rsum_any (s : ByteArray) (hs : s.size ≤ 100000) (w : World) :
    Calls Try.prog 16 #[.string s] w fun e w' => e = .returned (.string (hsum s)) ∧ Below w.heap.size w w' := by
  have hlen := (pad_len s).trans (padM_q s)
  have HS : Aside0 (hsum s = ⟨(outL (absAll (upto (pad s) (qOf s))) 32).toArray⟩) := Aside0.mk rfl
  obtain ⟨h, hh⟩ : ∃ h, hsum s = h := ⟨_, rfl⟩
  rw [hh] at HS
  have HH := Aside0.mk hh
  clear hh
  obtain ⟨n, hn⟩ : ∃ n, s.size = n := ⟨_, rfl⟩
  obtain ⟨r, hr⟩ : ∃ r, n % 136 = r := ⟨_, rfl⟩
  obtain ⟨d, hd⟩ : ∃ d, 136 - r = d := ⟨_, rfl⟩
  obtain ⟨m, hm⟩ : ∃ m, n + d = m := ⟨_, rfl⟩
  have hr136 : r < 136 := by omega
  have hpm : padM s.size = m := by rw [padM, hn, hr]; omega
  have hqm : 136 * qOf s = m := by rw [← padM_q, hpm]
  have hq : qOf s ≤ 1000 := by unfold qOf; omega
  have hp0 : pad0 s = s.data.toList ++ (List.replicate m 0).drop s.size := by rw [pad0, hpm]
  have hp1 := pad1_eq s
  have hp2 : pad s = (pad1 s).set (padM s.size - 1) (gb (pad1 s) (padM s.size - 1) ||| 128) := rfl
  rw [hpm] at hp2
  rw [hn] at hp1
  rw [hqm] at hlen
  generalize pad s = LP at *
  generalize qOf s = q at *
  have HP := Aside0.mk (And.intro hp0 (And.intro hp1 hp2))
  have HLP := Aside0.mk hlen
  have HQ := Aside0.mk (And.intro hqm hq)
  clear hp0 hp1 hp2 hpm hlen hqm hq
  have f1 : (n : Int) % 136 = (r : Int) := by omega
  have f2 : 136 - (r : Int) = (d : Int) := by omega
  have f3 : (n : Int) + (d : Int) = (m : Int) := by omega
  have hmn : n < m := by omega
  rw [hn] at hs
  have hmk := run_make_bytes m (by omega)
  clear hr hm hd
  go_enter Try.func16, Try.ntmps16
  go_wp2_with fail
  have T : HoldsB (w.alloc (.cells (bs (List.replicate m 0)) 5)) w.heap.size (List.replicate m 0) := blk_new w _
  rw [run_copy_bytes w.heap.size m s (List.replicate m 0) _ T (by simp) (by omega)]
  have hG := setRow_heap _ w.heap.size (bs (List.replicate m 0)) (bs (s.data.toList ++ (List.replicate m 0).drop s.size)) 5 (0, 0) T
  have hB := below_setRow (w := w) (below_alloc (Below.refl _ _) (.cells (bs (List.replicate m 0)) 5)) (g := w.heap.size) (Nat.le_refl _) (bs (s.data.toList ++ (List.replicate m 0).drop s.size))
  generalize World.setRow _ _ _ = W2 at *
  simp only [Result.andThen]
  rw [Oper.upon_value]
  have hls : (s.data.toList ++ (List.replicate m 0).drop s.size).length = m := by simp; omega
  rw [hn] at hG hls
  obtain ⟨hp0, hp1, hp2⟩ := HP.out
  rw [hn] at hp0
  rw [← hp0] at hG hls
  clear hp0 HP T
  generalize pad0 s = L at *
  generalize pad1 s = L1 at *
  subst hp1
  obtain ⟨v2, hv2⟩ : ∃ v2, gb (L.set n 1) (m - 1) ||| 128 = v2 := ⟨_, rfl⟩
  rw [hv2] at hp2
  have e2 : bits .or .u8 ((gb (L.set n 1) (m - 1)).toNat : Int) 128 = (v2.toNat : Int) := by rw [← hv2]; exact or_byte _ 128
  have HG := Aside0.mk (show HoldsB W2 w.heap.size L from hG)
  have HB := Aside0.mk hB
  have HL := Aside0.mk hls
  have HP := Aside0.mk hp2
  clear hG hB hls hmk hp2 hv2
  have HG1 : Aside0 (HoldsB (W2.setCell ⟨w.heap.size, n, none⟩ (.int .u8 1)) w.heap.size (L.set n 1)) := Aside0.mk (HG.out.set n 1)
  have HG2 := Aside0.mk (HG1.out.set (m - 1) v2)
  rw [← HP.out] at HG2
  have b0 := HG.out.cell n (by rw [HL.out]; omega)
  have b1 := HG.out.free n
  have b2 := HG1.out.cell (m - 1) (by rw [List.length_set, HL.out]; omega)
  have b3 := HG1.out.free (m - 1)
  have HB2 : Aside0 (Below w.heap.size w ((W2.setCell ⟨w.heap.size, n, none⟩ (.int .u8 1)).setCell ⟨w.heap.size, m - 1, none⟩ (.int .u8 (v2.toNat : Int)))) := Aside0.mk (below_set (below_set HB.out (Nat.le_refl _)) (Nat.le_refl _))
  have l2 : w.heap.size < W2.heap.size := blk_lt HG.out
  clear HG HG1 HB HL HP
  go_wp2_with fail
  obtain ⟨W3, hW3⟩ : ∃ W3, (W2.setCell ⟨w.heap.size, n, none⟩ (.int .u8 1)).setCell ⟨w.heap.size, m - 1, none⟩ (.int .u8 (v2.toNat : Int)) = W3 := ⟨_, rfl⟩
  have hs3 : W3.heap.size = W2.heap.size := by rw [← hW3]; simp
  rw [hW3] at HG2 HB2 ⊢
  have ha0 : Holds (W3.alloc (.cells (ws (List.replicate 25 0)) 40)) W2.heap.size 40 (absAll []) := by rw [← hs3]; exact blk_new W3 _
  have hg0 : HoldsB (W3.alloc (.cells (ws (List.replicate 25 0)) 40)) w.heap.size LP := blk_alloc HG2.out _
  have hb0 := below_alloc HB2.out (.cells (ws (List.replicate 25 0)) 40)
  rw [← zeros25] at ha0 hg0 hb0
  have HA0 := Aside0.mk ha0
  have HG0 := Aside0.mk hg0
  have HB0 := Aside0.mk hb0
  clear ha0 hg0 hb0 hW3 hs3 HG2 HB2 b0 b1 b2 b3 e2
  generalize W2.heap.size = ga at *
  generalize W3.alloc _ = W4 at *
  obtain ⟨hqm, hq⟩ := HQ.out
  have HLN := Aside0.mk hn
  have hm6 : m ≤ 136000 := by omega
  clear f1 f2 f3 hn HQ
  go_loopw [6] (fun i wr => ∃ j : Nat, j ≤ q ∧ i = .int .i64 (136 * j : Nat) ∧ Holds wr ga 40 (absAll (upto LP j)) ∧ HoldsB wr w.heap.size LP ∧ Below w.heap.size w wr) (fun i _ => m - (intOf i).toNat)
  case atStart => exact ⟨0, by omega, rfl, HA0.out, HG0.out, HB0.out⟩
  case round =>
    clear HA0 HG0 HB0
    obtain ⟨j, hj, rfl, ha, hg, hb⟩ := hrel
    have HA := Aside0.mk ha
    have HG := Aside0.mk hg
    have HB := Aside0.mk hb
    clear ha hg hb
    by_cases hlt : j < q
    · have hst : absAll (upto LP (j + 1)) = permuted (absI (absAll (upto LP j)) (blkOf LP j).1 136) := by
        rw [upto_succ, absAll_snoc, absB, (blkOf LP j).2]
      have hal := absAll_len (upto LP j)
      have hcell : ∀ k, k < 136 → gb LP (136 * j + k) = sb (blkOf LP j).1 k := fun k hk => (gb_blk LP j k hk (by have := HLP.out; omega)).symm
      generalize absAll (upto LP j) = A at *
      generalize (blkOf LP j).1 = y at *
      obtain ⟨p, hp⟩ : ∃ p, 136 * j = p := ⟨_, rfl⟩
      obtain ⟨p2, hp2⟩ : ∃ p, 136 * (j + 1) = p := ⟨_, rfl⟩
      have HST := Aside0.mk hst
      have HAL := Aside0.mk hal
      rw [hp] at hcell ⊢
      have HC := Aside0.mk hcell
      have hpm : p + 136 ≤ m := by omega
      have hpp : (p : Int) + 136 = (p2 : Int) := by omega
      have HPP := Aside0.mk (And.intro hp (And.intro hp2 hqm))
      clear hst hal hcell hp hp2
      go_wp2
      rw [show decide (p < m) = true from decide_eq_true (by omega)]
      go_loopw [7] (fun i wr => ∃ k : Nat, k ≤ 136 ∧ i = .int .i64 (k : Nat) ∧ Holds wr ga 40 (absI A y k) ∧ HoldsB wr w.heap.size LP ∧ Below w.heap.size w wr) (fun i _ => 136 - (intOf i).toNat)
      case atStart => exact ⟨0, by omega, rfl, HA.out, HG.out, HB.out⟩
      case round =>
        clear HA HG HB
        obtain ⟨k, hk, rfl, ha, hg, hb⟩ := hrel
        have HA := Aside0.mk ha
        have HG := Aside0.mk hg
        have HB := Aside0.mk hb
        clear ha hg hb
        by_cases hlk : k < 136
        · obtain ⟨v, hv⟩ : ∃ p, k / 8 = p := ⟨_, rfl⟩
          obtain ⟨r1, hr⟩ : ∃ p, k % 8 = p := ⟨_, rfl⟩
          obtain ⟨r8, hr8⟩ : ∃ p, r1 * 8 = p := ⟨_, rfl⟩
          obtain ⟨pk, hpk⟩ : ∃ z, p + k = z := ⟨_, rfl⟩
          have hst2 : absI A y (k + 1) = (absI A y k).set v (gw (absI A y k) v ^^^ BitVec.ofNat 64 (sb y k).toNat <<< r8) := by rw [absI, hv, hr, hr8]
          have hl2 := absI_len A y k
          rw [HAL.out] at hl2
          have hck := HC.out k hlk
          rw [hpk] at hck
          generalize absI A y k = C at *
          have c0 := HA.out.cell v (by omega)
          have c1 := HA.out.free v
          have g0 := HG.out.cell pk (by have := HLP.out; omega)
          rw [hck] at g0
          have hr64 : r8 < 64 := by omega
          have hp25 : v < 25 := by omega
          have HST2 := Aside0.mk hst2
          have hy8 : (256 : Int) > ((sb y k).toNat : Int) := by have := (sb y k).toNat_lt; omega
          have i1 : (v : Int) < 25 := by omega
          have i2 : (k : Int) < 136 := by omega
          have i3 : (pk : Int) < (m : Int) := by omega
          have e1 : (k : Int).tdiv 8 = (v : Int) := by rw [Int.tdiv_eq_ediv_of_nonneg (by omega)]; omega
          have e2 : (k : Int).tmod 8 = (r1 : Int) := by rw [Int.tmod_eq_emod_of_nonneg (by omega)]; omega
          have e3 : IntKind.i64.wrap (8 * (r1 : Int)) = (r8 : Int) := by rw [IntKind.wrap_i64]; omega
          have e4 : IntKind.u64.wrap (r8 : Int) = (r8 : Int) := by rw [IntKind.wrap_u64]; omega
          have e0 : IntKind.i64.wrap (v : Int) = (v : Int) := by rw [IntKind.wrap_i64]; omega
          have e5 : IntKind.i64.wrap ((p : Int) + (k : Int)) = (pk : Int) := by rw [IntKind.wrap_i64]; omega
          have e6 := byte_wrap (sb y k)
          have e7 := fun a => vw_shl a r8
          have e8 : min r8 64 = r8 := by omega
          have E := Aside0.mk (And.intro e0 (And.intro e1 (And.intro e2 (And.intro e3 (And.intro e4 (And.intro e5 (And.intro e6 (And.intro e7 e8))))))))
          clear hst2 hck hv hr hr8 hpk e0 e1 e2 e3 e4 e5 e6 e7 e8
          go_wp2
          obtain ⟨e0, e1, e2, e3, e4, e5, e6, e7, e8⟩ := E.out
          refine wp_region_still_tail 20 (by kernel_rfl) (by kernel_rfl) ?_
          simp only [List.take_succ_cons, List.take_zero, List.drop_succ_cons, List.drop_zero]
          repeat still_step
          refine wpStill_nil ?_
          change wpList _ _ _ _ _ wr.drew
          simp only [vw_xor]
          clear e0 e1 e2 e3 e4 e5 e6 e7 e8 E g0
          go_wp2
          refine ⟨⟨k + 1, by omega, by go_num, ?_, ?_, ?_⟩, by simp [intOf]; omega⟩
          · rw [HST2.out]; exact (HA.out.set v _).drewN 1
          · exact blk_far (p := ⟨ga, v, none⟩) HG.out (by show w.heap.size ≠ ga; omega) _
          · exact below_drew1 (below_set HB.out (by show w.heap.size ≤ ga; omega))
        · obtain rfl : k = 136 := by omega
          have hl2 := absI_len A y 136
          rw [HAL.out] at hl2
          generalize absI A y 136 = C at *
          have HCL := Aside0.mk hl2
          have hi : (Try.prog.info? 40).map (·.size) = some 25 := by kernel_rfl
          have Hi := Aside0.mk hi
          clear hl2 hlk hk hi
          rw [show ((136 : Nat) : Int) = 136 from rfl]
          go_wp2_with (refine load_ws rfl 40 _ rfl ga rfl 40 C 25 _ HA.out HCL.out Try.underlying40 rfl Hi.out ?_)
          refine (rpermute_any C HCL.out _).mono ?_
          rintro e w4 ⟨rfl, hb4⟩
          have HA4 := Aside0.mk (HA.out.below hb4)
          have HB4 := Aside0.mk (below_step HB.out hb4)
          have HG4 : Aside0 (HoldsB w4 w.heap.size LP) := Aside0.mk (blk_below HG.out hb4)
          clear hb4 HA HB HG
          have hpl := permuted_len C
          have hpe := permuted_eq C HCL.out
          rw [HCL.out] at hpl
          rw [← hpe]
          obtain ⟨A1, hA1⟩ : ∃ A1, permuted C = A1 := ⟨_, rfl⟩
          rw [hA1] at hpl HST ⊢
          have HPL := Aside0.mk hpl
          clear hpl hpe hA1
          go_wp2_with (refine store_ws rfl 40 _ _ rfl ga rfl 40 C A1 25 rfl HA4.out HCL.out HPL.out Hi.out ?_; intro w5 hR hBw hF hS; have HA5 := Aside0.mk hR; have HB5 := Aside0.mk hBw; clear hR hBw hF hS)
          refine ⟨⟨j + 1, by omega, ?_, ?_, ?_, ?_⟩, ?_⟩
          · rw [HPP.out.2.1]
          · rw [HST.out]; exact HA5.out
          · exact ((HB5.out ga (Nat.le_refl _)).block w.heap.size l2).trans HG4.out
          · exact HB4.out.trans (HB5.out _ (by omega))
          · simp [intOf]; omega
    · obtain rfl : j = q := by omega
      have hal := absAll_len (upto LP j)
      obtain ⟨A, hA⟩ : ∃ A, absAll (upto LP j) = A := ⟨_, rfl⟩
      rw [hA] at HA HS hal
      rw [hqm]
      clear hA hlt hj
      have HAL := Aside0.mk hal
      clear hal
      have hmk : ∀ W, (Instr.makeSlice 37 (.int .i64 32) (.int .i64 32)).run Try.prog W = .ok (.slice (some ⟨W.heap.size, 0, none⟩) 32 32) (W.alloc (.cells (bs (List.replicate 32 0)) 5)) := run_make_bytes 32 (by omega)
      have ho0 : outP A 0 = List.replicate 32 0 := rfl
      generalize List.replicate 32 (0 : UInt8) = Z at *
      have HO0 := Aside0.mk ho0
      clear ho0
      go_wp2_with fail
      have lga : ga < wr.heap.size := HA.out.lt
      have ha1 : Holds (wr.alloc (.cells (bs Z) 5)) ga 40 A := HA.out.alloc _
      have ho1 : HoldsB (wr.alloc (.cells (bs Z) 5)) wr.heap.size (outP A 0) := by rw [HO0.out]; exact blk_new wr (.cells (bs Z) 5)
      have hb1 := below_alloc HB.out (.cells (bs Z) 5)
      have HA1 := Aside0.mk ha1
      have HO1 := Aside0.mk ho1
      have HB1 := Aside0.mk hb1
      clear ha1 ho1 hb1 HA HB HG hmk
      generalize wr.heap.size = go at *
      generalize wr.alloc _ = W5 at *
      go_loopw [9] (fun i wr => ∃ k : Nat, k ≤ 32 ∧ i = .int .i64 (k : Nat) ∧ Holds wr ga 40 A ∧ HoldsB wr go (outP A k) ∧ Below w.heap.size w wr) (fun i _ => 32 - (intOf i).toNat)
      case atStart => exact ⟨0, by omega, rfl, HA1.out, HO1.out, HB1.out⟩
      case round =>
        clear HA1 HO1 HB1
        obtain ⟨k, hk, rfl, ha, ho, hb⟩ := hrel
        have HA := Aside0.mk ha
        have HO := Aside0.mk ho
        have HB := Aside0.mk hb
        clear ha ho hb
        by_cases hlk : k < 32
        · obtain ⟨v, hv⟩ : ∃ p, k / 8 = p := ⟨_, rfl⟩
          obtain ⟨r1, hr⟩ : ∃ p, k % 8 = p := ⟨_, rfl⟩
          obtain ⟨r8, hr8⟩ : ∃ p, r1 * 8 = p := ⟨_, rfl⟩
          have hob : outB A k = UInt8.ofNat (gw A v >>> r8).toNat := by rw [outB, hv, hr, hr8]
          have hop := outP_succ A k hlk
          have hol := outP_len A k (by omega)
          generalize outP A k = O at *
          have c0 := HA.out.cell v (by have := HAL.out; omega)
          have o0 := HO.out.cell k (by omega)
          have o1 := HO.out.free k
          have f1 : (k : Int) / 8 = (v : Int) := by omega
          have f2 : (k : Int) % 8 = (r1 : Int) := by omega
          have f3 : 8 * (r1 : Int) = (r8 : Int) := by omega
          have hr64 : r8 < 64 := by omega
          have hv25 : v < 25 := by omega
          have f4 := vw_shr (gw A v) r8
          have hby : vw (gw A v >>> r8) % 256 = ((outB A k).toNat : Int) := by
            rw [hob]
            unfold vw
            simp
          have HOP := Aside0.mk hop
          clear hv hr hr8 hob hop
          go_wp2
          refine ⟨⟨k + 1, by omega, by go_num, ?_, ?_, ?_⟩, by simp [intOf]; omega⟩
          · exact HA.out.far (by show ga ≠ go; omega) _
          · rw [HOP.out]; exact HO.out.set k _
          · exact below_set HB.out (by show w.heap.size ≤ go; omega)
        · obtain rfl : k = 32 := by omega
          rw [show ((32 : Nat) : Int) = 32 from rfl]
          have hoe := outP_end A
          have hol := outP_len A 32 (by omega)
          rw [hoe] at HO hol
          have hcv := fun (W : World) (h : HoldsB W go (outL A 32)) => conv_all go 32 32 (outL A 32) W h hol
          rw [← HS.out] at hcv
          have hcv' := hcv _ HO.out
          clear hoe hcv hol
          go_wp2
          refine bodyPost_ret (v := .string h) (by simp [results, Try.results16, go_sem]) rfl ⟨?_, HB.out⟩
          rw [HH.out]
#print axioms rsum_any
end Go.Proofs.Ytkpflejagagcbaa.P
