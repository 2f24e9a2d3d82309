import Derived.Test.YtmnphdgghjdkmaaGCover
import Derived.OwnWalkIn
namespace Go.Proofs.Ytmnphdgghjdkmaa.P
set_option linter.unusedVariables false
set_option linter.unusedSimpArgs false
open Go.RowKit Go.Shelf Go.Proofs.YtmnphdgghjdkmaaW.PrintWords
attribute [local go_sem] Oper.semAt_some
def cellsF (f : Nat → List W64) (k : Nat) : List Value := (List.range k).flatMap fun i => (ws (f i)).toList
theorem cellsF_succ (f : Nat → List W64) (k : Nat) : cellsF f (k + 1) = cellsF f k ++ (ws (f k)).toList := by simp [cellsF, List.range_succ]
theorem info24_4 : (Try.prog.info? 24).map (fun i => (i.zero, i.size, i.bytes)) = some (some (.agg #[.int .u64 0, .int .u64 0, .int .u64 0, .int .u64 0]), 4, 32) := by kernel_rfl
theorem own_but {W W' : World} {base : Nat} {e : TypeId} {size n : Nat} {v : Value} {xs : List Value} (h : W.ownsRow base e size v n xs) {g : Nat} (hb : But g W W') (hg : g < base) : W'.ownsRow base e size v n xs := by
  refine own_move h fun k hk => hb.block k (own_lt h k hk) ?_
  have := own_base h k hk
  omega
theorem app_keeps {W W4 w' : World} {B0 gb e size k : Nat} {v : Value} {xs : List Value} (hb : Below W.heap.size W W4) (hown : W4.ownsRow B0 e size v k xs) (hg : W4.grownBy w' v.ownBlock) (u : Value) : KeepsOthers W (w'.setCell ⟨gb, 0, none⟩ u) := by
  refine KeepsOthers.trans (KeepsOthers.trans ⟨hb.size, fun i o hi ho => (hb.block i (Array.getElem?_eq_some_iff.1 hi).1).trans hi⟩ (KeepsOthers.of_grownBy hg fun j o ej hj => ?_)) (KeepsOthers.setCell _ _ _)
  obtain ⟨cells, hc⟩ := own_typed hown j ej
  rw [hc] at hj
  cases hj
  rfl
set_option maxRecDepth 100000 in
set_option maxHeartbeats 4000000 in
theorem afford_in (H : List W64) (hH : H.length = 4) (l : List S40) (hl : okL l) (A : Option Addr) (c : Nat) (w : World) (hrow : RowL w.heap.size w A l) (hlen : l.length ≤ c) (hc : l.length ≤ 1000000) :
    CallsIn Fence.wide 8 Try.prog 12 #[.agg (ws H), .slice A l.length c] w fun e w' => ∃ v, e = .returned v ∧ w'.ownsRow w.heap.size 24 4 v l.length (cellsF (cAt H l) l.length) ∧ Below w.heap.size w w' := by
  have hro : Fence.wide.round = none := rfl
  have hi24 : (Try.prog.info? 24).map (·.size) = some 4 := by kernel_rfl
  have Hi24 := Aside0.mk hi24
  have HL := Aside0.mk hH
  clear hi24 hH
  refine callsIn_of_wp_marks Try.func12 rfl trivial ?_ hro
  simp only [Try.ntmps12, List.size_toArray, List.length_cons, List.length_nil, Nat.reduceAdd, Nat.reduceSub, Array.replicate_succ, Array.replicate_zero, List.push_toArray, List.append_toArray, List.nil_append, List.cons_append]
  have T := two w (.cells (ws H) 24) (.cells #[.slice none 0 0] 29)
  have HT := Aside0.mk T
  clear T
  gi_wp2_with (refine load_wsIn rfl 24 _ rfl w.heap.size rfl 24 H 4 _ HT.out.1 HL.out Try.underlying24 rfl Hi24.out ?_)
  refine ⟨trivial, ?_⟩
  have hsz : ((w.alloc (.cells (ws H) 24)).alloc (.cells #[.slice none 0 0] 29)).heap.size = w.heap.size + 1 + 1 := by simp
  generalize (w.alloc (.cells (ws H) 24)).alloc (.cells #[.slice none 0 0] 29) = w1 at *
  refine (callsIn_wide.2 (covered_any H A l.length c w1)).mono ?_
  rintro e w2 ⟨rfl, hh, hbx, hb⟩
  rw [hsz] at hh hbx hb ⊢
  have l2 : w.heap.size + 1 + 1 + 1 < w2.heap.size := hbx.lt
  gi_wp2_with fail
  have hlen4 := fun k => cAt_len H l HL.out k
  have HC4 := Aside0.mk hlen4
  clear hlen4
  have hw2 := below_step HT.out.2.2 (show Below w1.heap.size w1 w2 by rw [hsz]; exact hb)
  have hb5 : Box w2 (w.heap.size + 1) 29 #[.slice none 0 0] := (hb.block _ (by omega)).trans HT.out.2.1
  have HW2 := Aside0.mk hw2
  have HH2 := Aside0.mk hh
  have HX2 := Aside0.mk hbx
  have HB5 := Aside0.mk hb5
  clear hw2 hh hbx hb hb5 HT
  refine range_rounds hro (by omega) (gf := 28) (lb := #[.pointer (some ⟨w.heap.size + 1 + 1 + 1, 0, none⟩), .pointer (some ⟨w.heap.size + 1 + 1, 0, none⟩)]) rfl trivial (enters_of Try.func28 (by kernel_rfl) rfl)
    (cover_rounds 7 (by omega) H HL.out l hl A c w.heap.size (w.heap.size + 1 + 1) (w.heap.size + 1 + 1 + 1) w (Nat.le_refl _) (by omega) (by omega) (by omega) hrow hlen hc
      (fun k W => ∃ v, w2.heap.size ≤ W.heap.size ∧ Box W (w.heap.size + 1) 29 #[v] ∧ W.ownsRow w2.heap.size 24 4 v k (cellsF (cAt H l) k)) ?hC) (fun _ => rfl) ?hI ?hI0
    (fun k a1 W => ∃ g7, a1 = { tmps := #[.agg (ws H), .slice A l.length c, .pointer (some ⟨w.heap.size, 0, none⟩), undef, .slice none 0 0, .pointer (some ⟨w.heap.size + 1, 0, none⟩), undef, .pointer (some ⟨g7, 0, none⟩), .agg (ws H), .slice A l.length c,
        .func (.func 28) #[] #[.pointer (some ⟨w.heap.size + 1 + 1 + 1, 0, none⟩), .pointer (some ⟨w.heap.size + 1 + 1, 0, none⟩)], .int .i64 (k : Nat), .agg (ws (cAt H l k)), undef, undef, undef, undef, undef], defers := [] } ∧
      w2.heap.size ≤ g7 ∧ Holds W g7 24 (cAt H l k) ∧ Hd H l A c w.heap.size (w.heap.size + 1 + 1) (w.heap.size + 1 + 1 + 1) w (k + 1) W ∧ ∃ v, w2.heap.size ≤ W.heap.size ∧ Box W (w.heap.size + 1) 29 #[v] ∧ W.ownsRow w2.heap.size 24 4 v k (cellsF (cAt H l) k)) ?hB ?hassign ?hbody ?hdone
  case hC =>
    rintro k W W' ⟨v, h0, h1, h2⟩ hb
    exact ⟨v, Nat.le_trans h0 hb.size, hb.box h1 (by omega), own_but h2 hb (by omega)⟩
  case hI =>
    rintro k W lp o o' ⟨hd, v, h0, h1, h2⟩ hlp hlo hoc
    refine ⟨⟨(World.putObj_heap_other (by omega)).trans hd.held, (World.putObj_heap_other (by omega)).trans hd.box, ?_⟩, v, Nat.le_trans h0 (by simp), (World.putObj_heap_other (by omega)).trans h1, ownsRow_putObj h2 o hlo hoc⟩
    exact hd.below.grown (grownBy_putObj' W lp o) (by have := hd.below.size; omega) (fun k e => by cases e; omega)
  case hI0 =>
    intro o o'
    exact ⟨⟨(HH2.out.alloc o).alloc o', blk_alloc (blk_alloc HX2.out o) o', below_alloc (below_alloc HW2.out o) o'⟩, .slice none 0 0, by simp; omega, blk_alloc (blk_alloc HB5.out o) o', ⟨rfl, .inl ⟨rfl, rfl⟩⟩⟩
  case hB =>
    rintro k a1 W lp o o' ⟨g7, rfl, hg7, h7, hd, v, h0, h1, h2⟩ hlp hlo hoc
    have hne : g7 ≠ lp := by
      rintro rfl
      rw [Holds] at h7
      rw [h7] at hlo
      cases hlo
      cases hoc
    refine ⟨g7, rfl, hg7, (World.putObj_heap_other hne).trans h7, ⟨(World.putObj_heap_other (by omega)).trans hd.held, (World.putObj_heap_other (by omega)).trans hd.box, ?_⟩, v, Nat.le_trans h0 (by simp), (World.putObj_heap_other (by omega)).trans h1, ownsRow_putObj h2 o hlo hoc⟩
    exact hd.below.grown (grownBy_putObj' W lp o) (by have := hd.below.size; omega) (fun k e => by cases e; omega)
  case hassign =>
    rintro lp k W K hk ⟨hd, v, h0, h1, h2⟩ hK
    rw [show encs H l k = #[.int .i64 (k : Int), .agg (ws (cAt H l k))] from rfl]
    have hlw := hd.box.lt
    have hcl := HC4.out k
    have hz : Holds (W.alloc (.cells (ws (List.replicate 4 0)) 24)) W.heap.size 24 (List.replicate 4 0) := blk_new W _
    have hzb : Below W.heap.size W (W.alloc (.cells (ws (List.replicate 4 0)) 24)) := below_alloc (Below.refl _ _) _
    rw [← zeros4] at hz hzb
    have HZ := Aside0.mk (And.intro hz hzb)
    have HCL := Aside0.mk hcl
    have HD := Aside0.mk hd
    have H1 := Aside0.mk h1
    have H2 := Aside0.mk h2
    obtain ⟨D, hD⟩ : ∃ D, cAt H l k = D := ⟨_, rfl⟩
    rw [hD] at HCL
    have HDD := Aside0.mk hD
    clear hz hzb hcl hd h1 h2
    rw [hD]
    clear hD
    gi_wp2_with (refine store_wsIn rfl 24 _ _ rfl W.heap.size rfl 24 (List.replicate 4 0) D 4 rfl HZ.out.1 (by simp) HCL.out Hi24.out ?_; intro w3 hR hB hF hS; have HR3 := Aside0.mk hR; have HB3 := Aside0.mk (HZ.out.2.trans (hB W.heap.size (Nat.le_refl _))); clear hR hB hF hS)
    refine hK _ w3 ⟨HB3.out.size, fun k o hk ho => (HB3.out.block k (Array.getElem?_eq_some_iff.1 hk).1).trans hk⟩ ⟨W.heap.size, by rw [HDD.out]; rfl, h0, by rw [HDD.out]; exact HR3.out, ⟨HD.out.held.below HB3.out, blk_below HD.out.box HB3.out, below_step HD.out.below HB3.out⟩, v, Nat.le_trans h0 HB3.out.size, blk_below H1.out HB3.out, own_but H2.out (But.of_below HB3.out) (g := 0) (by omega)⟩
  case hbody =>
    rintro lp k a1 W hk ⟨g7, rfl, hg7, h7, hd, v, h0, h1, h2⟩
    have b5 := h1.cell 0 _ rfl
    have b5f := h1.free 0
    have hcl := HC4.out k
    have hcs := cellsF_succ (cAt H l) k
    have HCS := Aside0.mk hcs
    have HCL := Aside0.mk hcl
    have H7 := Aside0.mk h7
    have HD := Aside0.mk hd
    have H1 := Aside0.mk h1
    have H2 := Aside0.mk h2
    clear hcs hcl h7 hd h1 h2
    generalize cAt H l k = D at *
    obtain ⟨i0, hi, hz0, hz1, hz2⟩ := info_parts info24_4
    have HIN := Aside0.mk (And.intro hi (And.intro hz0 (And.intro hz1 hz2)))
    have hwf := ws_four D HCL.out
    have HWF := Aside0.mk hwf
    have hk6 : k < 1000000 := by omega
    clear hi hz0 hz1 hz2
    obtain ⟨W4, hW4⟩ : ∃ W4, W.alloc (.cells #[.int .u64 (vw (gw D 0)), .int .u64 (vw (gw D 1)), .int .u64 (vw (gw D 2)), .int .u64 (vw (gw D 3))] 24) = W4 := ⟨_, rfl⟩
    have hn4 : W4.heap[W.heap.size]? = some (.cells #[.int .u64 (vw (gw D 0)), .int .u64 (vw (gw D 1)), .int .u64 (vw (gw D 2)), .int .u64 (vw (gw D 3))] 24 (0, 0)) := by rw [← hW4]; exact blk_new W _
    have hb4 : Below W.heap.size W W4 := by rw [← hW4]; exact below_alloc (Below.refl _ _) _
    have hs4 : W4.heap.size = W.heap.size + 1 := by rw [← hW4]; simp
    have h24 := own_but H2.out (But.of_below hb4) (g := 0) (by omega)
    have H4 := Aside0.mk (And.intro hn4 (And.intro hb4 (And.intro hs4 h24)))
    clear hn4 hb4 hs4 h24
    gi_wp2_with (first | (refine load_wsIn rfl 24 _ rfl g7 rfl 24 D 4 _ H7.out HCL.out Try.underlying24 rfl Hi24.out ?_) | (gi_at_builtin; refine wpListIn_append_own W4 rfl _ _ 29 rfl w2.heap.size 24 i0 (.agg #[.int .u64 0, .int .u64 0, .int .u64 0, .int .u64 0]) 4 32 Try.underlying29 HIN.out.1 HIN.out.2.1 HIN.out.2.2.1 HIN.out.2.2.2 rfl (by decide) v k (cellsF (cAt H l) k) rfl H4.out.2.2.2 ⟨W.heap.size, 0, none⟩ 1 1 [.int .u64 (vw (gw D 0)), .int .u64 (vw (gw D 1)), .int .u64 (vw (gw D 2)), .int .u64 (vw (gw D 3))] rfl rfl ?c1 ?c2 ?c3 ?c4 ?c5 ?_))
    case c1 =>
      intro j u hu
      have hp : (⟨W.heap.size, 0, none⟩ : Addr).add j = ⟨W.heap.size, j, none⟩ := by unfold Addr.add; split <;> simp_all
      rw [hp]
      exact (blk_cell H4.out.1 j).trans (by simpa using hu)
    case c2 => simp [Value.oneCell']
    case c3 => show k + 1 ≤ 9223372036854775807; omega
    case c4 => omega
    case c5 => have := H4.out.2.2.1; omega
    intro v' w' hown hgr _
    obtain ⟨gr, cap, rfl⟩ := ownsRow_succ hown
    have hbs := own_base H2.out
    have hne : some (w.heap.size + 1) ≠ v.ownBlock := fun e => by have := hbs _ e.symm; omega
    have hv' : Box w' (w.heap.size + 1) 29 #[v] := (hgr.block _ (by have := H4.out.2.2.1; omega) hne).trans (blk_below H1.out H4.out.2.1)
    have hcell : cellsF (cAt H l) k ++ [.int .u64 (vw (gw D 0)), .int .u64 (vw (gw D 1)), .int .u64 (vw (gw D 2)), .int .u64 (vw (gw D 3))] = cellsF (cAt H l) (k + 1) := by rw [HCS.out, HWF.out]
    rw [hcell] at hown
    have b6 := hv'.cell 0 _ rfl
    have b6f := hv'.free 0
    have hbelow : Below w.heap.size w w' := (below_step HD.out.below H4.out.2.1).grown hgr (by have := H4.out.2.2.1; omega) (fun j e => by have := hbs j e; omega)
    have hsame : ∀ i, i < w2.heap.size → w'.heap[i]? = W.heap[i]? := fun i hi => (hgr.block i (by have := H4.out.2.2.1; omega) (fun e => by have := hbs i e.symm; omega)).trans (H4.out.2.1.block i (by omega))
    have HOWN := Aside0.mk hown
    have HV := Aside0.mk hv'
    have HGR := Aside0.mk hgr
    have HBEL := Aside0.mk hbelow
    have HSAME := Aside0.mk hsame
    clear hown hv' hgr hbelow hsame hcell hbs hwf hW4
    gi_wp2
    refine ⟨app_keeps H4.out.2.1 H4.out.2.2.2 HGR.out _, ⟨?_, ?_, ?_⟩, ?_, _, blk_set HV.out 0 _, ?_⟩
    · exact blk_far (p := ⟨w.heap.size + 1, 0, none⟩) (show w'.heap[_]? = _ from (HSAME.out _ (by omega)).trans HD.out.held) (by show w.heap.size + 1 + 1 ≠ w.heap.size + 1; omega) _
    · exact blk_far (p := ⟨w.heap.size + 1, 0, none⟩) (show w'.heap[_]? = _ from (HSAME.out _ (by omega)).trans HD.out.box) (by show w.heap.size + 1 + 1 + 1 ≠ w.heap.size + 1; omega) _
    · exact below_set HBEL.out (by show w.heap.size ≤ w.heap.size + 1; omega)
    · have := HGR.out.size; have := H4.out.2.2.1; omega
    · exact HOWN.out.kept (grownBy_setCell' w' _ _) (.inr (fun e => by have := own_base HOWN.out _ e; omega))
  case hdone =>
    rintro D W hD ⟨hd, v, h0, h1, h2⟩ hDd
    have b5 := h1.cell 0 _ rfl
    have HD := Aside0.mk hd
    have H2 := Aside0.mk h2
    have HK := Aside0.mk hDd
    have hD2 : w2.heap.size ≤ D := hD
    clear hd h1 h2 hDd
    rcases H2.out.2 with ⟨rfl, hz⟩ | ⟨g, cap, cur, rfl, hgb⟩
    · gi_wp2
      refine ⟨by simp, .inl ⟨_, _, rfl, run_takeDeferred HK.out, ?_⟩⟩
      exact ⟨_, results_tmp rfl _ _ _, _, rfl, own_weaken (ownsRow_putObj H2.out _ HK.out rfl) (by omega), HD.out.below.grown (grownBy_putObj' W D _) (by have := HD.out.below.size; omega) (fun k e => by cases e; omega)⟩
    · gi_wp2
      refine ⟨by simp, .inl ⟨_, _, rfl, run_takeDeferred HK.out, ?_⟩⟩
      exact ⟨_, results_tmp rfl _ _ _, _, rfl, own_weaken (ownsRow_putObj H2.out _ HK.out rfl) (by omega), HD.out.below.grown (grownBy_putObj' W D _) (by have := HD.out.below.size; omega) (fun k e => by cases e; omega)⟩
end Go.Proofs.Ytmnphdgghjdkmaa.P
