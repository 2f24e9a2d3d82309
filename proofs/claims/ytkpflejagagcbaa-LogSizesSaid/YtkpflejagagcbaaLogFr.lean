import Derived.Test.YtkpflejagagcbaaLogI
namespace Go.Proofs.Ytkpflejagagcbaa.P
set_option linter.unusedVariables false
set_option linter.unusedSimpArgs false
open Go.RowKit Go.Shelf Go.Proofs.YtkpflejagagcbaaW.PrintWords
attribute [local go_sem] Oper.semAt_some
/-! log.Frames. -/
def cellsS (s : ByteArray) (k : Nat) : List Value := (List.range k).map fun i => Value.string (textAt s i)
theorem cellsS_succ (s : ByteArray) (k : Nat) : cellsS s (k + 1) = cellsS s k ++ [.string (textAt s k)] := by simp [cellsS, List.range_succ]
theorem info9_1 : (Try.prog.info? 9).map (fun i => (i.zero, i.size, i.bytes)) = some (some (.string ByteArray.empty), 1, 16) := by kernel_rfl
theorem own_but {W W' : World} {base : Nat} {e : TypeId} {size n : Nat} {v : Value} {xs : List Value} (h : W.ownsRow base e size v n xs) {g : Nat} (hb : But g W W') (hg : g < base) : W'.ownsRow base e size v n xs := by
  refine own_move h fun k hk => hb.block k (own_lt h k hk) ?_
  have := own_base h k hk
  omega
theorem app_keeps {W W4 w' : World} {B0 gb e size k : Nat} {v : Value} {xs : List Value} (hb : Below W.heap.size W W4) (hown : W4.ownsRow B0 e size v k xs) (hg : W4.grownBy w' v.ownBlock) (u : Value) : KeepsOthers W (w'.setCell ⟨gb, 0, none⟩ u) := by
  refine KeepsOthers.trans (KeepsOthers.trans ⟨hb.size, fun i o hi ho => (hb.block i (Array.getElem?_eq_some_iff.1 hi).1).trans hi⟩ (KeepsOthers.of_grownBy hg fun j o ej hj => ?_)) (KeepsOthers.setCell _ _ _)
  obtain ⟨cells, hc⟩ := own_typed hown j ej
  rw [hc] at hj
  cases hj
  rfl
set_option maxRecDepth 100000 in
set_option maxHeartbeats 4000000 in
theorem frames_in (s : ByteArray) (hs : s.size ≤ 90000) (w : World) :
    CallsIn Fence.wide 8 Try.prog 8 #[.string s] w fun e w' => ∃ v, e = .returned (.tuple #[v, .int .i64 (nAt s (cnt s) : Nat)]) ∧ w'.ownsRow w.heap.size 9 1 v (cnt s) (cellsS s (cnt s)) ∧ Below w.heap.size w w' := by
  have hro : Fence.wide.round = none := rfl
  refine callsIn_of_wp_marks Try.func8 rfl trivial ?_ hro
  simp only [Try.ntmps8, List.size_toArray, List.length_cons, List.length_nil, Nat.reduceAdd, Nat.reduceSub, Array.replicate_succ, Array.replicate_zero, List.push_toArray, List.append_toArray, List.nil_append, List.cons_append]
  have T := two w (.cells #[.slice none 0 0] 23) (.cells #[.int .i64 0] 3)
  have HT := Aside0.mk T
  clear T
  gi_wp2_with fail
  refine ⟨trivial, ?_⟩
  have hsz : ((w.alloc (.cells #[.slice none 0 0] 23)).alloc (.cells #[.int .i64 0] 3)).heap.size = w.heap.size + 1 + 1 := by simp
  generalize (w.alloc (.cells #[.slice none 0 0] 23)).alloc (.cells #[.int .i64 0] 3) = w1 at *
  refine (callsIn_wide.2 (records_any s w1)).mono ?_
  rintro e w2 ⟨rfl, hbx, hb⟩
  rw [hsz] at hbx hb ⊢
  have l2 : w.heap.size + 1 + 1 < w2.heap.size := hbx.lt
  gi_wp2_with fail
  have hw2 := below_step HT.out.2.2 (show Below w1.heap.size w1 w2 by rw [hsz]; exact hb)
  have hbo : Box w2 w.heap.size 23 #[.slice none 0 0] := (hb.block _ (by omega)).trans HT.out.1
  have hbn : Box w2 (w.heap.size + 1) 3 #[.int .i64 0] := (hb.block _ (by omega)).trans HT.out.2.1
  have HW2 := Aside0.mk hw2
  have HX2 := Aside0.mk hbx
  have HBO := Aside0.mk hbo
  have HBN := Aside0.mk hbn
  have hcl : cnt s ≤ 90000 := by have := rAt_size (Nat.le_refl (cnt s)); omega
  clear hw2 hbx hb hbo hbn HT
  refine range_rounds hro (by omega) (gf := 17) (lb := #[.pointer (some ⟨w.heap.size + 1 + 1, 0, none⟩)]) rfl trivial (enters_of Try.func17 (by kernel_rfl) rfl)
    (rec_rounds 7 (by omega) s hs (w.heap.size + 1 + 1) w (by omega)
      (fun k W => ∃ v, w2.heap.size ≤ W.heap.size ∧ Box W w.heap.size 23 #[v] ∧ Box W (w.heap.size + 1) 3 #[.int .i64 (nAt s k : Nat)] ∧ W.ownsRow w2.heap.size 9 1 v k (cellsS s k)) ?hC) (fun _ => rfl) ?hI ?hE ?hI0
    (fun k a1 W => a1 = { tmps := #[.string s, undef, .slice none 0 0, .int .i64 0, .pointer (some ⟨w.heap.size, 0, none⟩), .pointer (some ⟨w.heap.size + 1, 0, none⟩), .string (textAt s k), .string s,
        .func (.func 17) #[] #[.pointer (some ⟨w.heap.size + 1 + 1, 0, none⟩)], .string (textAt s k), undef, undef, undef, undef, undef, undef, undef, undef, undef, undef, undef], defers := [] } ∧
      Hd s w.heap.size (w.heap.size + 1 + 1) w k W ∧ ∃ v, w2.heap.size ≤ W.heap.size ∧ Box W w.heap.size 23 #[v] ∧ Box W (w.heap.size + 1) 3 #[.int .i64 (nAt s k : Nat)] ∧ W.ownsRow w2.heap.size 9 1 v k (cellsS s k)) ?hB ?hassign ?hbody ?hdone
  case hC =>
    rintro k W W' ⟨v, h0, h1, h2, h3⟩ hb
    exact ⟨v, Nat.le_trans h0 hb.size, hb.box h1 (by omega), hb.box h2 (by omega), own_but h3 hb (by omega)⟩
  case hI =>
    rintro k W lp o o' ⟨hd, v, h0, h1, h2, h3⟩ hlp hlo hoc
    refine ⟨⟨(World.putObj_heap_other (by omega)).trans hd.box, ?_⟩, v, Nat.le_trans h0 (by simp), (World.putObj_heap_other (by omega)).trans h1, (World.putObj_heap_other (by omega)).trans h2, ownsRow_putObj h3 o hlo hoc⟩
    exact hd.below.grown (grownBy_putObj' W lp o) (by have := hd.below.size; omega) (fun k e => by cases e; omega)
  case hE =>
    rintro k W lp o o' ⟨hd, v, h0, h1, h2, h3⟩ hlp hlo hoc
    refine ⟨⟨(World.putObj_heap_other (by omega)).trans hd.box, ?_⟩, v, Nat.le_trans h0 (by simp), (World.putObj_heap_other (by omega)).trans h1, (World.putObj_heap_other (by omega)).trans h2, ownsRow_putObj h3 o hlo hoc⟩
    exact hd.below.grown (grownBy_putObj' W lp o) (by have := hd.below.size; omega) (fun k e => by cases e; omega)
  case hI0 =>
    intro o o'
    refine ⟨⟨blk_alloc (blk_alloc HX2.out o) o', below_alloc (below_alloc HW2.out o) o'⟩, .slice none 0 0, by simp; omega, blk_alloc (blk_alloc HBO.out o) o', ?_, ⟨rfl, .inl ⟨rfl, rfl⟩⟩⟩
    have : nAt s 0 = 0 := Nat.sub_self _
    rw [this]
    exact blk_alloc (blk_alloc HBN.out o) o'
  case hB =>
    rintro k a1 W lp o o' ⟨rfl, hd, v, h0, h1, h2, h3⟩ hlp hlo hoc
    refine ⟨rfl, ⟨(World.putObj_heap_other (by omega)).trans hd.box, ?_⟩, v, Nat.le_trans h0 (by simp), (World.putObj_heap_other (by omega)).trans h1, (World.putObj_heap_other (by omega)).trans h2, ownsRow_putObj h3 o hlo hoc⟩
    exact hd.below.grown (grownBy_putObj' W lp o) (by have := hd.below.size; omega) (fun k e => by cases e; omega)
  case hassign =>
    rintro lp k W K hk ⟨hd, hc⟩ hK
    rw [show encs s k = #[.string (textAt s k)] from rfl]
    have HD := Aside0.mk hd
    have HC := Aside0.mk hc
    clear hd hc
    gi_wp2_with fail
    exact hK _ W (KeepsOthers.refl _) ⟨rfl, HD.out, HC.out⟩
  case hbody =>
    rintro lp k a1 W hk ⟨rfl, hd, v, h0, h1, h2, h3⟩
    have b4 := h1.cell 0 v rfl
    have b4f := h1.free 0
    have b5 := h2.cell 0 (.int .i64 (nAt s k : Nat)) rfl
    have hcs := cellsS_succ s k
    have hns := nAt_succ hk
    have hnl := rAt_size (show k + 1 ≤ cnt s by omega)
    have htl : (textAt s k).size ≤ 90000 := by have h := rAt_size (show k ≤ cnt s by omega); have h' := recT_size (rAt_ok hk); have h'' := (rAt_ok hk).2.2.1; show (recT (rAt s k)).size ≤ 90000; omega
    have hnk : nAt s k ≤ 90000 := by unfold nAt; omega
    have HCS := Aside0.mk hcs
    have HNS := Aside0.mk (show nAt s (k + 1) = nAt s k + (8 + (textAt s k).size) from hns)
    have HD := Aside0.mk hd
    have H1 := Aside0.mk h1
    have H2 := Aside0.mk h2
    have H3 := Aside0.mk h3
    clear hcs hns hd h1 h2 h3 hnl
    generalize textAt s k = t at *
    generalize nAt s k = m at *
    obtain ⟨i0, hi, hz0, hz1, hz2⟩ := info_parts info9_1
    have HIN := Aside0.mk (And.intro hi (And.intro hz0 (And.intro hz1 hz2)))
    have hk6 : k < 90000 := by omega
    clear hi hz0 hz1 hz2
    obtain ⟨W4, hW4⟩ : ∃ W4, W.alloc (.cells #[.string t] 9) = W4 := ⟨_, rfl⟩
    have hn4 : W4.heap[W.heap.size]? = some (.cells #[.string t] 9 (0, 0)) := by rw [← hW4]; exact blk_new W _
    have hb4 : Below W.heap.size W W4 := by rw [← hW4]; exact below_alloc (Below.refl _ _) _
    have hs4 : W4.heap.size = W.heap.size + 1 := by rw [← hW4]; simp
    have h24 := own_but H3.out (But.of_below hb4) (g := 0) (by omega)
    have H4 := Aside0.mk (And.intro hn4 (And.intro hb4 (And.intro hs4 h24)))
    clear hn4 hb4 hs4 h24
    gi_wp2_with (gi_at_builtin; refine wpListIn_append_own W4 rfl _ _ 23 rfl w2.heap.size 9 i0 (.string ByteArray.empty) 1 16 Try.underlying23 HIN.out.1 HIN.out.2.1 HIN.out.2.2.1 HIN.out.2.2.2 rfl (by decide) v k (cellsS s k) rfl H4.out.2.2.2 ⟨W.heap.size, 0, none⟩ 1 1 [.string t] rfl rfl ?c1 ?c2 ?c3 ?c4 ?c5 ?_)
    case c1 =>
      intro j u hu
      have hp : (⟨W.heap.size, 0, none⟩ : Addr).add j = ⟨W.heap.size, j, none⟩ := by unfold Addr.add; split <;> simp_all
      rw [hp]
      exact (blk_cell H4.out.1 j).trans (by simpa using hu)
    case c2 => simp [Value.oneCell']
    case c3 => show k + 1 ≤ 9223372036854775807; omega
    case c4 => omega
    case c5 => have := H4.out.2.2.1; omega
    intro v' w' hown hgr _
    obtain ⟨gr, cap, rfl⟩ := ownsRow_succ hown
    have hbs := own_base H3.out
    have hne : some w.heap.size ≠ v.ownBlock := fun e => by have := hbs _ e.symm; omega
    have hne2 : some (w.heap.size + 1) ≠ v.ownBlock := fun e => by have := hbs _ e.symm; omega
    have hv' : Box w' w.heap.size 23 #[v] := (hgr.block _ (by have := H4.out.2.2.1; omega) hne).trans (blk_below H1.out H4.out.2.1)
    have hn' : Box w' (w.heap.size + 1) 3 #[.int .i64 (m : Nat)] := (hgr.block _ (by have := H4.out.2.2.1; omega) hne2).trans (blk_below H2.out H4.out.2.1)
    rw [← HCS.out] at hown
    have b6 := hv'.cell 0 _ rfl
    have b6f := hv'.free 0
    have b7 := hn'.cell 0 (.int .i64 (m : Nat)) rfl
    have b7f := hn'.free 0
    have hbelow : Below w.heap.size w w' := (below_step HD.out.below H4.out.2.1).grown hgr (by have := H4.out.2.2.1; omega) (fun j e => by have := hbs j e; omega)
    have hsame : ∀ i, i < w2.heap.size → w'.heap[i]? = W.heap[i]? := fun i hi => (hgr.block i (by have := H4.out.2.2.1; omega) (fun e => by have := hbs i e.symm; omega)).trans (H4.out.2.1.block i (by omega))
    have HOWN := Aside0.mk hown
    have HV := Aside0.mk hv'
    have HNN := Aside0.mk hn'
    have HGR := Aside0.mk hgr
    have HBEL := Aside0.mk hbelow
    have HSAME := Aside0.mk hsame
    clear hown hv' hn' hgr hbelow hsame hbs hW4 b4 b4f b5
    gi_wp2
    have e : ((nAt s (k + 1) : Nat) : Int) = (m : Int) + (8 + (t.size : Int)) := by rw [HNS.out]; omega
    refine ⟨(app_keeps H4.out.2.1 H4.out.2.2.2 HGR.out _).trans (KeepsOthers.setCell _ _ _), ⟨?_, ?_⟩, ?_, .slice (some ⟨gr, 0, none⟩) (k + 1) cap, ?_, ?_, ?_⟩
    · exact blk_far (p := ⟨w.heap.size + 1, 0, none⟩) (blk_far (p := ⟨w.heap.size, 0, none⟩) (show w'.heap[_]? = _ from (HSAME.out _ (by omega)).trans HD.out.box) (by show w.heap.size + 1 + 1 ≠ w.heap.size; omega) _) (by show w.heap.size + 1 + 1 ≠ w.heap.size + 1; omega) _
    · exact below_set (below_set HBEL.out (by show w.heap.size ≤ w.heap.size; omega)) (by show w.heap.size ≤ w.heap.size + 1; omega)
    · have := HGR.out.size; have := H4.out.2.2.1; omega
    · exact blk_far (p := ⟨w.heap.size + 1, 0, none⟩) (blk_set HV.out 0 _) (by show w.heap.size ≠ w.heap.size + 1; omega) _
    · rw [e]
      exact blk_set (blk_far (p := ⟨w.heap.size, 0, none⟩) HNN.out (by show w.heap.size + 1 ≠ w.heap.size; omega) _) 0 _
    · exact (HOWN.out.kept (grownBy_setCell' w' _ _) (.inr (fun e => by have := own_base HOWN.out _ e; omega))).kept (grownBy_setCell' _ _ _) (.inr (fun e => by have := own_base HOWN.out _ e; omega))
  case hdone =>
    rintro D W hD ⟨hd, v, h0, h1, h2, h3⟩ hDd
    have b4 := h1.cell 0 v rfl
    have b5 := h2.cell 0 (.int .i64 (nAt s (cnt s) : Nat)) rfl
    have HD := Aside0.mk hd
    have H2 := Aside0.mk h3
    have HK := Aside0.mk hDd
    have hD2 : w2.heap.size ≤ D := hD
    clear hd h1 h2 h3 hDd
    gi_wp2
    gi_region
    all_goals gi_wp2
    all_goals refine ⟨by simp, .inl ⟨_, _, rfl, run_takeDeferred (w := W.drew) HK.out, ?_⟩⟩
    all_goals exact ⟨.tuple #[v, .int .i64 (nAt s (cnt s) : Nat)], by simp [results, Try.results8, go_sem], _, rfl, own_weaken (ownsRow_putObj (World.ownsRow.drew H2.out) _ (show W.drew.heap[D]? = _ from HK.out) rfl) (by omega), (below_drew1 HD.out.below).grown (grownBy_putObj' W.drew D _) (by have := (below_drew1 HD.out.below).size; omega) (fun k e => by cases e; omega)⟩
end Go.Proofs.Ytkpflejagagcbaa.P
