import Derived.Test.YtmnphdgghjdkmaaCs
import Derived.Test.YtmnphdgghjdkmaaRangeW
import Derived.Test.YtmnphdgghjdkmaaPayF
import Derived.RangeFuncBox
import Derived.RangeFuncCalls
import Derived.OwnWalkIn
import Derived.TacticsInMore
import Derived.LoopNIn
import Derived.LoopIn
import Derived.Shelf.Abstract
namespace Go.Proofs.Ytmnphdgghjdkmaa.P
set_option linter.unusedVariables false
set_option linter.unusedSimpArgs false
open Go.RowKit Go.Shelf Go.Proofs.YtmnphdgghjdkmaaW.PrintWords
attribute [local go_sem] Oper.semAt_some
def rowA (a : S40) : Array Value := #[.string a.f0, .int .u64 a.f1.f0, .int .u64 a.f1.f1, .int .u64 a.f1.f2, .int .u64 a.f1.f3, .int .i64 a.f2, .string a.f3, .string a.f4]
theorem hAt_len (H : List W64) (l : List S40) (hH : H.length = 4) (k : Nat) : (hAt H l k).length = 4 := by
  induction k with
  | zero => exact hH
  | succ k ih => rw [hAt, covH, subk_len, ih]
theorem cAt_len (H : List W64) (l : List S40) (hH : H.length = 4) (k : Nat) : (cAt H l k).length = 4 := by
  rw [cAt, covN]
  split
  · exact hAt_len H l hH k
  · rfl
/-- A row that is read, as long as what lay below g0 lies as it lay. -/
def RowL (g0 : Nat) (w : World) (A : Option Addr) (l : List S40) : Prop := ∀ W', (∀ i, i < g0 → W'.heap[i]? = w.heap[i]?) → Kd.C k40 W' A l.length l
theorem covered_any (H : List W64) (A : Option Addr) (n c : Nat) (w : World) :
    Calls Try.prog 19 #[.agg (ws H), .slice A n c] w fun e w' => e = .returned (.func (.func 28) #[] #[.pointer (some ⟨w.heap.size + 1, 0, none⟩), .pointer (some ⟨w.heap.size, 0, none⟩)]) ∧
      Holds w' w.heap.size 24 H ∧ Box w' (w.heap.size + 1) 25 #[.slice A n c] ∧ Below w.heap.size w w' := by
  go_enter Try.func19, Try.ntmps19
  go_wp2
  have T := two w (.cells (ws H) 24) (.cells #[.slice A n c] 25)
  exact bodyPost_ret (v := .func (.func 28) #[] #[.pointer (some ⟨w.heap.size + 1, 0, none⟩), .pointer (some ⟨w.heap.size, 0, none⟩)]) (by simp [results, Try.results19, go_sem]) rfl ⟨rfl, T.1, T.2.1, T.2.2⟩
/-- What stands between two rounds. -/
structure Hd (H : List W64) (l : List S40) (A : Option Addr) (c g0 gh gl : Nat) (w : World) (k : Nat) (W : World) : Prop where
  held : Holds W gh 24 (hAt H l k)
  box : Box W gl 25 #[.slice A l.length c]
  below : Below g0 w W
theorem keeps_of_but {gh : Nat} {A B : World} {t : TypeId} {L : List W64} (h : But gh A B) (hc : Holds A gh t L) : KeepsOthers A B :=
  ⟨h.size, fun k o hk ho => (h.block k (Array.getElem?_eq_some_iff.1 hk).1 (by
    rintro rfl
    rw [Holds] at hc
    rw [hc] at hk
    cases hk
    cases ho)).trans hk⟩
theorem but_of {gh : Nat} {A B : World} (hb : ∀ n, n ≤ gh → Below n A B) (hf : ∀ g' : Nat, g' ≠ gh → B.heap[g']? = A.heap[g']?) : But gh A B :=
  ⟨(hb 0 (Nat.zero_le _)).os, (hb 0 (Nat.zero_le _)).tape, (hb 0 (Nat.zero_le _)).output, (hb 0 (Nat.zero_le _)).size, fun i _ hn => hf i hn⟩
def encs (H : List W64) (l : List S40) (k : Nat) : Array Value := #[.int .i64 (k : Int), .agg (ws (cAt H l k))]
set_option maxRecDepth 100000 in
set_option maxHeartbeats 4000000 in
theorem cover_rounds (n : Nat) (hn : 3 ≤ n) (H : List W64) (hH : H.length = 4) (l : List S40) (hl : okL l) (A : Option Addr) (c g0 gh gl : Nat) (w : World)
    (hg0 : g0 ≤ w.heap.size) (h1 : g0 ≤ gh) (h2 : g0 ≤ gl) (h3 : gh ≠ gl) (hrow : RowL g0 w A l) (hlen : l.length ≤ c) (hc : l.length ≤ 1000000) (C : Nat → World → Prop) (hC : ∀ k W W', C k W → But gh W W' → C k W') :
    Rounds Fence.wide n Try.prog 28 #[.pointer (some ⟨gl, 0, none⟩), .pointer (some ⟨gh, 0, none⟩)] (encs H l) (fun k W => Hd H l A c g0 gh gl w k W ∧ C k W) (fun k W => Hd H l A c g0 gh gl w (k + 1) W ∧ C k W) l.length := by
  intro lp Rc hRc hY W hI hR
  refine callsIn_of_wp Try.func28 rfl trivial ?_ rfl
  simp only [Try.ntmps28, List.size_toArray, List.length_cons, List.length_nil, Nat.reduceAdd, Nat.reduceSub, Array.replicate_succ, Array.replicate_zero, List.push_toArray, List.append_toArray, List.nil_append, List.cons_append]
  have b0 := hI.1.box.cell 0 _ rfl
  have HI := Aside0.mk hI
  have HR := Aside0.mk hR
  clear hI hR
  have hi24 : (Try.prog.info? 24).map (·.size) = some 4 := by kernel_rfl
  have Hi24 := Aside0.mk hi24
  have hi40 : (Try.prog.info? 40).map (·.size) = some 8 := by kernel_rfl
  have Hi40 := Aside0.mk hi40
  clear hi24 hi40
  gi_wp2_with fail
  gi_loopw [9] (fun i wr => ∃ k : Nat, k ≤ l.length ∧ i = .int .i64 (k : Nat) ∧ (Hd H l A c g0 gh gl w k wr ∧ C k wr) ∧ Rc wr) (fun i _ => l.length - (intOf i).toNat)
  case atStart => exact ⟨0, by omega, rfl, HI.out, HR.out⟩
  case round =>
    clear HI HR b0
    obtain ⟨k, hk, rfl, hI, hR⟩ := hrel
    have HI := Aside0.mk hI
    have HR := Aside0.mk hR
    clear hI hR
    by_cases hlt : k < l.length
    · have hrd := hrow wr (fun i hi => HI.out.1.below.block i hi)
      have hx : rd_T40 l (k : Int) = at40 l k := by simp [rd_T40, at40]
      obtain ⟨ad, rfl, hx0, hx1, hx2, hx3, hx4, hx5, hx6, hx7⟩ := at_T40 hrd (k : Int) (by omega) (by omega)
      rw [hx, Int.toNat_natCast] at hx0 hx1 hx2 hx3 hx4 hx5 hx6 hx7
      have hsA : okA (at40 l k) := hl _ (by simp only [at40, List.getD_eq_getElem?_getD, List.getElem?_eq_getElem hlt, Option.getD_some]; exact List.getElem_mem hlt)
      have hst : hAt H l (k + 1) = covH (hAt H l k) (am (at40 l k)) := rfl
      have hct : cAt H l k = covN (hAt H l k) (am (at40 l k)) := rfl
      have hhl := hAt_len H l hH k
      have HST := Aside0.mk (And.intro hst hct)
      have hen : encs H l k = #[.int .i64 (k : Int), .agg (ws (cAt H l k))] := rfl
      have HEN := Aside0.mk hen
      have hheld := HI.out.1.held
      have lgh := hheld.lt
      have HELD := Aside0.mk hheld
      clear hheld
      generalize hAt H l k = HH at *
      clear hst hct hen hrd hx
      generalize at40 l k = x at *
      have hws : (#[.int .u64 x.f1.f0, .int .u64 x.f1.f1, .int .u64 x.f1.f2, .int .u64 x.f1.f3] : Array Value) = ws (am x) := (ws_wl4 _ _ _ _ hsA).symm
      have T := two wr (.cells (rowA x) 40) (.cells (ws (List.replicate 4 0)) 24)
      have hr0 : rowA x = #[.string x.f0, .int .u64 x.f1.f0, .int .u64 x.f1.f1, .int .u64 x.f1.f2, .int .u64 x.f1.f3, .int .i64 x.f2, .string x.f3, .string x.f4] := rfl
      rw [← zeros4, hr0] at T
      have HT := Aside0.mk T
      have HX : Aside0 ((am x).length = 4) := Aside0.mk rfl
      generalize am x = N at *
      have HHL := Aside0.mk hhl
      clear T hr0 hhl
      gi_wp2_with (first | (refine load_wsIn rfl 24 _ rfl gh rfl 24 HH 4 _ H1.out HHL.out Try.underlying24 rfl Hi24.out ?_) | (refine load_wsIn rfl 24 _ rfl (wr.heap.size + 1) rfl 24 N 4 _ HN1.out HX.out Try.underlying24 rfl Hi24.out ?_) | (refine store_wsIn rfl 24 _ _ rfl (wr.heap.size + 1) rfl 24 (List.replicate 4 0) N 4 rfl HT.out.2.1 (by simp) HX.out Hi24.out ?_; intro w1 hR hB hF hS; have HN1 := Aside0.mk hR; have HB1 := Aside0.mk (HT.out.2.2.trans (hB wr.heap.size (by omega))); have H1 := Aside0.mk (Holds.below HELD.out HB1.out); clear hR hB hF hS))
      clear HT hx0 hx1 hx2 hx3 hx4 hx5 hx6 hx7 hws hsA
      refine ⟨trivial, fun _ => by omega, ?_⟩
      refine (callsIn_wide.2 (ncmp_any HH N HHL.out HX.out _)).mono ?_
      rintro e w2 ⟨rfl, hb⟩
      have HN2 := Aside0.mk (HN1.out.below hb)
      have HB2 := Aside0.mk (below_step HB1.out hb)
      have H2 := Aside0.mk (H1.out.below hb)
      clear hb HN1 HB1
      by_cases hcmp : ncmp HH N < 0
      · have hcv : covH HH N = (subk HH HH 4).1 := by rw [covH, covN, if_pos hcmp]
        have hcd : covN HH N = HH := by rw [covN, if_pos hcmp]
        rw [hcv, hcd] at HST
        clear hcv hcd
        gi_wp2_with (first | (refine load_wsIn rfl 24 _ rfl gh rfl 24 HH 4 _ H3.out HHL.out Try.underlying24 rfl Hi24.out ?_) | (refine load_wsIn rfl 24 _ rfl (wr.heap.size + 1) rfl 24 HH 4 _ HN3.out HHL.out Try.underlying24 rfl Hi24.out ?_) | (refine load_wsIn rfl 24 _ rfl gh rfl 24 HH 4 _ H2.out HHL.out Try.underlying24 rfl Hi24.out ?_) | (refine store_wsIn rfl 24 _ _ rfl (wr.heap.size + 1) rfl 24 N HH 4 rfl HN2.out HX.out HHL.out Hi24.out ?_; intro w3 hR hB hF hS; have HN3 := Aside0.mk hR; have HB3 := Aside0.mk (HB2.out.trans (hB wr.heap.size (by omega))); have H3 : Aside0 (Holds w3 gh 24 HH) := Aside0.mk ((hF gh (by omega)).trans H2.out); clear hR hB hF hS HN2 HB2 H2))
        refine ⟨trivial, fun _ => by omega, ?_⟩
        refine (callsIn_wide.2 (sub_any HH HH HHL.out HHL.out _)).mono ?_
        rintro e w4 ⟨rfl, hb⟩
        have HN4 := Aside0.mk (HN3.out.below hb)
        have HB4 := Aside0.mk (below_step HB3.out hb)
        have H4 := Aside0.mk (H3.out.below hb)
        have hsl := subk_len HH HH 4
        rw [HHL.out] at hsl
        have HSL := Aside0.mk hsl
        clear hb HN3 HB3 H3 hsl
        generalize subk HH HH 4 = S at *
        obtain ⟨SL, sc⟩ := S
        simp only at *
        gi_wp2_with (first | (refine load_wsIn rfl 24 _ rfl (wr.heap.size + 1) rfl 24 HH 4 _ HN5.out HHL.out Try.underlying24 rfl Hi24.out ?_) | (refine store_wsIn rfl 24 _ _ rfl gh rfl 24 HH SL 4 rfl H4.out HHL.out HSL.out Hi24.out ?_; intro w5 hR hB hF hS; have H5 := Aside0.mk hR; have HB5 := Aside0.mk hB; have HF5 := Aside0.mk (but_of hB hF); clear hR hB hF hS; have HN5 : Aside0 (Holds w5 (wr.heap.size + 1) 24 HH) := Aside0.mk ((HF5.out.block _ HN4.out.lt (by omega)).trans HN4.out); have hbut := (But.of_below HB4.out).trans HF5.out; obtain ⟨fn, tmps, assign, body, hy, hRd⟩ := hY k w5 hlt ⟨⟨by rw [HST.out.1]; exact H5.out, hbut.box HI.out.1.box (by omega), hbut.below HI.out.1.below h1 hg0⟩, hC k wr w5 HI.out.2 hbut⟩ (hRc wr w5 HR.out (keeps_of_but hbut HELD.out)); rw [HEN.out, HST.out.2] at hy; clear hbut; have HRD := Aside0.mk hRd; clear hRd))
        refine ⟨fun _ => by omega, ?_⟩
        refine HRD.out.mono ?_
        rintro e w6 ⟨rfl, hI6, hR6⟩
        gi_wp2
        go_roundw
        case rel => exact ⟨k + 1, by omega, by go_num, hI6, hR6⟩
        case measure => simp [intOf]; omega
      · have HN3 := HN2
        have HB3 := HB2
        have H3 := H2
        clear HN2 HB2 H2
        have hcv : covH HH N = (subk HH N 4).1 := by rw [covH, covN, if_neg hcmp]
        have hcd : covN HH N = N := by rw [covN, if_neg hcmp]
        rw [hcv, hcd] at HST
        clear hcv hcd
        gi_wp2_with (first | (refine load_wsIn rfl 24 _ rfl gh rfl 24 HH 4 _ H3.out HHL.out Try.underlying24 rfl Hi24.out ?_) | (refine load_wsIn rfl 24 _ rfl (wr.heap.size + 1) rfl 24 N 4 _ HN3.out HX.out Try.underlying24 rfl Hi24.out ?_))
        refine ⟨trivial, fun _ => by omega, ?_⟩
        refine (callsIn_wide.2 (sub_any HH N HHL.out HX.out _)).mono ?_
        rintro e w4 ⟨rfl, hb⟩
        have HN4 := Aside0.mk (HN3.out.below hb)
        have HB4 := Aside0.mk (below_step HB3.out hb)
        have H4 := Aside0.mk (H3.out.below hb)
        have hsl := subk_len HH N 4
        rw [HHL.out] at hsl
        have HSL := Aside0.mk hsl
        clear hb HN3 HB3 H3 hsl
        generalize subk HH N 4 = S at *
        obtain ⟨SL, sc⟩ := S
        simp only at *
        gi_wp2_with (first | (refine load_wsIn rfl 24 _ rfl (wr.heap.size + 1) rfl 24 N 4 _ HN5.out HX.out Try.underlying24 rfl Hi24.out ?_) | (refine store_wsIn rfl 24 _ _ rfl gh rfl 24 HH SL 4 rfl H4.out HHL.out HSL.out Hi24.out ?_; intro w5 hR hB hF hS; have H5 := Aside0.mk hR; have HB5 := Aside0.mk hB; have HF5 := Aside0.mk (but_of hB hF); clear hR hB hF hS; have HN5 : Aside0 (Holds w5 (wr.heap.size + 1) 24 N) := Aside0.mk ((HF5.out.block _ HN4.out.lt (by omega)).trans HN4.out); have hbut := (But.of_below HB4.out).trans HF5.out; obtain ⟨fn, tmps, assign, body, hy, hRd⟩ := hY k w5 hlt ⟨⟨by rw [HST.out.1]; exact H5.out, hbut.box HI.out.1.box (by omega), hbut.below HI.out.1.below h1 hg0⟩, hC k wr w5 HI.out.2 hbut⟩ (hRc wr w5 HR.out (keeps_of_but hbut HELD.out)); rw [HEN.out, HST.out.2] at hy; clear hbut; have HRD := Aside0.mk hRd; clear hRd))
        refine ⟨fun _ => by omega, ?_⟩
        refine HRD.out.mono ?_
        rintro e w6 ⟨rfl, hI6, hR6⟩
        gi_wp2
        go_roundw
        case rel => exact ⟨k + 1, by omega, by go_num, hI6, hR6⟩
        case measure => simp [intOf]; omega
    · obtain rfl : k = l.length := by omega
      gi_wp2
      go_end0
      exact ⟨⟨_, rfl⟩, HI.out, HR.out⟩
end Go.Proofs.Ytmnphdgghjdkmaa.P
