import Derived.Test.YtlkecihibmndbaaGNumF
import Derived.Test.YtlkecihibmndbaaP0
import Derived.Test.YtlkecihibmndbaaCs
import Derived.RangeFuncWrites
import Derived.RangeFuncLeaves
import Derived.Shelf.RegionOpen
namespace Go.Proofs.Ytlkecihibmndbaa.P
set_option linter.unusedVariables false
set_option linter.unusedSimpArgs false
open Go.RowKit Go.Shelf Go.Proofs.YtlkecihibmndbaaW.PrintWords
def am (a : S39) : List W64 := wl4 a.f1.f0 a.f1.f1 a.f1.f2 a.f1.f3
def okA (a : S39) : Prop := ok4 a.f1.f0 a.f1.f1 a.f1.f2 a.f1.f3
def okL (l : List S39) : Prop := ∀ a ∈ l, okA a
def sw (L : List W64) : S25 := ⟨vw (gw L 0), vw (gw L 1), vw (gw L 2), vw (gw L 3)⟩
def at39 (l : List S39) (k : Nat) : S39 := l.getD k z39
def zero4 : List W64 := List.replicate 4 0
def rowA (a : S39) : Array Value := #[.string a.f0, .int .u64 a.f1.f0, .int .u64 a.f1.f1, .int .u64 a.f1.f2, .int .u64 a.f1.f3, .int .i64 a.f2, .string a.f3, .string a.f4]
/-- A row that is read, as long as what lay below g0 lies as it lay. -/
def RowL (g0 : Nat) (w : World) (A : Option Addr) (l : List S39) : Prop := ∀ W', (∀ i, i < g0 → W'.heap[i]? = w.heap[i]?) → Kd.C k39 W' A l.length l
theorem rowL_of (w : World) (A : Option Addr) (l : List S39) (h : Kd.C k39 w A l.length l) : RowL w.heap.size w A l := fun W' hW => Kd.C_F k39_heap h W' (fun k hk _ => hW k hk)
theorem own_but {W W' : World} {base : Nat} {e : TypeId} {size n : Nat} {v : Value} {xs : List Value} (h : W.ownsRow base e size v n xs) {g : Nat} (hb : But g W W') (hg : g < base) : W'.ownsRow base e size v n xs := by
  refine own_move h fun k hk => hb.block k (own_lt h k hk) ?_
  have := own_base h k hk
  omega
/-- A cell of a row that is owned is written. -/
theorem own_write {W : World} {base : Nat} {e : TypeId} {size n g cap : Nat} {xs : List Value} (h : W.ownsRow base e size (.slice (some ⟨g, 0, none⟩) n cap) n xs) (k : Nat) (u : Value) :
    (W.setCell ⟨g, k, none⟩ u).ownsRow base e size (.slice (some ⟨g, 0, none⟩) n cap) n (xs.set k u) := by
  obtain ⟨h1, h2 | ⟨g', cap', cur, e1, hb, hg, hc, hm, hs, ht⟩⟩ := h
  · cases h2.1
  · injection e1 with e1 _ e3
    injection e1 with e1
    injection e1 with e1 _ _
    subst e1 e3
    refine ⟨by rw [List.length_set, h1], .inr ⟨g, cap, cur.setIfInBounds k u, rfl, hb, blk_set hg k u, hc, hm, by rw [Array.size_setIfInBounds, hs], ?_⟩⟩
    rw [Array.toList_setIfInBounds, List.take_set, ht]
theorem own_cell {W : World} {base : Nat} {e : TypeId} {size n g cap : Nat} {xs : List Value} (h : W.ownsRow base e size (.slice (some ⟨g, 0, none⟩) n cap) n xs) (k : Nat) (u : Value) (hk : xs[k]? = some u) :
    W.cell? ⟨g, k, none⟩ = some u ∧ W.frozen? ⟨g, k, none⟩ = false := by
  obtain ⟨h1, h2 | ⟨g', cap', cur, e1, hb, hg, hc, hm, hs, ht⟩⟩ := h
  · cases h2.1
  · injection e1 with e1 _ e3
    injection e1 with e1
    injection e1 with e1 _ _
    subst e1 e3
    refine ⟨(blk_cell hg k).trans ?_, blk_frozen hg k⟩
    rw [← ht] at hk
    rw [← Array.getElem?_toList]
    rw [List.getElem?_take] at hk
    split at hk
    · exact hk
    · cases hk
def putA (a : S39) (L : List W64) : S39 := ⟨a.f0, sw L, a.f2, a.f3, a.f4⟩
def wl (L : List W64) : List Value := L.map fun b => Value.int .u64 (vw b)
theorem wl_eq (L : List W64) : (wl L).toArray = ws L := rfl
theorem range_of {W : World} {g : Nat} {t : TypeId} {L : List W64} (h : Holds W g t L) : W.rangeAt g 0 (wl L) := by
  intro j v hv
  rw [Nat.zero_add]
  have hj : j < L.length := by
    have := (List.getElem?_eq_some_iff.1 hv).1
    simpa [wl] using this
  rw [h.cell j hj]
  simp only [wl, List.getElem?_map, List.getElem?_eq_getElem hj] at hv
  simp only [gw, List.getD, List.getElem?_eq_getElem hj]
  simpa using hv
def cells39 (l : List S39) : List Value := l.flatMap fun a => (rowA a).toList
theorem cells39_len (l : List S39) : (cells39 l).length = l.length * 8 := by
  induction l with
  | nil => rfl
  | cons a l ih => rw [cells39, List.flatMap_cons, List.length_append]; show 8 + (cells39 l).length = _; rw [ih, List.length_cons]; omega
theorem cells39_get (l : List S39) : ∀ (j : Nat) (u : Value), (cells39 l)[j]? = some u → ∃ q i p, j = q * 8 + i ∧ l[q]? = some p ∧ (rowA p).toList[i]? = some u := by
  induction l with
  | nil => intro j u h; simp [cells39] at h
  | cons a l ih =>
    intro j u h
    rw [show cells39 (a :: l) = (rowA a).toList ++ cells39 l by rfl] at h
    by_cases hj : j < 8
    · rw [List.getElem?_append_left (by exact hj)] at h
      exact ⟨0, j, a, by omega, rfl, h⟩
    · rw [List.getElem?_append_right (by show 8 ≤ j; omega)] at h
      obtain ⟨q, i, p, h1, h2, h3⟩ := ih _ _ h
      exact ⟨q + 1, i, p, by have : (rowA a).toList.length = 8 := rfl; omega, h2, h3⟩
theorem news39 {w : World} {ad : Addr} {l : List S39} (hC : Kd.C k39 w (some ad) l.length l) (j : Nat) (u : Value) (h : (cells39 l)[j]? = some u) : w.cell? (ad.add j) = some u := by
  obtain ⟨q, i, p, rfl, h2, h3⟩ := cells39_get l j u h
  have hq := (List.getElem?_eq_some_iff.1 h2).1
  obtain ⟨ad', e, hc⟩ := hC.2.2 (by omega)
  obtain rfl := Option.some.inj e
  obtain ⟨c, hl, hr, hcell⟩ := hc q p h2
  rw [k39_open hr] at hcell
  exact hcell i u h3
theorem one39 (l : List S39) : ∀ u ∈ cells39 l, u.oneCell' = true := by
  intro u hu
  obtain ⟨a, _, h⟩ := List.mem_flatMap.1 hu
  simp [rowA] at h
  rcases h with h | h | h | h | h | h | h | h <;> subst h <;> rfl
theorem info39_8 : (Try.prog.info? 39).map (fun i => (i.zero, i.size, i.bytes)) = some (some (.agg #[.string ByteArray.empty, .int .u64 0, .int .u64 0, .int .u64 0, .int .u64 0, .int .i64 0, .string ByteArray.empty, .string ByteArray.empty]), 8, 88) := by kernel_rfl
theorem cells39_put (L1 L2 : List S39) (a : S39) (D : List W64) :
    ((((cells39 (L1 ++ a :: L2)).set (L1.length * 8 + 1) (.int .u64 (vw (gw D 0)))).set (L1.length * 8 + 2) (.int .u64 (vw (gw D 1)))).set (L1.length * 8 + 3) (.int .u64 (vw (gw D 2)))).set (L1.length * 8 + 4) (.int .u64 (vw (gw D 3))) = cells39 (L1 ++ putA a D :: L2) := by
  have h : ∀ b, cells39 (L1 ++ b :: L2) = cells39 L1 ++ ((rowA b).toList ++ cells39 L2) := fun b => by simp [cells39]
  have hl := cells39_len L1
  rw [h, h]
  have st : ∀ (X : List Value) (i : Nat) (u : Value), (cells39 L1 ++ X).set (L1.length * 8 + i) u = cells39 L1 ++ X.set i u := fun X i u => by
    rw [List.set_append_right _ _ (by omega), hl, Nat.add_sub_cancel_left]
  rw [st, st, st, st]
  congr 1
theorem cells39_at (L1 L2 : List S39) (a : S39) (i : Nat) (u : Value) (h : (rowA a).toList[i]? = some u) : (cells39 (L1 ++ a :: L2))[L1.length * 8 + i]? = some u := by
  have hl := cells39_len L1
  have hi : i < (rowA a).toList.length := (List.getElem?_eq_some_iff.1 h).1
  rw [show cells39 (L1 ++ a :: L2) = cells39 L1 ++ ((rowA a).toList ++ cells39 L2) by simp [cells39], List.getElem?_append_right (by omega), hl, Nat.add_sub_cancel_left, List.getElem?_append_left hi]
  exact h
theorem set_four {W : World} {g : Nat} {L H : List W64} (hL : L.length = 4) (hH : H.length = 4) (h : Holds W g 25 L) :
    Holds ((((W.setCell ⟨g, 0, none⟩ (.int .u64 (vw (gw H 0)))).setCell ⟨g, 1, none⟩ (.int .u64 (vw (gw H 1)))).setCell ⟨g, 2, none⟩ (.int .u64 (vw (gw H 2)))).setCell ⟨g, 3, none⟩ (.int .u64 (vw (gw H 3)))) g 25 H := by
  have := (((h.set 0 (gw H 0)).set 1 (gw H 1)).set 2 (gw H 2)).set 3 (gw H 3)
  obtain ⟨a, b, c, d, rfl⟩ := four L hL
  obtain ⟨a', b', c', d', rfl⟩ := four H hH
  exact this
theorem own_below {W W' : World} {base : Nat} {e : TypeId} {size n : Nat} {v : Value} {xs : List Value} (h : W.ownsRow base e size v n xs) (hb : Below W.heap.size W W') : W'.ownsRow base e size v n xs :=
  own_move h fun k hk => hb.block k (own_lt h k hk)
theorem own_set {W : World} {base : Nat} {e : TypeId} {size n : Nat} {v : Value} {xs : List Value} (h : W.ownsRow base e size v n xs) {g t k : Nat} {cs : Array Value} (hb : Box W g t cs) (ht : t ≠ e) (u : Value) : (W.setCell ⟨g, k, none⟩ u).ownsRow base e size v n xs := by
  refine own_move h fun j hj => Below.heap_setCell _ _ _ _ ?_
  rintro rfl
  obtain ⟨cells, hc⟩ := own_typed h _ hj
  have := (show W.heap[_]? = _ from hb).symm.trans hc
  injection this with this
  injection this with _ h2
  exact ht h2
theorem ne_types {W : World} {g g' t t' : Nat} {cs cs' : Array Value} (h : Box W g t cs) (h' : Box W g' t' cs') (ht : t ≠ t') : g ≠ g' := by
  rintro rfl
  have := (show W.heap[_]? = _ from h).symm.trans h'
  injection this with this
  injection this with _ h2
  exact ht h2
theorem own_slice {W : World} {base : Nat} {e : TypeId} {size n : Nat} {v : Value} {xs : List Value} (h : W.ownsRow base e size v n xs) : ∃ A c, v = .slice A n c := by
  rcases h.2 with ⟨rfl, rfl⟩ | ⟨g, cap, cur, rfl, _⟩
  · exact ⟨none, 0, rfl⟩
  · exact ⟨_, _, rfl⟩
theorem but_set4 (W : World) (g a : Nat) (u0 u1 u2 u3 : Value) : But g W ((((W.setCell ⟨g, a, none⟩ u0).setCell ⟨g, a + 1, none⟩ u1).setCell ⟨g, a + 2, none⟩ u2).setCell ⟨g, a + 3, none⟩ u3) := by
  have st : ∀ (X : World) (k : Nat) (u : Value), But g X (X.setCell ⟨g, k, none⟩ u) := fun X k u => ⟨rfl, rfl, rfl, by simp, fun i _ hn => Below.heap_setCell _ _ _ i hn⟩
  exact (((st _ _ _).trans (st _ _ _)).trans (st _ _ _)).trans (st _ _ _)
theorem But.drew {g : Nat} {A B : World} (h : But g A B) : But g A B.drew := ⟨h.os, h.tape, h.output, h.size, h.block⟩
theorem own_away {W W' : World} {base : Nat} {e : TypeId} {size n : Nat} {v : Value} {xs : List Value} (h : W.ownsRow base e size v n xs) {g t : Nat} {cs : Array Value} (hb : Box W g t cs) (ht : t ≠ e) (hbut : But g W W') : W'.ownsRow base e size v n xs := by
  refine own_move h fun j hj => hbut.block j (own_lt h j hj) ?_
  rintro rfl
  obtain ⟨cells, hc⟩ := own_typed h _ hj
  have := (show W.heap[_]? = _ from hb).symm.trans hc
  injection this with this
  injection this with _ h2
  exact ht h2
theorem own_box {W : World} {base : Nat} {e : TypeId} {size n g cap : Nat} {xs : List Value} (h : W.ownsRow base e size (.slice (some ⟨g, 0, none⟩) n cap) n xs) : ∃ cs, Box W g e cs := by
  obtain ⟨cells, hc⟩ := own_typed h g rfl
  exact ⟨cells, hc⟩
theorem ne_types' {W : World} {g g' t t' : Nat} {cs : Array Value} (h : Box W g t cs) (h' : ∃ cs', Box W g' t' cs') (ht : t ≠ t') : g ≠ g' := h'.elim fun _ h2 => ne_types h h2 ht
theorem keeps_of_box {g : Nat} {A B : World} {t : TypeId} (h : But g A B) (hc : ∃ cs, Box A g t cs) : KeepsOthers A B := by
  obtain ⟨cs, hc⟩ := hc
  refine ⟨h.size, fun k o hk ho => (h.block k (Array.getElem?_eq_some_iff.1 hk).1 ?_).trans hk⟩
  rintro rfl
  have := (show A.heap[_]? = _ from hc).symm.trans hk
  injection this with this
  subst this
  cases ho
theorem But.of_types {g g' : Nat} {A B : World} {t t' : TypeId} {cs : Array Value} (h : But g A B) (hc : ∃ cs, Box A g t cs) (hb : Box A g' t' cs) (ht : t' ≠ t) : Box B g' t' cs := h.box hb (ne_types' hb hc ht)
theorem four_alloc (w : World) (a b c d : Obj) : ((((w.alloc a).alloc b).alloc c).alloc d).heap[w.heap.size]? = some a ∧ ((((w.alloc a).alloc b).alloc c).alloc d).heap[w.heap.size + 1]? = some b ∧ ((((w.alloc a).alloc b).alloc c).alloc d).heap[w.heap.size + 1 + 1]? = some c ∧
    ((((w.alloc a).alloc b).alloc c).alloc d).heap[w.heap.size + 1 + 1 + 1]? = some d ∧ Below w.heap.size w ((((w.alloc a).alloc b).alloc c).alloc d) := by
  obtain ⟨h1, h2, h3, h4⟩ := three w a b c
  refine ⟨blk_alloc h1 d, blk_alloc h2 d, blk_alloc h3 d, ?_, below_alloc h4 d⟩
  simpa using blk_new (((w.alloc a).alloc b).alloc c) d
theorem reps39 (w : World) (base : Nat) (ok : Nat → Prop) (l : List S39) : Reps (k39.M w base ok) 8 l (cells39 l) := by
  refine ⟨cells39_len l, fun j p hp => ?_⟩
  have hj := (List.getElem?_eq_some_iff.1 hp).1
  have hs : l = l.take j ++ p :: l.drop (j + 1) := by
    rw [← (List.getElem?_eq_some_iff.1 hp).2, ← List.drop_eq_getElem_cons hj, List.take_append_drop]
  have hc : cells39 l = cells39 (l.take j) ++ ((rowA p).toList ++ cells39 (l.drop (j + 1))) := by
    conv => lhs; rw [hs]
    simp [cells39]
  have hl : (cells39 (l.take j)).length = j * 8 := by rw [cells39_len, List.length_take]; congr 1; omega
  rw [hc, List.drop_append_of_le_length (by omega), List.drop_of_length_le (by omega), List.nil_append, List.take_append_of_le_length (by show 8 ≤ 8; omega), List.take_of_length_le (by show 8 ≤ 8; omega)]
  exact k39_mkM w base ok p
theorem R_of_cells39 {w : World} {base : Nat} {v : Value} {l : List S39} (h : w.ownsRow base 39 8 v l.length (cells39 l)) (ok : Nat → Prop) (hok : ∀ k, v.ownBlock = some k → ok k) : Kd.R k39 39 w base ok v l :=
  ⟨hok, cells39 l, h, reps39 w base _ l⟩
theorem sub_val_le {A B : List W64} (hA : A.length = 4) (hB : B.length = 4) (h : val B ≤ val A) : val (subk A B 4).1 = val A - val B := by
  have := sub_val A B hA hB
  rw [sub_under A B hA hB, if_neg (by omega)] at this
  omega
theorem val_zero4 : val zero4 = 0 := rfl
theorem zero4_len : zero4.length = 4 := rfl
theorem sub_zero (A : List W64) (hA : A.length = 4) : (subk A zero4 4).1 = A :=
  val_inj _ _ (by rw [subk_len]; exact hA) hA (by rw [sub_val_le hA zero4_len (by rw [val_zero4]; omega), val_zero4]; omega)
theorem am_len (a : S39) : (am a).length = 4 := rfl
theorem sw_am (a : S39) (h : okA a) : sw (am a) = a.f1 := by
  obtain ⟨h0, h1, h2, h3⟩ := h
  show (⟨vw (BitVec.ofInt 64 a.f1.f0), vw (BitVec.ofInt 64 a.f1.f1), vw (BitVec.ofInt 64 a.f1.f2), vw (BitVec.ofInt 64 a.f1.f3)⟩ : S25) = a.f1
  rw [vw_ofInt _ h0, vw_ofInt _ h1, vw_ofInt _ h2, vw_ofInt _ h3]
theorem putA_self (a : S39) (h : okA a) : putA a (am a) = a := by
  show (⟨a.f0, sw (am a), a.f2, a.f3, a.f4⟩ : S39) = a
  rw [sw_am a h]
theorem am_putA (a : S39) (L : List W64) (hL : L.length = 4) : am (putA a L) = L := by
  obtain ⟨x0, x1, x2, x3, rfl⟩ := four L hL
  show [BitVec.ofInt 64 (vw x0), BitVec.ofInt 64 (vw x1), BitVec.ofInt 64 (vw x2), BitVec.ofInt 64 (vw x3)] = _
  rw [of_vw, of_vw, of_vw, of_vw]
theorem okA_putA (a : S39) (L : List W64) : okA (putA a L) := ⟨ok1_vw _, ok1_vw _, ok1_vw _, ok1_vw _⟩
theorem wl4_sw (L : List W64) (hL : L.length = 4) : wl4 (sw L).f0 (sw L).f1 (sw L).f2 (sw L).f3 = L := am_putA z39 L hL
theorem ok4_sw (L : List W64) : ok4 (sw L).f0 (sw L).f1 (sw L).f2 (sw L).f3 := ⟨ok1_vw _, ok1_vw _, ok1_vw _, ok1_vw _⟩
theorem at39_mem {l : List S39} {k : Nat} (hk : k < l.length) : at39 l k ∈ l := by simp only [at39, List.getD_eq_getElem?_getD, List.getElem?_eq_getElem hk, Option.getD_some]; exact List.getElem_mem hk
theorem at39_get {l : List S39} {k : Nat} (hk : k < l.length) : at39 l k = l[k] := by simp [at39, List.getD_eq_getElem?_getD, List.getElem?_eq_getElem hk]
end Go.Proofs.Ytlkecihibmndbaa.P
