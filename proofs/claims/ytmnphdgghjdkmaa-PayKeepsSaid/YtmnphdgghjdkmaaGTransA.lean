import Derived.Test.YtmnphdgghjdkmaaGCheck
import Derived.Test.YtmnphdgghjdkmaaHeldIn
import Derived.Test.YtmnphdgghjdkmaaGTransB
namespace Go.Proofs.Ytmnphdgghjdkmaa.P
set_option linter.unusedVariables false
set_option linter.unusedSimpArgs false
open Go.RowKit Go.Shelf Go.Proofs.YtmnphdgghjdkmaaW.PrintWords
attribute [local go_sem] Oper.semAt_some
theorem results_tr {P : Program} {fn : Func} {p q s r : Tmp} {ty : TypeId} (h : fn.results = #[.tmp p, .tmp q, .cell r ty, .tmp s]) (tmps : Array Value) (w : World) (g : Nat) (t : TypeId) (cs : Array Value) (d : TypeDesc) (v1 v2 v3 : Value)
    (h1 : tmps.getD p undef = v1) (h2 : tmps.getD q undef = v2) (hp : tmps.getD r undef = .pointer (some ⟨g, 0, none⟩)) (h3 : tmps.getD s undef = v3) (hg : w.heap[g]? = some (.cells cs t (0, 0)))
    (hu : P.underlying ty = some d) (hd : (match d with | .struct _ | .array _ _ => true | _ => false) = true) (hi : (P.info? ty).map (·.size) = some cs.size) :
    (results fn tmps).run P w = .ok (.tuple #[v1, v2, .agg cs, v3]) w := by
  have hp' : tmps[r]?.getD undef = .pointer (some ⟨g, 0, none⟩) := by simpa using hp
  have h1' : tmps[p]?.getD undef = v1 := by simpa using h1
  have h2' : tmps[q]?.getD undef = v2 := by simpa using h2
  have h3' : tmps[s]?.getD undef = v3 := by simpa using h3
  simp [results, h, hp', h1', h2', h3', asAddr, run_loadVar_row w g t ty cs (0, 0) d hg hu hd hi]
theorem set_four {W : World} {g : Nat} {L H : List W64} (hL : L.length = 4) (hH : H.length = 4) (h : Holds W g 24 L) :
    Holds ((((W.setCell ⟨g, 0, none⟩ (.int .u64 (vw (gw H 0)))).setCell ⟨g, 1, none⟩ (.int .u64 (vw (gw H 1)))).setCell ⟨g, 2, none⟩ (.int .u64 (vw (gw H 2)))).setCell ⟨g, 3, none⟩ (.int .u64 (vw (gw H 3)))) g 24 H := by
  have := (((h.set 0 (gw H 0)).set 1 (gw H 1)).set 2 (gw H 2)).set 3 (gw H 3)
  obtain ⟨a, b, c, d, rfl⟩ := four L hL
  obtain ⟨a', b', c', d', rfl⟩ := four H hH
  exact this
structure S4 (w w2 : World) (A : Option Addr) (n c : Nat) (H : List W64) (W : World) : Prop where
  b4 : Box W (w.heap.size + 1) 25 #[.slice A n c]
  b3 : Holds W w.heap.size 24 H
  bel : Below w.heap.size w W
  big : w2.heap.size ≤ W.heap.size
  sm : w.heap.size + 1 < w2.heap.size
  kb : Below w2.heap.size w2 W
theorem S4.step {w w2 : World} {A : Option Addr} {n c : Nat} {H : List W64} {W W' : World} (h : S4 w w2 A n c H W) (hb : Below W.heap.size W W') : S4 w w2 A n c H W' :=
  ⟨blk_below h.b4 hb, h.b3.below hb, below_step h.bel hb, Nat.le_trans h.big hb.size, h.sm, below_step h.kb hb⟩
theorem S4.al {w w2 : World} {A : Option Addr} {n c : Nat} {H : List W64} {W : World} (h : S4 w w2 A n c H W) (o : Obj) : Below W.heap.size W (W.alloc o) := below_alloc (Below.refl _ _) o
theorem S4.new {w w2 : World} {A : Option Addr} {n c : Nat} {H : List W64} {W : World} (h : S4 w w2 A n c H W) (cs : Array Value) (t : TypeId) : Box (W.alloc (.cells cs t)) W.heap.size t cs ∧ w2.heap.size ≤ W.heap.size := ⟨blk_new W _, h.big⟩
theorem S4.set {w w2 : World} {A : Option Addr} {n c : Nat} {H : List W64} {W : World} (h : S4 w w2 A n c H W) {g : Nat} (hg : w2.heap.size ≤ g) (k : Nat) (u : Value) : S4 w w2 A n c H (W.setCell ⟨g, k, none⟩ u) := by
  have := h.sm
  exact ⟨blk_far (p := ⟨g, k, none⟩) h.b4 (by show w.heap.size + 1 ≠ g; omega) u, h.b3.far (by show w.heap.size ≠ g; omega) u, below_set h.bel (by show w.heap.size ≤ g; omega), by simpa using h.big, h.sm, below_set h.kb hg⟩
theorem own_below {W W' : World} {base : Nat} {e : TypeId} {size n : Nat} {v : Value} {xs : List Value} (h : W.ownsRow base e size v n xs) (hb : Below W.heap.size W W') : W'.ownsRow base e size v n xs :=
  own_move h fun k hk => hb.block k (own_lt h k hk)
theorem own_set {W : World} {base : Nat} {e : TypeId} {size n : Nat} {v : Value} {xs : List Value} (h : W.ownsRow base e size v n xs) {g t k : Nat} {cs : Array Value} (hb : Box W g t cs) (ht : t ≠ e) (u : Value) : (W.setCell ⟨g, k, none⟩ u).ownsRow base e size v n xs := by
  refine own_move h fun j hj => Below.heap_setCell _ _ _ _ ?_
  rintro rfl
  obtain ⟨cells, hc⟩ := own_typed h _ hj
  have := (show W.heap[_]? = _ from hb).symm.trans hc
  injection this with this
  injection this with _ h2
  exact ht h2
theorem ne_types {W : World} {g g' t t' : Nat} {cs cs' : Array Value} (h : Box W g t cs) (h' : Box W g' t' cs') (ht : t ≠ t') : g ≠ g' := by
  rintro rfl
  have := (show W.heap[_]? = _ from h).symm.trans h'
  injection this with this
  injection this with _ h2
  exact ht h2
theorem own_slice {W : World} {base : Nat} {e : TypeId} {size n : Nat} {v : Value} {xs : List Value} (h : W.ownsRow base e size v n xs) : ∃ A c, v = .slice A n c := by
  rcases h.2 with ⟨rfl, rfl⟩ | ⟨g, cap, cur, rfl, _⟩
  · exact ⟨none, 0, rfl⟩
  · exact ⟨_, _, rfl⟩
theorem fin4 {W : World} {g11 g12 base n : Nat} {v x : Value} {xs : List Value} {p0 p1 p2 p3 : W64} (hv : W.ownsRow base 40 8 v n xs) (h11 : Box W g11 25 #[x]) (h12 : Holds W g12 24 (List.replicate 4 0)) :
    ((((W.setCell ⟨g12, 0, none⟩ (.int .u64 (vw p0))).setCell ⟨g12, 1, none⟩ (.int .u64 (vw p1))).setCell ⟨g12, 2, none⟩ (.int .u64 (vw p2))).setCell ⟨g12, 3, none⟩ (.int .u64 (vw p3))).ownsRow base 40 8 v n xs ∧
    Box ((((W.setCell ⟨g12, 0, none⟩ (.int .u64 (vw p0))).setCell ⟨g12, 1, none⟩ (.int .u64 (vw p1))).setCell ⟨g12, 2, none⟩ (.int .u64 (vw p2))).setCell ⟨g12, 3, none⟩ (.int .u64 (vw p3))) g11 25 #[x] ∧
    Holds ((((W.setCell ⟨g12, 0, none⟩ (.int .u64 (vw p0))).setCell ⟨g12, 1, none⟩ (.int .u64 (vw p1))).setCell ⟨g12, 2, none⟩ (.int .u64 (vw p2))).setCell ⟨g12, 3, none⟩ (.int .u64 (vw p3))) g12 24 [p0, p1, p2, p3] := by
  have hne : g11 ≠ g12 := ne_types h11 (show Box W g12 24 _ from h12) (by decide)
  have far : ∀ (X : World) (k : Nat) (u : Value), Box X g11 25 #[x] → Box (X.setCell ⟨g12, k, none⟩ u) g11 25 #[x] := fun X k u h => blk_far (p := ⟨g12, k, none⟩) h hne u
  have hvg : ∀ j, v.ownBlock = some j → j ≠ g12 := by
    rintro j hj rfl
    obtain ⟨cells, hc⟩ := own_typed hv _ hj
    have := (show W.heap[_]? = _ from h12).symm.trans hc
    injection this with this
    injection this with _ h2
    exact absurd h2 (by decide)
  have fv : ∀ (X : World) (k : Nat) (u : Value), X.ownsRow base 40 8 v n xs → (X.setCell ⟨g12, k, none⟩ u).ownsRow base 40 8 v n xs := fun X k u h => own_move h fun j hj => Below.heap_setCell _ _ _ _ (hvg j hj)
  exact ⟨fv _ _ _ (fv _ _ _ (fv _ _ _ (fv _ _ _ hv))), far _ _ _ (far _ _ _ (far _ _ _ (far _ _ _ h11))), set_four (L := List.replicate 4 0) (H := [p0, p1, p2, p3]) rfl rfl h12⟩
theorem but_set4 (W : World) (g a : Nat) (u0 u1 u2 u3 : Value) : But g W ((((W.setCell ⟨g, a, none⟩ u0).setCell ⟨g, a + 1, none⟩ u1).setCell ⟨g, a + 2, none⟩ u2).setCell ⟨g, a + 3, none⟩ u3) := by
  have st : ∀ (X : World) (k : Nat) (u : Value), But g X (X.setCell ⟨g, k, none⟩ u) := fun X k u => ⟨rfl, rfl, rfl, by simp, fun i _ hn => Below.heap_setCell _ _ _ i hn⟩
  exact (((st _ _ _).trans (st _ _ _)).trans (st _ _ _)).trans (st _ _ _)
theorem But.drew {g : Nat} {A B : World} (h : But g A B) : But g A B.drew := ⟨h.os, h.tape, h.output, h.size, h.block⟩
theorem own_away {W W' : World} {base : Nat} {e : TypeId} {size n : Nat} {v : Value} {xs : List Value} (h : W.ownsRow base e size v n xs) {g t : Nat} {cs : Array Value} (hb : Box W g t cs) (ht : t ≠ e) (hbut : But g W W') : W'.ownsRow base e size v n xs := by
  refine own_move h fun j hj => hbut.block j (own_lt h j hj) ?_
  rintro rfl
  obtain ⟨cells, hc⟩ := own_typed h _ hj
  have := (show W.heap[_]? = _ from hb).symm.trans hc
  injection this with this
  injection this with _ h2
  exact ht h2
/-- What stands of the caller between two rounds. -/
structure TM (H : List W64) (l : List S40) (W : List Int) (A A2 : Option Addr) (c c2 : Nat) (w w6 : World) (g11 g12 g13 : Nat) (v : Value) (k : Nat) (X : World) : Prop where
  sz : w6.heap.size ≤ X.heap.size
  b4 : Box X (w.heap.size + 1) 25 #[.slice A l.length c]
  b5 : Box X (w.heap.size + 1 + 1) 26 #[.slice A2 W.length c2]
  z8 : Holds X (w.heap.size + 1 + 1 + 1) 24 (List.replicate 4 0)
  b11 : Box X g11 25 #[v]
  left : Holds X g12 24 (lAt H l W k)
  b13 : ∃ v13, Box X g13 29 #[v13] ∧ X.ownsRow w6.heap.size 24 4 v13 k (cellsF (nAt H l W) k)
  out : X.ownsRow w.heap.size 40 8 v l.length (cells40 (outK H l W k))
theorem TM.put {H : List W64} {l : List S40} {W : List Int} {A A2 : Option Addr} {c c2 : Nat} {w w6 : World} {g11 g12 g13 : Nat} {v : Value} {k : Nat} {X : World} (h : TM H l W A A2 c c2 w w6 g11 g12 g13 v k X) {lp : Nat} (o : Obj) {o' : Obj} (hlp : w6.heap.size ≤ lp) (hlo : X.heap[lp]? = some o') (hoc : o'.isCells = false)
    (h0 : w.heap.size + 1 + 1 + 1 < w6.heap.size) (h1 : g11 < w6.heap.size) (h2 : g12 < w6.heap.size) (h3 : g13 < w6.heap.size) : TM H l W A A2 c c2 w w6 g11 g12 g13 v k (X.putObj lp o) := by
  obtain ⟨v13, k1, k2⟩ := h.b13
  exact ⟨Nat.le_trans h.sz (by simp), (World.putObj_heap_other (by omega)).trans h.b4, (World.putObj_heap_other (by omega)).trans h.b5, (World.putObj_heap_other (by omega)).trans h.z8, (World.putObj_heap_other (by omega)).trans h.b11,
    (World.putObj_heap_other (by omega)).trans h.left, ⟨v13, (World.putObj_heap_other (by omega)).trans k1, ownsRow_putObj k2 o hlo hoc⟩, ownsRow_putObj h.out o hlo hoc⟩
theorem TM.but {H : List W64} {l : List S40} {W : List Int} {A A2 : Option Addr} {c c2 : Nat} {w w6 : World} {g11 g12 g13 gh : Nat} {v : Value} {k : Nat} {X X' : World} (h : TM H l W A A2 c c2 w w6 g11 g12 g13 v k X) (hb : But gh X X')
    (h0 : w.heap.size + 1 + 1 + 1 < gh) (h1 : g11 < gh) (h2 : g12 < gh) (h3 : g13 < gh) (h4 : gh < w6.heap.size) (h5 : ∀ j, v.ownBlock = some j → j < gh) : TM H l W A A2 c c2 w w6 g11 g12 g13 v k X' := by
  obtain ⟨v13, k1, k2⟩ := h.b13
  exact ⟨Nat.le_trans h.sz hb.size, hb.box h.b4 (by omega), hb.box h.b5 (by omega), (hb.block _ h.z8.lt (by omega)).trans h.z8, hb.box h.b11 (by omega), (hb.block _ h.left.lt (by omega)).trans h.left, ⟨v13, hb.box k1 (by omega), own_but k2 hb (by omega)⟩,
    own_move h.out fun j hj => hb.block j (own_lt h.out j hj) (by have := h5 j hj; omega)⟩
theorem TM.below {H : List W64} {l : List S40} {W : List Int} {A A2 : Option Addr} {c c2 : Nat} {w w6 : World} {g11 g12 g13 : Nat} {v : Value} {k : Nat} {X X' : World} (h : TM H l W A A2 c c2 w w6 g11 g12 g13 v k X) (hb : Below X.heap.size X X') : TM H l W A A2 c c2 w w6 g11 g12 g13 v k X' := by
  obtain ⟨v13, k1, k2⟩ := h.b13
  exact ⟨Nat.le_trans h.sz hb.size, blk_below h.b4 hb, blk_below h.b5 hb, blk_below h.z8 hb, blk_below h.b11 hb, blk_below h.left hb, ⟨v13, blk_below k1 hb, own_below k2 hb⟩, own_below h.out hb⟩
theorem own_box {W : World} {base : Nat} {e : TypeId} {size n g cap : Nat} {xs : List Value} (h : W.ownsRow base e size (.slice (some ⟨g, 0, none⟩) n cap) n xs) : ∃ cs, Box W g e cs := by
  obtain ⟨cells, hc⟩ := own_typed h g rfl
  exact ⟨cells, hc⟩
theorem ne_types' {W : World} {g g' t t' : Nat} {cs : Array Value} (h : Box W g t cs) (h' : ∃ cs', Box W g' t' cs') (ht : t ≠ t') : g ≠ g' := h'.elim fun _ h2 => ne_types h h2 ht
theorem TM.but15 {H : List W64} {l : List S40} {W : List Int} {A A2 : Option Addr} {c c2 : Nat} {w w6 : World} {g11 g12 g13 g15 : Nat} {v : Value} {k : Nat} {X X' : World} (h : TM H l W A A2 c c2 w w6 g11 g12 g13 v k X) (hb : But g15 X X')
    (h0 : w.heap.size + 1 + 1 + 1 < w6.heap.size) (h1 : g11 < w6.heap.size) (h2 : g12 < w6.heap.size) (h3 : g13 < w6.heap.size) (h4 : w6.heap.size ≤ g15) (h5 : ∀ j, v.ownBlock = some j → j < w6.heap.size)
    (hf : ∀ v13, Box X g13 29 #[v13] → ∀ j, v13.ownBlock = some j → j ≠ g15) : TM H l W A A2 c c2 w w6 g11 g12 g13 v k X' := by
  obtain ⟨v13, k1, k2⟩ := h.b13
  exact ⟨Nat.le_trans h.sz hb.size, hb.box h.b4 (by omega), hb.box h.b5 (by omega), (hb.block _ h.z8.lt (by omega)).trans h.z8, hb.box h.b11 (by omega), (hb.block _ h.left.lt (by omega)).trans h.left, ⟨v13, hb.box k1 (by omega), own_move k2 fun j hj => hb.block j (own_lt k2 j hj) (hf v13 k1 j hj)⟩,
    own_move h.out fun j hj => hb.block j (own_lt h.out j hj) (by have := h5 j hj; omega)⟩
theorem keeps_of_box {g : Nat} {A B : World} {t : TypeId} (h : But g A B) (hc : ∃ cs, Box A g t cs) : KeepsOthers A B := by
  obtain ⟨cs, hc⟩ := hc
  refine ⟨h.size, fun k o hk ho => (h.block k (Array.getElem?_eq_some_iff.1 hk).1 ?_).trans hk⟩
  rintro rfl
  have := (show A.heap[_]? = _ from hc).symm.trans hk
  injection this with this
  subst this
  cases ho
theorem But.of_types {g g' : Nat} {A B : World} {t t' : TypeId} {cs : Array Value} (h : But g A B) (hc : ∃ cs, Box A g t cs) (hb : Box A g' t' cs) (ht : t' ≠ t) : Box B g' t' cs := h.box hb (ne_types' hb hc ht)
theorem TM.step11 {H : List W64} {l : List S40} {W : List Int} {A A2 : Option Addr} {c c2 : Nat} {w w6 : World} {g11 g12 g13 go cap : Nat} {k : Nat} {X X' : World} (h : TM H l W A A2 c c2 w w6 g11 g12 g13 (.slice (some ⟨go, 0, none⟩) l.length cap) k X) (hb : But go X X') :
    w6.heap.size ≤ X'.heap.size ∧ Box X' (w.heap.size + 1) 25 #[.slice A l.length c] ∧ Box X' (w.heap.size + 1 + 1) 26 #[.slice A2 W.length c2] ∧ Holds X' (w.heap.size + 1 + 1 + 1) 24 (List.replicate 4 0) ∧ Box X' g11 25 #[.slice (some ⟨go, 0, none⟩) l.length cap] ∧
      Holds X' g12 24 (lAt H l W k) ∧ ∃ v13, Box X' g13 29 #[v13] ∧ X'.ownsRow w6.heap.size 24 4 v13 k (cellsF (nAt H l W) k) := by
  have hg := own_box h.out
  obtain ⟨v13, k1, k2⟩ := h.b13
  obtain ⟨cs, hcs⟩ := hg
  exact ⟨Nat.le_trans h.sz hb.size, hb.of_types ⟨cs, hcs⟩ h.b4 (by decide), hb.of_types ⟨cs, hcs⟩ h.b5 (by decide), hb.of_types ⟨cs, hcs⟩ (show Box X _ 24 _ from h.z8) (by decide), hb.of_types ⟨cs, hcs⟩ h.b11 (by decide),
    hb.of_types ⟨cs, hcs⟩ (show Box X _ 24 _ from h.left) (by decide), v13, hb.of_types ⟨cs, hcs⟩ k1 (by decide), own_away k2 hcs (by decide) hb⟩
theorem four_alloc (w : World) (a b c d : Obj) : ((((w.alloc a).alloc b).alloc c).alloc d).heap[w.heap.size]? = some a ∧ ((((w.alloc a).alloc b).alloc c).alloc d).heap[w.heap.size + 1]? = some b ∧ ((((w.alloc a).alloc b).alloc c).alloc d).heap[w.heap.size + 1 + 1]? = some c ∧
    ((((w.alloc a).alloc b).alloc c).alloc d).heap[w.heap.size + 1 + 1 + 1]? = some d ∧ Below w.heap.size w ((((w.alloc a).alloc b).alloc c).alloc d) := by
  obtain ⟨h1, h2, h3, h4⟩ := three w a b c
  refine ⟨blk_alloc h1 d, blk_alloc h2 d, blk_alloc h3 d, ?_, below_alloc h4 d⟩
  simpa using blk_new (((w.alloc a).alloc b).alloc c) d
set_option maxRecDepth 100000 in
set_option maxHeartbeats 4000000 in
theorem transfer_in (H : List W64) (hH : H.length = 4) (l : List S40) (hl : okL l) (A : Option Addr) (c : Nat) (W : List Int) (A2 : Option Addr) (c2 : Nat) (w : World) (hrow : RowL w.heap.size w A l) (hlen : l.length ≤ c) (hl1 : l.length ≤ 1000)
    (hW : Kd.C (Kd.int .i64) w A2 W.length W) (hc2 : W.length ≤ c2) (hW1 : W.length ≤ 1000) :
    CallsIn Fence.wide 9 Try.prog 9 #[.agg (ws H), .slice A l.length c, .slice A2 W.length c2] w fun e w' =>
      (checkV l W ≠ 0 → e = .returned (.tuple #[.slice A l.length c, .slice none 0 0, .agg (ws H), .int .i64 (checkV l W)]) ∧ Below w.heap.size w w') ∧
      (checkV l W = 0 → ∃ v0 v1, e = .returned (.tuple #[v0, v1, .agg (ws (lAt H l W l.length)), .int .i64 0]) ∧ w'.ownsRow w.heap.size 40 8 v0 l.length (cells40 ((List.range l.length).map (oAt H l W))) ∧
        w'.ownsRow w.heap.size 24 4 v1 l.length (cellsF (nAt H l W) l.length) ∧ (∀ k, v0.ownBlock = some k → v1.ownBlock ≠ some k) ∧ Below w.heap.size w w') := by
  have hro : Fence.wide.round = none := rfl
  have hi24 : (Try.prog.info? 24).map (·.size) = some 4 := by kernel_rfl
  have Hi24 := Aside0.mk hi24
  have HL := Aside0.mk hH
  have HWR := Aside0.mk (fun (X : World) (hX : ∀ i, i < w.heap.size → X.heap[i]? = w.heap[i]?) => Kd.C_F (Kd.heap_int .i64) hW X (fun k hk _ => hX k hk))
  clear hi24 hH
  refine callsIn_of_wp_marks Try.func9 rfl trivial ?_ hro
  simp only [Try.ntmps9, List.size_toArray, List.length_cons, List.length_nil, Nat.reduceAdd, Nat.reduceSub, Array.replicate_succ, Array.replicate_zero, List.push_toArray, List.append_toArray, List.nil_append, List.cons_append]
  have T := four_alloc w (.cells (ws H) 24) (.cells #[.slice A l.length c] 25) (.cells #[.slice A2 W.length c2] 26) (.cells (ws (List.replicate 4 0)) 24)
  rw [← zeros4] at T
  have HT := Aside0.mk T
  have b4 := Box.cell (show Box _ _ 25 _ from T.2.1) 0 _ rfl
  have b5 := Box.cell (show Box _ _ 26 _ from T.2.2.1) 0 _ rfl
  clear T
  gi_wp2_with fail
  refine ⟨trivial, ?_⟩
  have hC1 := hrow _ (fun i hi => HT.out.2.2.2.2.block i hi)
  have hW2 := Kd.C_below hW HT.out.2.2.2.2
  refine (callsIn_wide.2 (check_any A c l W A2 c2 _ hC1 hl1 hW2 hc2 hW1)).mono ?_
  have hsz : ((((w.alloc (.cells (ws H) 24)).alloc (.cells #[.slice A l.length c] 25)).alloc (.cells #[.slice A2 W.length c2] 26)).alloc (.cells #[Value.int .u64 0, .int .u64 0, .int .u64 0, .int .u64 0] 24)).heap.size = w.heap.size + 1 + 1 + 1 + 1 := by simp
  generalize (((w.alloc (.cells (ws H) 24)).alloc (.cells #[.slice A l.length c] 25)).alloc (.cells #[.slice A2 W.length c2] 26)).alloc (.cells #[Value.int .u64 0, .int .u64 0, .int .u64 0, .int .u64 0] 24) = w1 at *
  rintro e w2 ⟨rfl, hb⟩
  have h3 := Aside0.mk (Holds.below (show Holds w1 w.heap.size 24 H from HT.out.1) hb)
  have h4 := Aside0.mk (show Box w2 (w.heap.size + 1) 25 #[.slice A l.length c] from blk_below HT.out.2.1 hb)
  have h5 := Aside0.mk (show Box w2 (w.heap.size + 1 + 1) 26 #[.slice A2 W.length c2] from blk_below HT.out.2.2.1 hb)
  have h8 := Aside0.mk (show Holds w2 (w.heap.size + 1 + 1 + 1) 24 (List.replicate 4 0) from blk_below HT.out.2.2.2.1 hb)
  have hw2 := Aside0.mk (below_step HT.out.2.2.2.2 hb)
  have hs2 : w.heap.size + 1 + 1 + 1 + 1 ≤ w2.heap.size := by have := hb.size; omega
  have HW1 := Aside0.mk (Kd.C_below hW hw2.out)
  clear hb HT hC1 hW2 b4 b5 hsz hW
  by_cases hcv : checkV l W = 0
  · have HCV := Aside0.mk hcv
    gi_wp2_with fail
    refine wpIn_mono (Q := fun e a' w' => e = .normal ∧ ∃ v g11 g12, a' = { tmps := #[.agg (ws H), .slice A l.length c, .slice A2 W.length c2, .pointer (some ⟨w.heap.size, 0, none⟩), .pointer (some ⟨w.heap.size + 1, 0, none⟩), .pointer (some ⟨w.heap.size + 1 + 1, 0, none⟩), .slice none 0 0, .slice none 0 0, .pointer (some ⟨w.heap.size + 1 + 1 + 1, 0, none⟩), .int .i64 0, .int .i64 0, .pointer (some ⟨g11, 0, none⟩), .pointer (some ⟨g12, 0, none⟩), undef, undef, undef, .slice A l.length c, .slice A2 W.length c2, .int .i64 0, .int .i64 0, .bool false, undef, undef, undef, .slice A l.length c, v, .agg (ws H), undef, undef, undef, undef, undef, undef, undef, undef, undef, undef, undef, undef, undef, undef, undef, undef, undef, undef, undef, undef, undef, undef, undef, undef, undef, undef, undef, undef, undef, undef, undef, undef, undef, undef, undef, undef, undef, undef, undef, undef, undef, undef, undef, undef, undef, undef, undef, undef, undef, undef], defers := [] } ∧ S4 w w2 A l.length c H w' ∧ w2.heap.size ≤ g11 ∧ w2.heap.size ≤ g12 ∧ g11 ≠ g12 ∧ w'.ownsRow w.heap.size 40 8 v l.length (cells40 l) ∧ Box w' g11 25 #[v] ∧ Holds w' g12 24 H) (wpIn_wide.2 ?hreg) ?hnext
    case hreg =>
      have hs4 : S4 w w2 A l.length c H w2.drew := ⟨h4.out, h3.out, below_drew1 hw2.out, Nat.le_refl _, by omega, below_drew1 (Below.refl _ _)⟩
      have hlz := HL.out
      obtain ⟨p0, p1, p2, p3, rfl⟩ := four H hlz
      refine wp_region_held_drew (S := S4 w w2 A l.length c [p0, p1, p2, p3]) (by kernel_rfl) hs4 (fun hHeld => ?_)
      generalize w2.drew = W0 at *
      refine wpAnyH_take (i := 0) (v := .slice A l.length c) rfl (by kernel_rfl) (by kernel_rfl) (by kernel_rfl) (fun _ _ _ h => absurd h.1 (by simp)) (.inl ⟨by rfl, fun W' hS => by have b := hS.b4.cell 0 _ rfl; go_simp⟩) hHeld ?_
      try simp only [Act.put, List.setIfInBounds_toArray, List.set_cons_zero, List.set_cons_succ]
      refine wpAnyH_take (i := 2) (v := .agg (ws [p0, p1, p2, p3])) rfl (by kernel_rfl) (by kernel_rfl) (by kernel_rfl) (fun _ _ _ h => absurd h.1 (by simp)) (.inl ⟨by rfl, fun W' hS => by have b0 := hS.b3.cell 0 (by simp); have b1 := hS.b3.cell 1 (by simp); have b2 := hS.b3.cell 2 (by simp); have b3 := hS.b3.cell 3 (by simp); go_simp; rfl⟩) hHeld ?_
      try simp only [Act.put, List.setIfInBounds_toArray, List.set_cons_zero, List.set_cons_succ]
      refine wpAnyH_ready (rs := [1, 3, 4]) (by kernel_rfl) (by simp) ?_
      refine AllReadyH.cons rfl (fun K hK => ?_) ?_
      focus
        go_simp
        refine (clone_any A c l _ (hrow _ (fun i hi => hHeld.bel.block i hi)) hlen hl1).mono ?_
        rintro e wx1 ⟨v, rfl, hown, hb⟩
        obtain ⟨Av, cv, rfl⟩ := own_slice hown
        have HV := Aside0.mk (own_weaken hown hHeld.bel.size)
        refine hK.out _ _ (hHeld.step hb) (fun hHeld => ?_)
        clear hown hb hK K
        try simp only [Act.put, List.setIfInBounds_toArray, List.set_cons_zero, List.set_cons_succ]
        refine wpAnyH_ready (rs := [3, 4]) (by kernel_rfl) (by simp) ?_
        refine AllReadyH.cons rfl (fun K hK => ?_) ?_
        focus
          go_simp
          have hb := hHeld.al (.cells #[.slice none 0 0] 25)
          replace HV := Aside0.mk (own_below HV.out hb)
          have H11 := Aside0.mk (hHeld.new #[.slice none 0 0] 25)
          refine hK.out _ _ (hHeld.step hb) (fun hHeld => ?_)
          clear hb hK K
          generalize wx1.alloc _ = wy2 at *
          generalize wx1.heap.size = g11 at *
          try simp only [Act.put, List.setIfInBounds_toArray, List.set_cons_zero, List.set_cons_succ]
          refine wpAnyH_ready (rs := [4]) (by kernel_rfl) (by simp) ?_
          refine AllReadyH.cons rfl (fun K hK => ?_) AllReadyH.nil
          go_simp
          have hb := hHeld.al (.cells #[Value.int .u64 0, .int .u64 0, .int .u64 0, .int .u64 0] 24)
          replace HV := Aside0.mk (own_below HV.out hb)
          replace H11 := Aside0.mk (And.intro (show Box _ _ _ _ from blk_below H11.out.1 hb) H11.out.2)
          have H12 := Aside0.mk (hHeld.new #[Value.int .u64 0, .int .u64 0, .int .u64 0, .int .u64 0] 24)
          refine hK.out _ _ (hHeld.step hb) (fun hHeld => ?_)
          clear hb hK K
          generalize wy2.alloc _ = wy3 at *
          generalize wy2.heap.size = g12 at *
          try simp only [Act.put, List.setIfInBounds_toArray, List.set_cons_zero, List.set_cons_succ]
          have b11 := Box.cell H11.out.1 0 _ rfl
          have f11 := Box.free H11.out.1 0
          have n11 := H11.out.2
          have n12 := H12.out.2
          have hne := ne_types H11.out.1 H12.out.1 (by decide)
          refine wpAnyH_ready (rs := [5]) (by kernel_rfl) (by simp) ?_
          refine AllReadyH.cons rfl (fun K hK => ?_) AllReadyH.nil
          go_simp
          refine hK.out _ _ (hHeld.set n11 0 _) (fun hHeld => ?_)
          clear hK K b11 f11
          have HV2 := Aside0.mk (own_set HV.out H11.out.1 (k := 0) (by decide) (.slice Av l.length cv))
          have H11' := Aside0.mk (show Box _ _ 25 #[.slice Av l.length cv] from blk_set H11.out.1 0 (.slice Av l.length cv))
          have H12' := Aside0.mk (show Holds _ _ 24 (List.replicate 4 0) from blk_far (p := ⟨g11, 0, none⟩) H12.out.1 (fun e => hne e.symm) (.slice Av l.length cv))
          generalize wy3.setCell _ _ = Ws at *
          try simp only [Act.put, List.setIfInBounds_toArray, List.set_cons_zero, List.set_cons_succ]
          have hx := H12'.out
          have z0 := hx.cell 0 (by simp)
          have y0 := hx.free 0
          have z1 := hx.cell 1 (by simp)
          have y1 := hx.free 1
          have z2 := hx.cell 2 (by simp)
          have y2 := hx.free 2
          have z3 := hx.cell 3 (by simp)
          have y3 := hx.free 3
          clear hx
          have hws : ws [p0, p1, p2, p3] = #[.int .u64 (vw p0), .int .u64 (vw p1), .int .u64 (vw p2), .int .u64 (vw p3)] := rfl
          refine wpAnyH_ready (rs := [6]) (by kernel_rfl) (by simp) ?_
          refine AllReadyH.cons rfl (fun K hK => ?_) AllReadyH.nil
          go_simp
          refine hK.out _ _ ((((hHeld.set n12 0 _).set n12 1 _).set n12 2 _).set n12 3 _) (fun hHeld => ?_)
          clear hK K z0 z1 z2 z3 y0 y1 y2 y3 hws
          try simp only [Act.put, List.setIfInBounds_toArray, List.set_cons_zero, List.set_cons_succ]
          refine wpAnyH_done (by kernel_rfl) ?_ _
          exact ⟨rfl, _, g11, g12, rfl, hHeld, n11, n12, hne, fin4 HV2.out H11'.out H12'.out⟩
        refine AllReadyH.cons rfl (fun K hK => ?_) AllReadyH.nil
        go_simp
        have hb := hHeld.al (.cells #[Value.int .u64 0, .int .u64 0, .int .u64 0, .int .u64 0] 24)
        replace HV := Aside0.mk (own_below HV.out hb)
        have H12 := Aside0.mk (hHeld.new #[Value.int .u64 0, .int .u64 0, .int .u64 0, .int .u64 0] 24)
        refine hK.out _ _ (hHeld.step hb) (fun hHeld => ?_)
        clear hb hK K
        generalize wx1.alloc _ = wy4 at *
        generalize wx1.heap.size = g12 at *
        try simp only [Act.put, List.setIfInBounds_toArray, List.set_cons_zero, List.set_cons_succ]
        refine wpAnyH_ready (rs := [3]) (by kernel_rfl) (by simp) ?_
        refine AllReadyH.cons rfl (fun K hK => ?_) AllReadyH.nil
        go_simp
        have hb := hHeld.al (.cells #[.slice none 0 0] 25)
        replace HV := Aside0.mk (own_below HV.out hb)
        replace H12 := Aside0.mk (And.intro (show Box _ _ _ _ from blk_below H12.out.1 hb) H12.out.2)
        have H11 := Aside0.mk (hHeld.new #[.slice none 0 0] 25)
        refine hK.out _ _ (hHeld.step hb) (fun hHeld => ?_)
        clear hb hK K
        generalize wy4.alloc _ = wy5 at *
        generalize wy4.heap.size = g11 at *
        try simp only [Act.put, List.setIfInBounds_toArray, List.set_cons_zero, List.set_cons_succ]
        have b11 := Box.cell H11.out.1 0 _ rfl
        have f11 := Box.free H11.out.1 0
        have n11 := H11.out.2
        have n12 := H12.out.2
        have hne := ne_types H11.out.1 H12.out.1 (by decide)
        refine wpAnyH_ready (rs := [5]) (by kernel_rfl) (by simp) ?_
        refine AllReadyH.cons rfl (fun K hK => ?_) AllReadyH.nil
        go_simp
        refine hK.out _ _ (hHeld.set n11 0 _) (fun hHeld => ?_)
        clear hK K b11 f11
        have HV2 := Aside0.mk (own_set HV.out H11.out.1 (k := 0) (by decide) (.slice Av l.length cv))
        have H11' := Aside0.mk (show Box _ _ 25 #[.slice Av l.length cv] from blk_set H11.out.1 0 (.slice Av l.length cv))
        have H12' := Aside0.mk (show Holds _ _ 24 (List.replicate 4 0) from blk_far (p := ⟨g11, 0, none⟩) H12.out.1 (fun e => hne e.symm) (.slice Av l.length cv))
        generalize wy5.setCell _ _ = Ws at *
        try simp only [Act.put, List.setIfInBounds_toArray, List.set_cons_zero, List.set_cons_succ]
        have hx := H12'.out
        have z0 := hx.cell 0 (by simp)
        have y0 := hx.free 0
        have z1 := hx.cell 1 (by simp)
        have y1 := hx.free 1
        have z2 := hx.cell 2 (by simp)
        have y2 := hx.free 2
        have z3 := hx.cell 3 (by simp)
        have y3 := hx.free 3
        clear hx
        have hws : ws [p0, p1, p2, p3] = #[.int .u64 (vw p0), .int .u64 (vw p1), .int .u64 (vw p2), .int .u64 (vw p3)] := rfl
        refine wpAnyH_ready (rs := [6]) (by kernel_rfl) (by simp) ?_
        refine AllReadyH.cons rfl (fun K hK => ?_) AllReadyH.nil
        go_simp
        refine hK.out _ _ ((((hHeld.set n12 0 _).set n12 1 _).set n12 2 _).set n12 3 _) (fun hHeld => ?_)
        clear hK K z0 z1 z2 z3 y0 y1 y2 y3 hws
        try simp only [Act.put, List.setIfInBounds_toArray, List.set_cons_zero, List.set_cons_succ]
        refine wpAnyH_done (by kernel_rfl) ?_ _
        exact ⟨rfl, _, g11, g12, rfl, hHeld, n11, n12, hne, fin4 HV2.out H11'.out H12'.out⟩
      refine AllReadyH.cons rfl (fun K hK => ?_) ?_
      focus
        go_simp
        have hb := hHeld.al (.cells #[.slice none 0 0] 25)
        have H11 := Aside0.mk (hHeld.new #[.slice none 0 0] 25)
        refine hK.out _ _ (hHeld.step hb) (fun hHeld => ?_)
        clear hb hK K
        generalize W0.alloc _ = wy6 at *
        generalize W0.heap.size = g11 at *
        try simp only [Act.put, List.setIfInBounds_toArray, List.set_cons_zero, List.set_cons_succ]
        refine wpAnyH_ready (rs := [1, 4]) (by kernel_rfl) (by simp) ?_
        refine AllReadyH.cons rfl (fun K hK => ?_) ?_
        focus
          go_simp
          refine (clone_any A c l _ (hrow _ (fun i hi => hHeld.bel.block i hi)) hlen hl1).mono ?_
          rintro e wx7 ⟨v, rfl, hown, hb⟩
          obtain ⟨Av, cv, rfl⟩ := own_slice hown
          have HV := Aside0.mk (own_weaken hown hHeld.bel.size)
          replace H11 := Aside0.mk (And.intro (show Box wx7 _ _ _ from blk_below H11.out.1 hb) H11.out.2)
          refine hK.out _ _ (hHeld.step hb) (fun hHeld => ?_)
          clear hown hb hK K
          try simp only [Act.put, List.setIfInBounds_toArray, List.set_cons_zero, List.set_cons_succ]
          refine wpAnyH_ready (rs := [4]) (by kernel_rfl) (by simp) ?_
          refine AllReadyH.cons rfl (fun K hK => ?_) AllReadyH.nil
          go_simp
          have hb := hHeld.al (.cells #[Value.int .u64 0, .int .u64 0, .int .u64 0, .int .u64 0] 24)
          replace HV := Aside0.mk (own_below HV.out hb)
          replace H11 := Aside0.mk (And.intro (show Box _ _ _ _ from blk_below H11.out.1 hb) H11.out.2)
          have H12 := Aside0.mk (hHeld.new #[Value.int .u64 0, .int .u64 0, .int .u64 0, .int .u64 0] 24)
          refine hK.out _ _ (hHeld.step hb) (fun hHeld => ?_)
          clear hb hK K
          generalize wx7.alloc _ = wy8 at *
          generalize wx7.heap.size = g12 at *
          try simp only [Act.put, List.setIfInBounds_toArray, List.set_cons_zero, List.set_cons_succ]
          have b11 := Box.cell H11.out.1 0 _ rfl
          have f11 := Box.free H11.out.1 0
          have n11 := H11.out.2
          have n12 := H12.out.2
          have hne := ne_types H11.out.1 H12.out.1 (by decide)
          refine wpAnyH_ready (rs := [5]) (by kernel_rfl) (by simp) ?_
          refine AllReadyH.cons rfl (fun K hK => ?_) AllReadyH.nil
          go_simp
          refine hK.out _ _ (hHeld.set n11 0 _) (fun hHeld => ?_)
          clear hK K b11 f11
          have HV2 := Aside0.mk (own_set HV.out H11.out.1 (k := 0) (by decide) (.slice Av l.length cv))
          have H11' := Aside0.mk (show Box _ _ 25 #[.slice Av l.length cv] from blk_set H11.out.1 0 (.slice Av l.length cv))
          have H12' := Aside0.mk (show Holds _ _ 24 (List.replicate 4 0) from blk_far (p := ⟨g11, 0, none⟩) H12.out.1 (fun e => hne e.symm) (.slice Av l.length cv))
          generalize wy8.setCell _ _ = Ws at *
          try simp only [Act.put, List.setIfInBounds_toArray, List.set_cons_zero, List.set_cons_succ]
          have hx := H12'.out
          have z0 := hx.cell 0 (by simp)
          have y0 := hx.free 0
          have z1 := hx.cell 1 (by simp)
          have y1 := hx.free 1
          have z2 := hx.cell 2 (by simp)
          have y2 := hx.free 2
          have z3 := hx.cell 3 (by simp)
          have y3 := hx.free 3
          clear hx
          have hws : ws [p0, p1, p2, p3] = #[.int .u64 (vw p0), .int .u64 (vw p1), .int .u64 (vw p2), .int .u64 (vw p3)] := rfl
          refine wpAnyH_ready (rs := [6]) (by kernel_rfl) (by simp) ?_
          refine AllReadyH.cons rfl (fun K hK => ?_) AllReadyH.nil
          go_simp
          refine hK.out _ _ ((((hHeld.set n12 0 _).set n12 1 _).set n12 2 _).set n12 3 _) (fun hHeld => ?_)
          clear hK K z0 z1 z2 z3 y0 y1 y2 y3 hws
          try simp only [Act.put, List.setIfInBounds_toArray, List.set_cons_zero, List.set_cons_succ]
          refine wpAnyH_done (by kernel_rfl) ?_ _
          exact ⟨rfl, _, g11, g12, rfl, hHeld, n11, n12, hne, fin4 HV2.out H11'.out H12'.out⟩
        refine AllReadyH.cons rfl (fun K hK => ?_) AllReadyH.nil
        go_simp
        have hb := hHeld.al (.cells #[Value.int .u64 0, .int .u64 0, .int .u64 0, .int .u64 0] 24)
        replace H11 := Aside0.mk (And.intro (show Box _ _ _ _ from blk_below H11.out.1 hb) H11.out.2)
        have H12 := Aside0.mk (hHeld.new #[Value.int .u64 0, .int .u64 0, .int .u64 0, .int .u64 0] 24)
        refine hK.out _ _ (hHeld.step hb) (fun hHeld => ?_)
        clear hb hK K
        generalize wy6.alloc _ = wy9 at *
        generalize wy6.heap.size = g12 at *
        try simp only [Act.put, List.setIfInBounds_toArray, List.set_cons_zero, List.set_cons_succ]
        refine wpAnyH_ready (rs := [1]) (by kernel_rfl) (by simp) ?_
        refine AllReadyH.cons rfl (fun K hK => ?_) AllReadyH.nil
        go_simp
        refine (clone_any A c l _ (hrow _ (fun i hi => hHeld.bel.block i hi)) hlen hl1).mono ?_
        rintro e wx10 ⟨v, rfl, hown, hb⟩
        obtain ⟨Av, cv, rfl⟩ := own_slice hown
        have HV := Aside0.mk (own_weaken hown hHeld.bel.size)
        replace H11 := Aside0.mk (And.intro (show Box wx10 _ _ _ from blk_below H11.out.1 hb) H11.out.2)
        replace H12 := Aside0.mk (And.intro (show Box wx10 _ _ _ from blk_below H12.out.1 hb) H12.out.2)
        refine hK.out _ _ (hHeld.step hb) (fun hHeld => ?_)
        clear hown hb hK K
        try simp only [Act.put, List.setIfInBounds_toArray, List.set_cons_zero, List.set_cons_succ]
        have b11 := Box.cell H11.out.1 0 _ rfl
        have f11 := Box.free H11.out.1 0
        have n11 := H11.out.2
        have n12 := H12.out.2
        have hne := ne_types H11.out.1 H12.out.1 (by decide)
        refine wpAnyH_ready (rs := [5]) (by kernel_rfl) (by simp) ?_
        refine AllReadyH.cons rfl (fun K hK => ?_) AllReadyH.nil
        go_simp
        refine hK.out _ _ (hHeld.set n11 0 _) (fun hHeld => ?_)
        clear hK K b11 f11
        have HV2 := Aside0.mk (own_set HV.out H11.out.1 (k := 0) (by decide) (.slice Av l.length cv))
        have H11' := Aside0.mk (show Box _ _ 25 #[.slice Av l.length cv] from blk_set H11.out.1 0 (.slice Av l.length cv))
        have H12' := Aside0.mk (show Holds _ _ 24 (List.replicate 4 0) from blk_far (p := ⟨g11, 0, none⟩) H12.out.1 (fun e => hne e.symm) (.slice Av l.length cv))
        generalize wx10.setCell _ _ = Ws at *
        try simp only [Act.put, List.setIfInBounds_toArray, List.set_cons_zero, List.set_cons_succ]
        have hx := H12'.out
        have z0 := hx.cell 0 (by simp)
        have y0 := hx.free 0
        have z1 := hx.cell 1 (by simp)
        have y1 := hx.free 1
        have z2 := hx.cell 2 (by simp)
        have y2 := hx.free 2
        have z3 := hx.cell 3 (by simp)
        have y3 := hx.free 3
        clear hx
        have hws : ws [p0, p1, p2, p3] = #[.int .u64 (vw p0), .int .u64 (vw p1), .int .u64 (vw p2), .int .u64 (vw p3)] := rfl
        refine wpAnyH_ready (rs := [6]) (by kernel_rfl) (by simp) ?_
        refine AllReadyH.cons rfl (fun K hK => ?_) AllReadyH.nil
        go_simp
        refine hK.out _ _ ((((hHeld.set n12 0 _).set n12 1 _).set n12 2 _).set n12 3 _) (fun hHeld => ?_)
        clear hK K z0 z1 z2 z3 y0 y1 y2 y3 hws
        try simp only [Act.put, List.setIfInBounds_toArray, List.set_cons_zero, List.set_cons_succ]
        refine wpAnyH_done (by kernel_rfl) ?_ _
        exact ⟨rfl, _, g11, g12, rfl, hHeld, n11, n12, hne, fin4 HV2.out H11'.out H12'.out⟩
      refine AllReadyH.cons rfl (fun K hK => ?_) AllReadyH.nil
      go_simp
      have hb := hHeld.al (.cells #[Value.int .u64 0, .int .u64 0, .int .u64 0, .int .u64 0] 24)
      have H12 := Aside0.mk (hHeld.new #[Value.int .u64 0, .int .u64 0, .int .u64 0, .int .u64 0] 24)
      refine hK.out _ _ (hHeld.step hb) (fun hHeld => ?_)
      clear hb hK K
      generalize W0.alloc _ = wy11 at *
      generalize W0.heap.size = g12 at *
      try simp only [Act.put, List.setIfInBounds_toArray, List.set_cons_zero, List.set_cons_succ]
      refine wpAnyH_ready (rs := [1, 3]) (by kernel_rfl) (by simp) ?_
      refine AllReadyH.cons rfl (fun K hK => ?_) ?_
      focus
        go_simp
        refine (clone_any A c l _ (hrow _ (fun i hi => hHeld.bel.block i hi)) hlen hl1).mono ?_
        rintro e wx12 ⟨v, rfl, hown, hb⟩
        obtain ⟨Av, cv, rfl⟩ := own_slice hown
        have HV := Aside0.mk (own_weaken hown hHeld.bel.size)
        replace H12 := Aside0.mk (And.intro (show Box wx12 _ _ _ from blk_below H12.out.1 hb) H12.out.2)
        refine hK.out _ _ (hHeld.step hb) (fun hHeld => ?_)
        clear hown hb hK K
        try simp only [Act.put, List.setIfInBounds_toArray, List.set_cons_zero, List.set_cons_succ]
        refine wpAnyH_ready (rs := [3]) (by kernel_rfl) (by simp) ?_
        refine AllReadyH.cons rfl (fun K hK => ?_) AllReadyH.nil
        go_simp
        have hb := hHeld.al (.cells #[.slice none 0 0] 25)
        replace HV := Aside0.mk (own_below HV.out hb)
        replace H12 := Aside0.mk (And.intro (show Box _ _ _ _ from blk_below H12.out.1 hb) H12.out.2)
        have H11 := Aside0.mk (hHeld.new #[.slice none 0 0] 25)
        refine hK.out _ _ (hHeld.step hb) (fun hHeld => ?_)
        clear hb hK K
        generalize wx12.alloc _ = wy13 at *
        generalize wx12.heap.size = g11 at *
        try simp only [Act.put, List.setIfInBounds_toArray, List.set_cons_zero, List.set_cons_succ]
        have b11 := Box.cell H11.out.1 0 _ rfl
        have f11 := Box.free H11.out.1 0
        have n11 := H11.out.2
        have n12 := H12.out.2
        have hne := ne_types H11.out.1 H12.out.1 (by decide)
        refine wpAnyH_ready (rs := [5]) (by kernel_rfl) (by simp) ?_
        refine AllReadyH.cons rfl (fun K hK => ?_) AllReadyH.nil
        go_simp
        refine hK.out _ _ (hHeld.set n11 0 _) (fun hHeld => ?_)
        clear hK K b11 f11
        have HV2 := Aside0.mk (own_set HV.out H11.out.1 (k := 0) (by decide) (.slice Av l.length cv))
        have H11' := Aside0.mk (show Box _ _ 25 #[.slice Av l.length cv] from blk_set H11.out.1 0 (.slice Av l.length cv))
        have H12' := Aside0.mk (show Holds _ _ 24 (List.replicate 4 0) from blk_far (p := ⟨g11, 0, none⟩) H12.out.1 (fun e => hne e.symm) (.slice Av l.length cv))
        generalize wy13.setCell _ _ = Ws at *
        try simp only [Act.put, List.setIfInBounds_toArray, List.set_cons_zero, List.set_cons_succ]
        have hx := H12'.out
        have z0 := hx.cell 0 (by simp)
        have y0 := hx.free 0
        have z1 := hx.cell 1 (by simp)
        have y1 := hx.free 1
        have z2 := hx.cell 2 (by simp)
        have y2 := hx.free 2
        have z3 := hx.cell 3 (by simp)
        have y3 := hx.free 3
        clear hx
        have hws : ws [p0, p1, p2, p3] = #[.int .u64 (vw p0), .int .u64 (vw p1), .int .u64 (vw p2), .int .u64 (vw p3)] := rfl
        refine wpAnyH_ready (rs := [6]) (by kernel_rfl) (by simp) ?_
        refine AllReadyH.cons rfl (fun K hK => ?_) AllReadyH.nil
        go_simp
        refine hK.out _ _ ((((hHeld.set n12 0 _).set n12 1 _).set n12 2 _).set n12 3 _) (fun hHeld => ?_)
        clear hK K z0 z1 z2 z3 y0 y1 y2 y3 hws
        try simp only [Act.put, List.setIfInBounds_toArray, List.set_cons_zero, List.set_cons_succ]
        refine wpAnyH_done (by kernel_rfl) ?_ _
        exact ⟨rfl, _, g11, g12, rfl, hHeld, n11, n12, hne, fin4 HV2.out H11'.out H12'.out⟩
      refine AllReadyH.cons rfl (fun K hK => ?_) AllReadyH.nil
      go_simp
      have hb := hHeld.al (.cells #[.slice none 0 0] 25)
      replace H12 := Aside0.mk (And.intro (show Box _ _ _ _ from blk_below H12.out.1 hb) H12.out.2)
      have H11 := Aside0.mk (hHeld.new #[.slice none 0 0] 25)
      refine hK.out _ _ (hHeld.step hb) (fun hHeld => ?_)
      clear hb hK K
      generalize wy11.alloc _ = wy14 at *
      generalize wy11.heap.size = g11 at *
      try simp only [Act.put, List.setIfInBounds_toArray, List.set_cons_zero, List.set_cons_succ]
      refine wpAnyH_ready (rs := [1]) (by kernel_rfl) (by simp) ?_
      refine AllReadyH.cons rfl (fun K hK => ?_) AllReadyH.nil
      go_simp
      refine (clone_any A c l _ (hrow _ (fun i hi => hHeld.bel.block i hi)) hlen hl1).mono ?_
      rintro e wx15 ⟨v, rfl, hown, hb⟩
      obtain ⟨Av, cv, rfl⟩ := own_slice hown
      have HV := Aside0.mk (own_weaken hown hHeld.bel.size)
      replace H12 := Aside0.mk (And.intro (show Box wx15 _ _ _ from blk_below H12.out.1 hb) H12.out.2)
      replace H11 := Aside0.mk (And.intro (show Box wx15 _ _ _ from blk_below H11.out.1 hb) H11.out.2)
      refine hK.out _ _ (hHeld.step hb) (fun hHeld => ?_)
      clear hown hb hK K
      try simp only [Act.put, List.setIfInBounds_toArray, List.set_cons_zero, List.set_cons_succ]
      have b11 := Box.cell H11.out.1 0 _ rfl
      have f11 := Box.free H11.out.1 0
      have n11 := H11.out.2
      have n12 := H12.out.2
      have hne := ne_types H11.out.1 H12.out.1 (by decide)
      refine wpAnyH_ready (rs := [5]) (by kernel_rfl) (by simp) ?_
      refine AllReadyH.cons rfl (fun K hK => ?_) AllReadyH.nil
      go_simp
      refine hK.out _ _ (hHeld.set n11 0 _) (fun hHeld => ?_)
      clear hK K b11 f11
      have HV2 := Aside0.mk (own_set HV.out H11.out.1 (k := 0) (by decide) (.slice Av l.length cv))
      have H11' := Aside0.mk (show Box _ _ 25 #[.slice Av l.length cv] from blk_set H11.out.1 0 (.slice Av l.length cv))
      have H12' := Aside0.mk (show Holds _ _ 24 (List.replicate 4 0) from blk_far (p := ⟨g11, 0, none⟩) H12.out.1 (fun e => hne e.symm) (.slice Av l.length cv))
      generalize wx15.setCell _ _ = Ws at *
      try simp only [Act.put, List.setIfInBounds_toArray, List.set_cons_zero, List.set_cons_succ]
      have hx := H12'.out
      have z0 := hx.cell 0 (by simp)
      have y0 := hx.free 0
      have z1 := hx.cell 1 (by simp)
      have y1 := hx.free 1
      have z2 := hx.cell 2 (by simp)
      have y2 := hx.free 2
      have z3 := hx.cell 3 (by simp)
      have y3 := hx.free 3
      clear hx
      have hws : ws [p0, p1, p2, p3] = #[.int .u64 (vw p0), .int .u64 (vw p1), .int .u64 (vw p2), .int .u64 (vw p3)] := rfl
      refine wpAnyH_ready (rs := [6]) (by kernel_rfl) (by simp) ?_
      refine AllReadyH.cons rfl (fun K hK => ?_) AllReadyH.nil
      go_simp
      refine hK.out _ _ ((((hHeld.set n12 0 _).set n12 1 _).set n12 2 _).set n12 3 _) (fun hHeld => ?_)
      clear hK K z0 z1 z2 z3 y0 y1 y2 y3 hws
      try simp only [Act.put, List.setIfInBounds_toArray, List.set_cons_zero, List.set_cons_succ]
      refine wpAnyH_done (by kernel_rfl) ?_ _
      exact ⟨rfl, _, g11, g12, rfl, hHeld, n11, n12, hne, fin4 HV2.out H11'.out H12'.out⟩
    case hnext =>
      rintro e a' w4 ⟨rfl, v, g11, g12, rfl, hs4, n11, n12, hne, hv, h11, h12⟩
      have H5 := Aside0.mk (show Box w4 (w.heap.size + 1 + 1) 26 #[.slice A2 W.length c2] from blk_below h5.out hs4.kb)
      have H8 := Aside0.mk (show Holds w4 (w.heap.size + 1 + 1 + 1) 24 (List.replicate 4 0) from blk_below h8.out hs4.kb)
      have HW4 := Aside0.mk (Kd.C_below HW1.out hs4.kb)
      have H4 := Aside0.mk hs4
      have HV := Aside0.mk hv
      have H11 := Aside0.mk h11
      have H12 := Aside0.mk h12
      have l11 := h11.lt
      have l12 : g12 < w4.heap.size := h12.lt
      clear hs4 hv h11 h12 h3 h4 h5 h8 hw2 HW1
      have hb13 := below_alloc (Below.refl w4.heap.size w4) (.cells #[.slice none 0 0] 29)
      have h13 : Box (w4.alloc (.cells #[.slice none 0 0] 29)) w4.heap.size 29 #[.slice none 0 0] := blk_new w4 _
      have a4 := (show Box _ _ 25 _ from blk_below H4.out.b4 hb13).cell 0 _ rfl
      have hs13 : (w4.alloc (.cells #[.slice none 0 0] 29)).heap.size = w4.heap.size + 1 := by simp
      have H13 := Aside0.mk (And.intro h13 (And.intro hb13 hs13))
      clear h13 hb13 hs13
      gi_wp2_with (refine load_wsIn rfl 24 _ rfl w.heap.size rfl 24 H 4 _ (H4.out.b3.below H13.out.2.1) HL.out Try.underlying24 rfl Hi24.out ?_)
      refine ⟨trivial, ?_⟩
      have hbel5 := below_step H4.out.bel H13.out.2.1
      have s8 : w.heap.size + 1 + 1 + 1 + 1 ≤ w2.heap.size := hs2
      have H4b := Aside0.mk (show Box _ (w.heap.size + 1) 25 #[.slice A l.length c] from blk_below H4.out.b4 H13.out.2.1)
      have H5b := Aside0.mk (show Box _ (w.heap.size + 1 + 1) 26 #[.slice A2 W.length c2] from blk_below H5.out H13.out.2.1)
      have H8b := Aside0.mk (show Holds _ (w.heap.size + 1 + 1 + 1) 24 (List.replicate 4 0) from blk_below H8.out H13.out.2.1)
      have HW5 := Aside0.mk (Kd.C_below HW4.out H13.out.2.1)
      have HVb := Aside0.mk (own_below HV.out H13.out.2.1)
      have H11b := Aside0.mk (show Box _ g11 25 #[v] from blk_below H11.out H13.out.2.1)
      have H12b := Aside0.mk (show Holds _ g12 24 H from blk_below H12.out H13.out.2.1)
      have H13b := Aside0.mk H13.out.1
      have hvlt : ∀ j, v.ownBlock = some j → j < w4.heap.size := own_lt HV.out
      have HBel := Aside0.mk hbel5
      have hs5 := H13.out.2.2
      have h24 := H4.out.big
      clear H4 H5 H8 HW4 HV H11 H12 H13 hbel5 a4
      generalize w4.alloc (.cells #[.slice none 0 0] 29) = w5 at *
      generalize w4.heap.size = g13 at *
      refine (callsIn_wide.2 (covered_any H A l.length c w5)).mono ?_
      rintro e w6 ⟨rfl, hh, hbx, hb⟩
      rw [hs5] at hh hbx hb ⊢
      have l6 : g13 + 1 + 1 < w6.heap.size := hbx.lt
      have hb' : Below w5.heap.size w5 w6 := by rw [hs5]; exact hb
      have HH6 := Aside0.mk hh
      have HX6 := Aside0.mk hbx
      have H46 := Aside0.mk (show Box w6 (w.heap.size + 1) 25 #[.slice A l.length c] from blk_below H4b.out hb')
      have H56 := Aside0.mk (show Box w6 (w.heap.size + 1 + 1) 26 #[.slice A2 W.length c2] from blk_below H5b.out hb')
      have H86 := Aside0.mk (show Holds w6 (w.heap.size + 1 + 1 + 1) 24 (List.replicate 4 0) from blk_below H8b.out hb')
      have HW6 := Aside0.mk (Kd.C_below HW5.out hb')
      have HV6 := Aside0.mk (own_below HVb.out hb')
      have H116 := Aside0.mk (show Box w6 g11 25 #[v] from blk_below H11b.out hb')
      have H126 := Aside0.mk (show Holds w6 g12 24 H from blk_below H12b.out hb')
      have H136 := Aside0.mk (show Box w6 g13 29 #[.slice none 0 0] from blk_below H13b.out hb')
      have HB6 := Aside0.mk (below_step HBel.out hb')
      have hsN : w.heap.size + 1 + 1 + 1 < g13 := by omega
      clear hh hbx hb hb' H4b H5b H8b HW5 HVb H11b H12b H13b HBel
      gi_wp2_with fail
      refine range_rounds hro (by omega) (gf := 28) (lb := #[.pointer (some ⟨g13 + 1 + 1, 0, none⟩), .pointer (some ⟨g13 + 1, 0, none⟩)]) rfl trivial (enters_of Try.func28 (by kernel_rfl) rfl)
        (cover_rounds 8 (by omega) H HL.out l hl A c w.heap.size (g13 + 1) (g13 + 1 + 1) w (Nat.le_refl _) (by omega) (by omega) (by omega) hrow hlen (by omega)
          (fun k X => TM H l W A A2 c c2 w w6 g11 g12 g13 v k X) ?hC) (fun _ => rfl) ?hI ?hI0
        (fun k a1 X => ∃ g15, a1 = { tmps := #[.agg (ws H), .slice A l.length c, .slice A2 W.length c2, .pointer (some ⟨w.heap.size, 0, none⟩), .pointer (some ⟨w.heap.size + 1, 0, none⟩), .pointer (some ⟨w.heap.size + 1 + 1, 0, none⟩), .slice none 0 0, .slice none 0 0, .pointer (some ⟨w.heap.size + 1 + 1 + 1, 0, none⟩), .int .i64 0, .int .i64 0, .pointer (some ⟨g11, 0, none⟩), .pointer (some ⟨g12, 0, none⟩), .pointer (some ⟨g13, 0, none⟩), .int .i64 (k : Nat), .pointer (some ⟨g15, 0, none⟩), .slice A l.length c, .slice A2 W.length c2, .int .i64 0, .int .i64 0, .bool false, undef, undef, undef, .slice A l.length c, v, .agg (ws H), .agg (ws H), .slice A l.length c, .func (.func 28) #[] #[.pointer (some ⟨g13 + 1 + 1, 0, none⟩), .pointer (some ⟨g13 + 1, 0, none⟩)], .int .i64 (k : Nat), .agg (ws (cAt H l k)), undef, undef, undef, undef, undef, undef, undef, undef, undef, undef, undef, undef, undef, undef, undef, undef, undef, undef, undef, undef, undef, undef, undef, undef, undef, undef, undef, undef, undef, undef, undef, undef, undef, undef, undef, undef, undef, undef, undef, undef, undef, undef, undef, undef, undef], defers := [] } ∧
          w6.heap.size ≤ g15 ∧ Holds X g15 24 (cAt H l k) ∧ Hd H l A c w.heap.size (g13 + 1) (g13 + 1 + 1) w (k + 1) X ∧ TM H l W A A2 c c2 w w6 g11 g12 g13 v k X ∧ ∀ v13, Box X g13 29 #[v13] → ∀ j, v13.ownBlock = some j → j ≠ g15) ?hB ?hassign ?hbody ?hdone
      case hC =>
        intro k X X' ht hb
        exact ht.but hb (by omega) (by omega) (by omega) (by omega) (by omega) (fun j hj => by have := hvlt j hj; omega)
      case hI =>
        rintro k X lp o o' ⟨hd, ht⟩ hlp hlo hoc
        refine ⟨⟨(World.putObj_heap_other (by omega)).trans hd.held, (World.putObj_heap_other (by omega)).trans hd.box, ?_⟩, ht.put o hlp hlo hoc (by omega) (by omega) (by omega) (by omega)⟩
        exact hd.below.grown (grownBy_putObj' X lp o) (by have := hd.below.size; omega) (fun j e => by have := Option.some.inj e; omega)
      case hI0 =>
        intro o o'
        have hb2 := below_alloc (below_alloc (Below.refl w6.heap.size w6) o) o'
        refine ⟨⟨HH6.out.below hb2, blk_below HX6.out hb2, below_step HB6.out hb2⟩, hb2.size, blk_below H46.out hb2, blk_below H56.out hb2, H86.out.below hb2, blk_below H116.out hb2, H126.out.below hb2, ⟨.slice none 0 0, blk_below H136.out hb2, World.ownsRow_nil _ _ _ _⟩, ?_⟩
        rw [outK_zero]
        exact own_below HV6.out hb2
      case hB =>
        rintro k a1 X lp o o' ⟨g15, rfl, hg, h15, hd, ht, hfr⟩ hlp hlo hoc
        have hne : g15 ≠ lp := by
          rintro rfl
          rw [Holds] at h15
          rw [h15] at hlo
          cases hlo
          cases hoc
        refine ⟨g15, rfl, hg, (World.putObj_heap_other hne).trans h15, ⟨(World.putObj_heap_other (by omega)).trans hd.held, (World.putObj_heap_other (by omega)).trans hd.box, ?_⟩, ht.put o hlp hlo hoc (by omega) (by omega) (by omega) (by omega), fun v13 hv => hfr v13 ((World.putObj_heap_other (by omega)).symm.trans hv)⟩
        exact hd.below.grown (grownBy_putObj' X lp o) (by have := hd.below.size; omega) (fun j e => by have := Option.some.inj e; omega)
      case hassign =>
        rintro lp k X K hk ⟨hd, ht⟩ hK
        rw [show encs H l k = #[.int .i64 (k : Int), .agg (ws (cAt H l k))] from rfl]
        have hcl := cAt_len H l HL.out k
        have hz : Holds (X.alloc (.cells (ws (List.replicate 4 0)) 24)) X.heap.size 24 (List.replicate 4 0) := blk_new X _
        have hzb : Below X.heap.size X (X.alloc (.cells (ws (List.replicate 4 0)) 24)) := below_alloc (Below.refl _ _) _
        rw [← zeros4] at hz hzb
        have HZ := Aside0.mk (And.intro hz hzb)
        have HCL := Aside0.mk hcl
        have HD := Aside0.mk hd
        have HTM := Aside0.mk ht
        obtain ⟨D, hD⟩ : ∃ D, cAt H l k = D := ⟨_, rfl⟩
        rw [hD] at HCL
        have HDD := Aside0.mk hD
        clear hz hzb hcl hd ht
        rw [hD]
        clear hD
        gi_wp2_with (refine store_wsIn rfl 24 _ _ rfl X.heap.size rfl 24 (List.replicate 4 0) D 4 rfl HZ.out.1 (by simp) HCL.out Hi24.out ?_; intro w7 hR hB hF hS; have HR3 := Aside0.mk hR; have HB3 := Aside0.mk (HZ.out.2.trans (hB X.heap.size (Nat.le_refl _))); clear hR hB hF hS)
        refine hK _ w7 ⟨HB3.out.size, fun k o hk ho => (HB3.out.block k (Array.getElem?_eq_some_iff.1 hk).1).trans hk⟩ ⟨X.heap.size, by rw [HDD.out] <;> rfl, HTM.out.sz, by rw [HDD.out]; exact HR3.out, ⟨HD.out.held.below HB3.out, blk_below HD.out.box HB3.out, below_step HD.out.below HB3.out⟩, HTM.out.below HB3.out, ?_⟩
        intro v13 hv j hj e
        obtain ⟨u13, k1, k2⟩ := HTM.out.b13
        have he := (show w7.heap[g13]? = _ from blk_below k1 HB3.out).symm.trans hv
        injection he with he
        injection he with he _ _
        have he2 : u13 = v13 := by simpa using he
        subst he2
        have := own_lt k2 j hj
        omega
      case hbody =>
        rintro lp k a1 X hk ⟨g15, rfl, hg15, h15, hd, ht, hfr⟩
        have hrd := hrow X (fun i hi => hd.below.block i hi)
        have hwC := HWR.out X (fun i hi => hd.below.block i hi)
        have hx : rd_T40 l (k : Int) = at40 l k := by simp [rd_T40, at40]
        have hsA : okA (at40 l k) := hl _ (by simp only [at40, List.getD_eq_getElem?_getD, List.getElem?_eq_getElem hk, Option.getD_some]; exact List.getElem_mem hk)
        obtain ⟨ad, hAd, hx0, hx1, hx2, hx3, hx4, hx5, hx6, hx7⟩ := at_T40 hrd (k : Int) (by omega) (by omega)
        rw [hx, Int.toNat_natCast] at hx5
        clear hx0 hx1 hx2 hx3 hx4 hx6 hx7 hrd hx
        have b4c := ht.b4.cell 0 _ rfl
        have b5c := ht.b5.cell 0 _ rfl
        obtain ⟨go, cap, hv⟩ : ∃ go cap, v = .slice (some ⟨go, 0, none⟩) l.length cap := by
          rcases ht.out.2 with ⟨_, h0⟩ | ⟨go, cap, _, h, _⟩
          · omega
          · exact ⟨go, cap, h⟩
        have hgo : go < g13 := hvlt go (by rw [hv]; rfl)
        have hgN : w.heap.size ≤ go := own_base ht.out go (by rw [hv]; rfl)
        have hcl := cAt_len H l HL.out k
        have hki : (k : Int) < (l.length : Int) := by omega
        subst hAd hv
        have HT := Aside0.mk ht
        have HD := Aside0.mk hd
        have HFR := Aside0.mk hfr
        have H15c := Aside0.mk h15
        have HCL := Aside0.mk hcl
        have HSA := Aside0.mk hsA
        have HWC := Aside0.mk hwC
        clear ht hd hfr h15 hcl hsA hwC
        have hkn : nAt H l W k = if skip l W k then zero4 else cAt H l k := rfl
        have HKN := Aside0.mk hkn
        clear hkn
        generalize hcd : cAt H l k = CD at *
        clear hcd
        by_cases hk0 : (at40 l k).f2 = 0
        · have hb : ((at40 l k).f2 != 0) = false := by simp [hk0]
          by_cases hW0 : W.length = 0
          · have hsk := skip_no1 hk0 hW0
            have hl0 : (W.length : Int) ≤ 0 := by omega
            have HSK := Aside0.mk hsk
            clear hsk hk0 hW0
            gi_wp2_with fail
            refine ⟨trivial, ?_⟩
            gi_wp2_with fail
            have HB1 : Aside0 (But g15 X X) := Aside0.mk (But.refl g15 X)
            have H15 := H15c
            have hDn : nAt H l W k = CD := by rw [HKN.out, if_neg HSK.out]
            have HDN := Aside0.mk hDn
            have HDL : Aside0 (List.length CD = 4) := HCL
            clear hDn b4c b5c hx5
            have HT1 : Aside0 (TM H l W (some ad) A2 c c2 w w6 g11 g12 g13 (.slice (some ⟨go, 0, none⟩) l.length cap) k X) := Aside0.mk (HT.out.but15 HB1.out (by omega) (by omega) (by omega) (by omega) hg15 (fun j hj => by have := hvlt j hj; omega) HFR.out)
            have HD1 : Aside0 (Hd H l (some ad) c w.heap.size (g13 + 1) (g13 + 1 + 1) w (k + 1) X) := Aside0.mk ⟨(HB1.out.block _ HD.out.held.lt (by omega)).trans HD.out.held, HB1.out.box HD.out.box (by omega), HB1.out.below HD.out.below (by omega) (Nat.le_refl _)⟩
            have n11g := ne_types' HT1.out.b11 (own_box HT1.out.out) (by decide)
            have n12g := ne_types' (show Box X g12 24 _ from HT1.out.left) (own_box HT1.out.out) (by decide)
            have n15g := ne_types' (show Box X g15 24 _ from H15.out) (own_box HT1.out.out) (by decide)
            refine wpIn_region_heldW (S := fun X' => But go X X') ?_ (by kernel_rfl) ?_ (But.refl go X).drew (fun hHeld => ?_)
            · omega
            · kernel_rfl
            generalize hXd : X.drew = Xd at *
            refine wpAnyH_take (i := 0) (v := .slice (some ⟨go, 0, none⟩) l.length cap) rfl (by kernel_rfl) (by kernel_rfl) (by kernel_rfl) (fun _ _ _ h => absurd h.1 (by simp)) (.inl ⟨by rfl, fun X' hS => by have b := (hS.box HT1.out.b11 n11g).cell 0 _ rfl; go_simp⟩) hHeld ?_
            try simp only [Act.put, List.getElem_toArray, List.getElem_cons_zero, List.getElem_cons_succ, List.setIfInBounds_toArray, List.set_cons_zero, List.set_cons_succ]
            refine wpAnyH_take (i := 1) (v := .int .i64 (k : Nat)) rfl (by kernel_rfl) (by kernel_rfl) (by kernel_rfl) (fun _ _ _ h => absurd h.1 (by simp)) (.inl ⟨by rfl, fun _ _ => by go_simp⟩) hHeld ?_
            try simp only [Act.put, List.getElem_toArray, List.getElem_cons_zero, List.getElem_cons_succ, List.setIfInBounds_toArray, List.set_cons_zero, List.set_cons_succ]
            refine wpAnyH_take (i := 2) (v := .slice (some ⟨go, 0, none⟩) l.length cap) rfl (by kernel_rfl) (by kernel_rfl) (by kernel_rfl) (fun _ _ _ h => absurd h.1 (by simp)) (.inl ⟨by rfl, fun X' hS => by have b := (hS.box HT1.out.b11 n11g).cell 0 _ rfl; go_simp⟩) hHeld ?_
            try simp only [Act.put, List.getElem_toArray, List.getElem_cons_zero, List.getElem_cons_succ, List.setIfInBounds_toArray, List.set_cons_zero, List.set_cons_succ]
            refine wpAnyH_take (i := 3) (v := .int .i64 (k : Nat)) rfl (by kernel_rfl) (by kernel_rfl) (by kernel_rfl) (fun _ _ _ h => absurd h.1 (by simp)) (.inl ⟨by rfl, fun _ _ => by go_simp⟩) hHeld ?_
            try simp only [Act.put, List.getElem_toArray, List.getElem_cons_zero, List.getElem_cons_succ, List.setIfInBounds_toArray, List.set_cons_zero, List.set_cons_succ]
            refine wpAnyH_take (i := 4) (v := .pointer (some ⟨go, k * 8, none⟩)) rfl (by kernel_rfl) (by kernel_rfl) (by kernel_rfl) (fun _ _ _ h => absurd h.1 (by simp)) (.inl ⟨by rfl, fun _ _ => by go_simp⟩) hHeld ?_
            try simp only [Act.put, List.getElem_toArray, List.getElem_cons_zero, List.getElem_cons_succ, List.setIfInBounds_toArray, List.set_cons_zero, List.set_cons_succ]
            refine wpAnyH_take (i := 5) (v := .pointer (some ⟨go, k * 8 + 1, none⟩)) rfl (by kernel_rfl) (by kernel_rfl) (by kernel_rfl) (fun _ _ _ h => absurd h.1 (by simp)) (.inl ⟨by rfl, fun _ _ => by go_simp⟩) hHeld ?_
            try simp only [Act.put, List.getElem_toArray, List.getElem_cons_zero, List.getElem_cons_succ, List.setIfInBounds_toArray, List.set_cons_zero, List.set_cons_succ]
            refine wpAnyH_take (i := 7) (v := .agg (wl CD).toArray) rfl (by kernel_rfl) (by kernel_rfl) (by kernel_rfl) (fun _ _ _ h => absurd h.1 (by simp)) (yieldsIf_load_mid rfl 24 _ rfl g15 0 rfl (wl CD) _ (fun X' hS => range_of (show Holds X' g15 24 CD from (hS.block g15 H15.out.lt n15g).trans H15.out)) Try.underlying24 rfl (by rw [Hi24.out, wl, List.length_map, HDL.out])) hHeld ?_
            try simp only [Act.put, List.getElem_toArray, List.getElem_cons_zero, List.getElem_cons_succ, List.setIfInBounds_toArray, List.set_cons_zero, List.set_cons_succ]
            rw [wl_eq]
            have hod := own_below HT1.out.out (show Below X.heap.size X Xd by rw [← hXd]; exact below_drew1 (Below.refl _ _))
            have hHeld1 := hHeld
            obtain ⟨hsp, hsu⟩ := And.intro (outK_split H l W k hk) (outK_succ H l W k hk)
            have hL1 : ((List.range k).map (oAt H l W)).length = k := by simp
            rw [hsp] at hod
            have e1 := own_cell hod (k * 8 + 1) _ (by have := cells40_at ((List.range k).map (oAt H l W)) (l.drop (k + 1)) (at40 l k) 1 _ rfl; rwa [hL1] at this)
            have e2 := own_cell hod (k * 8 + 1 + 1) _ (by have := cells40_at ((List.range k).map (oAt H l W)) (l.drop (k + 1)) (at40 l k) 2 _ rfl; rwa [hL1] at this)
            have e3 := own_cell hod (k * 8 + 1 + 2) _ (by have := cells40_at ((List.range k).map (oAt H l W)) (l.drop (k + 1)) (at40 l k) 3 _ rfl; rwa [hL1] at this)
            have e4 := own_cell hod (k * 8 + 1 + 3) _ (by have := cells40_at ((List.range k).map (oAt H l W)) (l.drop (k + 1)) (at40 l k) 4 _ rfl; rwa [hL1] at this)
            have e1a := e1.1
            have e2a := e2.1
            have e3a := e3.1
            have e4a := e4.1
            have HS := Aside0.mk (And.intro hsp (And.intro hsu hL1))
            have hws : (#[.int .u64 (at40 l k).f1.f0, .int .u64 (at40 l k).f1.f1, .int .u64 (at40 l k).f1.f2, .int .u64 (at40 l k).f1.f3] : Array Value) = ws (am (at40 l k)) := (ws_wl4 _ _ _ _ HSA.out).symm
            have HOD := Aside0.mk hod
            clear e1 e2 e3 e4 hod hsp hsu hL1
            refine wpAnyH_ready (rs := [6]) (by kernel_rfl) (by simp) ?_
            refine AllReadyH.cons rfl (fun K hK => ?_) AllReadyH.nil
            go_simp
            refine hK.out _ _ hHeld (fun hHeld => ?_)
            clear hK K e1a e2a e3a e4a hws
            try simp only [Act.put, List.getElem_toArray, List.getElem_cons_zero, List.getElem_cons_succ, List.setIfInBounds_toArray, List.set_cons_zero, List.set_cons_succ]
            refine wpAnyH_ready (rs := [8]) (by kernel_rfl) (by simp) ?_
            refine AllReadyH.cons rfl (fun K hK => ?_) AllReadyH.nil
            go_simp
            refine (sub_any (am (at40 l k)) CD rfl HDL.out _).mono ?_
            rintro e X2 ⟨rfl, hb2⟩
            have HO2 := Aside0.mk (own_below HOD.out hb2)
            refine hK.out _ _ (hHeld.trans (But.of_below hb2)) (fun hHeld => ?_)
            have hsl := subk_len (am (at40 l k)) CD 4
            have hsl2 : (subk (am (at40 l k)) CD 4).1.length = 4 := by rw [hsl]; rfl
            have HSL := Aside0.mk hsl2
            clear hK K hb2 hHeld1 hsl hsl2
            try simp only [Act.put, List.getElem_toArray, List.getElem_cons_zero, List.getElem_cons_succ, List.setIfInBounds_toArray, List.set_cons_zero, List.set_cons_succ]
            generalize hSS : subk (am (at40 l k)) CD 4 = SS at *
            obtain ⟨SL, sc⟩ := SS
            simp only at *
            have HSS := Aside0.mk hSS
            clear hSS
            refine wpAnyH_take (i := 9) (v := .tuple #[.agg (ws SL), .bool (decide (sc = 1))]) rfl (by kernel_rfl) (by kernel_rfl) (by kernel_rfl) (fun _ _ _ h => absurd h.1 (by simp)) (.inl ⟨by rfl, fun _ _ => by go_simp⟩) hHeld ?_
            try simp only [Act.put, List.getElem_toArray, List.getElem_cons_zero, List.getElem_cons_succ, List.setIfInBounds_toArray, List.set_cons_zero, List.set_cons_succ]
            refine wpAnyH_take (i := 10) (v := .agg (ws SL)) rfl (by kernel_rfl) (by kernel_rfl) (by kernel_rfl) (fun _ _ _ h => absurd h.1 (by simp)) (.inl ⟨by rfl, fun _ _ => by go_simp⟩) hHeld ?_
            try simp only [Act.put, List.getElem_toArray, List.getElem_cons_zero, List.getElem_cons_succ, List.setIfInBounds_toArray, List.set_cons_zero, List.set_cons_succ]
            refine wpAnyH_take (i := 11) (v := .bool (decide (sc = 1))) rfl (by kernel_rfl) (by kernel_rfl) (by kernel_rfl) (fun _ _ _ h => absurd h.1 (by simp)) (.inl ⟨by rfl, fun _ _ => by go_simp⟩) hHeld ?_
            try simp only [Act.put, List.getElem_toArray, List.getElem_cons_zero, List.getElem_cons_succ, List.setIfInBounds_toArray, List.set_cons_zero, List.set_cons_succ]
            refine wpAnyH_take (i := 12) (v := .pointer (some ⟨go, k * 8, none⟩)) rfl (by kernel_rfl) (by kernel_rfl) (by kernel_rfl) (fun _ _ _ h => absurd h.1 (by simp)) (.inl ⟨by rfl, fun _ _ => by go_simp⟩) hHeld ?_
            try simp only [Act.put, List.getElem_toArray, List.getElem_cons_zero, List.getElem_cons_succ, List.setIfInBounds_toArray, List.set_cons_zero, List.set_cons_succ]
            refine wpAnyH_take (i := 13) (v := .pointer (some ⟨go, k * 8 + 1, none⟩)) rfl (by kernel_rfl) (by kernel_rfl) (by kernel_rfl) (fun _ _ _ h => absurd h.1 (by simp)) (.inl ⟨by rfl, fun _ _ => by go_simp⟩) hHeld ?_
            try simp only [Act.put, List.getElem_toArray, List.getElem_cons_zero, List.getElem_cons_succ, List.setIfInBounds_toArray, List.set_cons_zero, List.set_cons_succ]
            have hL1 := HS.out.2.2
            obtain ⟨e1a, e1b⟩ := own_cell HO2.out (k * 8 + 1) _ (by have := cells40_at ((List.range k).map (oAt H l W)) (l.drop (k + 1)) (at40 l k) 1 _ rfl; rwa [hL1] at this)
            obtain ⟨e2a, e2b⟩ := own_cell HO2.out (k * 8 + 1 + 1) _ (by have := cells40_at ((List.range k).map (oAt H l W)) (l.drop (k + 1)) (at40 l k) 2 _ rfl; rwa [hL1] at this)
            obtain ⟨e3a, e3b⟩ := own_cell HO2.out (k * 8 + 1 + 2) _ (by have := cells40_at ((List.range k).map (oAt H l W)) (l.drop (k + 1)) (at40 l k) 3 _ rfl; rwa [hL1] at this)
            obtain ⟨e4a, e4b⟩ := own_cell HO2.out (k * 8 + 1 + 3) _ (by have := cells40_at ((List.range k).map (oAt H l W)) (l.drop (k + 1)) (at40 l k) 4 _ rfl; rwa [hL1] at this)
            clear hL1
            have hwf := ws_four SL HSL.out
            refine wpAnyH_ready (rs := [14]) (by kernel_rfl) (by simp) ?_
            refine AllReadyH.cons rfl (fun K hK => ?_) AllReadyH.nil
            go_simp
            refine hK.out _ _ (hHeld.trans (but_set4 _ go (k * 8 + 1) _ _ _ _)) (fun hHeld => ?_)
            have ho3 := own_write (own_write (own_write (own_write HO2.out (k * 8 + 1) (.int .u64 (vw (gw SL 0)))) (k * 8 + 1 + 1) (.int .u64 (vw (gw SL 1)))) (k * 8 + 1 + 2) (.int .u64 (vw (gw SL 2)))) (k * 8 + 1 + 3) (.int .u64 (vw (gw SL 3)))
            have hcp := cells40_put ((List.range k).map (oAt H l W)) (l.drop (k + 1)) (at40 l k) SL
            rw [HS.out.2.2] at hcp
            have hsu := HS.out.2.1
            rw [HDN.out, HSS.out] at hsu
            have ho4 := (hcp.trans (congrArg cells40 hsu.symm)) ▸ ho3
            have HO4 := Aside0.mk ho4
            clear hK K e1a e1b e2a e2b e3a e3b e4a e4b hwf ho3 hcp hsu ho4
            try simp only [Act.put, List.getElem_toArray, List.getElem_cons_zero, List.getElem_cons_succ, List.setIfInBounds_toArray, List.set_cons_zero, List.set_cons_succ]
            generalize (((X2.setCell _ _).setCell _ _).setCell _ _).setCell _ _ = X3 at *
            refine wpAnyH_done (by kernel_rfl) ?_ _
            refine ⟨rfl, ?_⟩
            obtain ⟨tsz, t4, t5, t8, t11, tl, v13, t13, tr⟩ := HT1.out.step11 hHeld
            have hk1 : KeepsOthers X X3 := (keeps_of_but HB1.out H15c.out).trans (keeps_of_box hHeld (own_box HT1.out.out))
            have H15x := Aside0.mk (show Holds X3 g15 24 CD from (hHeld.block g15 H15.out.lt n15g).trans H15.out)
            have HDX : Aside0 (Hd H l (some ad) c w.heap.size (g13 + 1) (g13 + 1 + 1) w (k + 1) X3) := Aside0.mk ⟨(hHeld.block _ HD1.out.held.lt (by omega)).trans HD1.out.held, hHeld.box HD1.out.box (by omega), hHeld.below HD1.out.below hgN (Nat.le_refl _)⟩
            have HK1 := Aside0.mk hk1
            have HX := Aside0.mk (And.intro tsz (And.intro t4 (And.intro t5 (And.intro t8 (And.intro t11 (And.intro t13 tr))))))
            have HLf := Aside0.mk tl
            have hll := lAt_len H l W HL.out k
            have HLL := Aside0.mk hll
            have hls : lAt H l W (k + 1) = (subk (lAt H l W k) (nAt H l W k) 4).1 := rfl
            rw [HDN.out] at hls
            have HLS := Aside0.mk hls
            have hcs := cellsF_succ (nAt H l W) k
            rw [HDN.out] at hcs
            have HCS := Aside0.mk hcs
            clear tsz t4 t5 t8 t11 tl t13 tr hk1 hll hls hcs hHeld HT HT1 HB1 HD HD1 HFR H15 H15c HO2 HOD HS HSS hXd
            gi_wp2_with (first | (refine load_wsIn rfl 24 _ rfl g12 rfl 24 (lAt H l W k) 4 _ HLf.out HLL.out Try.underlying24 rfl Hi24.out ?_) | (refine load_wsIn rfl 24 _ rfl g15 rfl 24 CD 4 _ H15x.out HDL.out Try.underlying24 rfl Hi24.out ?_))
            refine ⟨trivial, ?_⟩
            refine (CallsIn.inRound lp (callsIn_wide.2 (sub_any (lAt H l W k) CD HLL.out HDL.out _))).mono ?_
            rintro e X5 ⟨rfl, hb5⟩
            have hb5c := hb5
            have H15y := Aside0.mk (H15x.out.below hb5)
            have HLy := Aside0.mk (HLf.out.below hb5)
            have H13y := Aside0.mk (show Box X5 g13 29 #[v13] from blk_below HX.out.2.2.2.2.2.1 hb5)
            have HB5 := Aside0.mk hb5
            have hsl2 := subk_len (lAt H l W k) CD 4
            rw [HLL.out] at hsl2
            have HSL2 := Aside0.mk hsl2
            clear hb5 hb5c hsl2
            generalize subk (lAt H l W k) CD 4 = S2 at *
            obtain ⟨SL2, sc2⟩ := S2
            simp only at *
            have hwf := ws_four CD HDL.out
            have hbs := own_base HX.out.2.2.2.2.2.2
            obtain ⟨i0, hi, hz0, hz1, hz2⟩ := info_parts info24_4
            have HIN := Aside0.mk (And.intro hi (And.intro hz0 (And.intro hz1 hz2)))
            have HWF := Aside0.mk hwf
            clear hi hz0 hz1 hz2
            have n1215 : g12 ≠ g15 := by omega
            have n1213 : g12 ≠ g13 := by omega
            gi_wp2_with (first | (refine load_wsIn rfl 24 _ rfl g15 rfl 24 CD 4 _ H15z.out HDL.out Try.underlying24 rfl Hi24.out ?_) | (gi_at_builtin; refine wpListIn_append_own W4 rfl _ _ 29 rfl w6.heap.size 24 i0 (.agg #[.int .u64 0, .int .u64 0, .int .u64 0, .int .u64 0]) 4 32 Try.underlying29 HIN.out.1 HIN.out.2.1 HIN.out.2.2.1 HIN.out.2.2.2 rfl (by decide) v13 k (cellsF (nAt H l W) k) rfl H4w.out.2.2.2 ⟨X6.heap.size, 0, none⟩ 1 1 [.int .u64 (vw (gw CD 0)), .int .u64 (vw (gw CD 1)), .int .u64 (vw (gw CD 2)), .int .u64 (vw (gw CD 3))] rfl rfl ?c1 ?c2 ?c3 ?c4 ?c5 ?_) | (refine store_wsIn rfl 24 _ _ rfl g12 rfl 24 (lAt H l W k) SL2 4 rfl HLy.out HLL.out HSL2.out Hi24.out ?_; intro X6 hR hB hF hS; have HR6 := Aside0.mk hR; have HB6 := Aside0.mk (but_of hB hF); clear hR hB hF hS; have b13c := (HB6.out.box H13y.out (fun e => n1213 e.symm)).cell 0 _ rfl; have b13f := (HB6.out.box H13y.out (fun e => n1213 e.symm)).free 0; have H15z : Aside0 (Holds X6 g15 24 CD) := Aside0.mk ((HB6.out.block _ H15y.out.lt (fun e => n1215 e.symm)).trans H15y.out); obtain ⟨W4, hW4⟩ : ∃ W4, X6.alloc (.cells #[.int .u64 (vw (gw CD 0)), .int .u64 (vw (gw CD 1)), .int .u64 (vw (gw CD 2)), .int .u64 (vw (gw CD 3))] 24) = W4 := ⟨_, rfl⟩; have H4w : Aside0 (Box W4 X6.heap.size 24 #[.int .u64 (vw (gw CD 0)), .int .u64 (vw (gw CD 1)), .int .u64 (vw (gw CD 2)), .int .u64 (vw (gw CD 3))] ∧ Below X6.heap.size X6 W4 ∧ W4.heap.size = X6.heap.size + 1 ∧ W4.ownsRow w6.heap.size 24 4 v13 k (cellsF (nAt H l W) k)) := Aside0.mk (by rw [← hW4]; exact ⟨blk_new X6 _, below_alloc (Below.refl _ _) _, by simp, own_below (own_but (own_below HX.out.2.2.2.2.2.2 HB5.out) HB6.out (by omega)) (below_alloc (Below.refl _ _) _)⟩)))
            case c1 =>
              intro j u hu
              have hp : (⟨X6.heap.size, 0, none⟩ : Addr).add j = ⟨X6.heap.size, j, none⟩ := by unfold Addr.add; split <;> simp_all
              rw [hp]
              exact (blk_cell H4w.out.1 j).trans (by simpa using hu)
            case c2 => simp [Value.oneCell']
            case c3 => show k + 1 ≤ 9223372036854775807; omega
            case c4 => omega
            case c5 => have := H4w.out.2.2.1; have := HX.out.1; have := HB5.out.size; have := HB6.out.size; omega
            intro v' w' hown hgr _
            obtain ⟨gr, cp, rfl⟩ := ownsRow_succ hown
            have q1 := HX.out.1
            have q2 := HB5.out.size
            have q3 := HB6.out.size
            have q4 := H4w.out.2.2.1
            have hb13 := HB6.out.box H13y.out (fun e => n1213 e.symm)
            have hne : some g13 ≠ v13.ownBlock := fun e => by have := hbs _ e.symm; omega
            have hv' : Box w' g13 29 #[v13] := (hgr.block _ (by have := hb13.lt; omega) hne).trans (blk_below hb13 H4w.out.2.1)
            have hcell : cellsF (nAt H l W) k ++ [.int .u64 (vw (gw CD 0)), .int .u64 (vw (gw CD 1)), .int .u64 (vw (gw CD 2)), .int .u64 (vw (gw CD 3))] = cellsF (nAt H l W) (k + 1) := by rw [HCS.out, HWF.out]
            rw [hcell] at hown
            have b6 := hv'.cell 0 _ rfl
            have b6f := hv'.free 0
            have hsame : ∀ i, i < w6.heap.size → i ≠ g12 → w'.heap[i]? = X3.heap[i]? := fun i hi h12 => (hgr.block i (by omega) (fun e => by have := hbs i e.symm; omega)).trans ((H4w.out.2.1.block i (by omega)).trans ((HB6.out.block i (by omega) h12).trans (HB5.out.block i (by omega))))
            have hleft : Holds w' g12 24 SL2 := (hgr.block g12 (by omega) (fun e => by have := hbs g12 e.symm; omega)).trans ((H4w.out.2.1.block g12 (by omega)).trans HR6.out)
            have hbelow : Below w.heap.size w w' := (below_step (HB6.out.below (below_step HDX.out.below HB5.out) (by omega) (Nat.le_refl _)) H4w.out.2.1).grown hgr (by omega) (fun j e => by have := hbs j e; omega)
            have hout : w'.ownsRow w.heap.size 40 8 (.slice (some ⟨go, 0, none⟩) l.length cap) l.length (cells40 (outK H l W (k + 1))) := own_move HO4.out fun j hj => by
              obtain rfl : go = j := by simpa [Value.ownBlock] using hj
              exact hsame go (by omega) (fun e => n12g e.symm)
            have hkeep : ∀ u, KeepsOthers X (w'.setCell ⟨g13, 0, none⟩ u) := fun u => (HK1.out.trans ⟨HB5.out.size, fun i o hi ho => (HB5.out.block i (Array.getElem?_eq_some_iff.1 hi).1).trans hi⟩).trans ((keeps_of_but HB6.out HLy.out).trans (app_keeps H4w.out.2.1 H4w.out.2.2.2 hgr u))
            have HF := Aside0.mk (And.intro hown (And.intro hv' (And.intro hbelow (And.intro hsame (And.intro hleft (And.intro hout (And.intro hkeep hgr.size)))))))
            clear hown hv' hgr hbelow hsame hleft hout hkeep hcell hbs hwf hW4 b13c b13f hb13
            gi_wp2
            refine ⟨HF.out.2.2.2.2.2.2.1 _, ⟨blk_far (p := ⟨g13, 0, none⟩) ((HF.out.2.2.2.1 _ (by omega) (by omega)).trans HDX.out.held) (by show g13 + 1 ≠ g13; omega) _, blk_far (p := ⟨g13, 0, none⟩) ((HF.out.2.2.2.1 _ (by omega) (by omega)).trans HDX.out.box) (by show g13 + 1 + 1 ≠ g13; omega) _, below_set HF.out.2.2.1 (by show w.heap.size ≤ g13; omega)⟩,
              by have := HF.out.2.2.2.2.2.2.2; simp; omega,
              blk_far (p := ⟨g13, 0, none⟩) ((HF.out.2.2.2.1 _ (by omega) (by omega)).trans HX.out.2.1) (by show w.heap.size + 1 ≠ g13; omega) _,
              blk_far (p := ⟨g13, 0, none⟩) ((HF.out.2.2.2.1 _ (by omega) (by omega)).trans HX.out.2.2.1) (by show w.heap.size + 1 + 1 ≠ g13; omega) _,
              blk_far (p := ⟨g13, 0, none⟩) ((HF.out.2.2.2.1 _ (by omega) (by omega)).trans HX.out.2.2.2.1) (by show w.heap.size + 1 + 1 + 1 ≠ g13; omega) _,
              blk_far (p := ⟨g13, 0, none⟩) ((HF.out.2.2.2.1 _ (by omega) (by omega)).trans HX.out.2.2.2.2.1) (by show g11 ≠ g13; omega) _,
              by rw [HLS.out]; exact blk_far (p := ⟨g13, 0, none⟩) HF.out.2.2.2.2.1 (by show g12 ≠ g13; omega) _,
              ⟨_, blk_set HF.out.2.1 0 _, HF.out.1.kept (grownBy_setCell' w' _ _) (.inr (fun e => by have := own_base HF.out.1 _ e; omega))⟩,
              own_move HF.out.2.2.2.2.2.1 fun j hj => Below.heap_setCell _ _ _ _ (by obtain rfl : go = j := (by simpa [Value.ownBlock] using hj); show go ≠ g13; omega)⟩
          · have hl0 : (0 : Int) < (W.length : Int) := by omega
            by_cases hm : (k : Int) ∈ W
            · have hsk := skip_no2 hk0 hm
              have HSK := Aside0.mk hsk
              have HM := Aside0.mk hm
              clear hsk hk0 hW0 hm
              gi_wp2_with fail
              refine ⟨trivial, ?_⟩
              refine (CallsIn.inRound lp (callsIn_wide.2 (containsI_any W (k : Int) A2 c2 _ HWC.out hW1))).mono ?_
              rintro e X9 ⟨rfl, rfl⟩
              rw [decide_eq_true HM.out]
              gi_wp2_with fail
              have HB1 : Aside0 (But g15 X X) := Aside0.mk (But.refl g15 X)
              have H15 := H15c
              have hDn : nAt H l W k = CD := by rw [HKN.out, if_neg HSK.out]
              have HDN := Aside0.mk hDn
              have HDL : Aside0 (List.length CD = 4) := HCL
              clear hDn b4c b5c hx5
              have HT1 : Aside0 (TM H l W (some ad) A2 c c2 w w6 g11 g12 g13 (.slice (some ⟨go, 0, none⟩) l.length cap) k X) := Aside0.mk (HT.out.but15 HB1.out (by omega) (by omega) (by omega) (by omega) hg15 (fun j hj => by have := hvlt j hj; omega) HFR.out)
              have HD1 : Aside0 (Hd H l (some ad) c w.heap.size (g13 + 1) (g13 + 1 + 1) w (k + 1) X) := Aside0.mk ⟨(HB1.out.block _ HD.out.held.lt (by omega)).trans HD.out.held, HB1.out.box HD.out.box (by omega), HB1.out.below HD.out.below (by omega) (Nat.le_refl _)⟩
              have n11g := ne_types' HT1.out.b11 (own_box HT1.out.out) (by decide)
              have n12g := ne_types' (show Box X g12 24 _ from HT1.out.left) (own_box HT1.out.out) (by decide)
              have n15g := ne_types' (show Box X g15 24 _ from H15.out) (own_box HT1.out.out) (by decide)
              refine wpIn_region_heldW (S := fun X' => But go X X') ?_ (by kernel_rfl) ?_ (But.refl go X).drew (fun hHeld => ?_)
              · omega
              · kernel_rfl
              generalize hXd : X.drew = Xd at *
              refine wpAnyH_take (i := 0) (v := .slice (some ⟨go, 0, none⟩) l.length cap) rfl (by kernel_rfl) (by kernel_rfl) (by kernel_rfl) (fun _ _ _ h => absurd h.1 (by simp)) (.inl ⟨by rfl, fun X' hS => by have b := (hS.box HT1.out.b11 n11g).cell 0 _ rfl; go_simp⟩) hHeld ?_
              try simp only [Act.put, List.getElem_toArray, List.getElem_cons_zero, List.getElem_cons_succ, List.setIfInBounds_toArray, List.set_cons_zero, List.set_cons_succ]
              refine wpAnyH_take (i := 1) (v := .int .i64 (k : Nat)) rfl (by kernel_rfl) (by kernel_rfl) (by kernel_rfl) (fun _ _ _ h => absurd h.1 (by simp)) (.inl ⟨by rfl, fun _ _ => by go_simp⟩) hHeld ?_
              try simp only [Act.put, List.getElem_toArray, List.getElem_cons_zero, List.getElem_cons_succ, List.setIfInBounds_toArray, List.set_cons_zero, List.set_cons_succ]
              refine wpAnyH_take (i := 2) (v := .slice (some ⟨go, 0, none⟩) l.length cap) rfl (by kernel_rfl) (by kernel_rfl) (by kernel_rfl) (fun _ _ _ h => absurd h.1 (by simp)) (.inl ⟨by rfl, fun X' hS => by have b := (hS.box HT1.out.b11 n11g).cell 0 _ rfl; go_simp⟩) hHeld ?_
              try simp only [Act.put, List.getElem_toArray, List.getElem_cons_zero, List.getElem_cons_succ, List.setIfInBounds_toArray, List.set_cons_zero, List.set_cons_succ]
              refine wpAnyH_take (i := 3) (v := .int .i64 (k : Nat)) rfl (by kernel_rfl) (by kernel_rfl) (by kernel_rfl) (fun _ _ _ h => absurd h.1 (by simp)) (.inl ⟨by rfl, fun _ _ => by go_simp⟩) hHeld ?_
              try simp only [Act.put, List.getElem_toArray, List.getElem_cons_zero, List.getElem_cons_succ, List.setIfInBounds_toArray, List.set_cons_zero, List.set_cons_succ]
              refine wpAnyH_take (i := 4) (v := .pointer (some ⟨go, k * 8, none⟩)) rfl (by kernel_rfl) (by kernel_rfl) (by kernel_rfl) (fun _ _ _ h => absurd h.1 (by simp)) (.inl ⟨by rfl, fun _ _ => by go_simp⟩) hHeld ?_
              try simp only [Act.put, List.getElem_toArray, List.getElem_cons_zero, List.getElem_cons_succ, List.setIfInBounds_toArray, List.set_cons_zero, List.set_cons_succ]
              refine wpAnyH_take (i := 5) (v := .pointer (some ⟨go, k * 8 + 1, none⟩)) rfl (by kernel_rfl) (by kernel_rfl) (by kernel_rfl) (fun _ _ _ h => absurd h.1 (by simp)) (.inl ⟨by rfl, fun _ _ => by go_simp⟩) hHeld ?_
              try simp only [Act.put, List.getElem_toArray, List.getElem_cons_zero, List.getElem_cons_succ, List.setIfInBounds_toArray, List.set_cons_zero, List.set_cons_succ]
              refine wpAnyH_take (i := 7) (v := .agg (wl CD).toArray) rfl (by kernel_rfl) (by kernel_rfl) (by kernel_rfl) (fun _ _ _ h => absurd h.1 (by simp)) (yieldsIf_load_mid rfl 24 _ rfl g15 0 rfl (wl CD) _ (fun X' hS => range_of (show Holds X' g15 24 CD from (hS.block g15 H15.out.lt n15g).trans H15.out)) Try.underlying24 rfl (by rw [Hi24.out, wl, List.length_map, HDL.out])) hHeld ?_
              try simp only [Act.put, List.getElem_toArray, List.getElem_cons_zero, List.getElem_cons_succ, List.setIfInBounds_toArray, List.set_cons_zero, List.set_cons_succ]
              rw [wl_eq]
              have hod := own_below HT1.out.out (show Below X.heap.size X Xd by rw [← hXd]; exact below_drew1 (Below.refl _ _))
              have hHeld1 := hHeld
              obtain ⟨hsp, hsu⟩ := And.intro (outK_split H l W k hk) (outK_succ H l W k hk)
              have hL1 : ((List.range k).map (oAt H l W)).length = k := by simp
              rw [hsp] at hod
              have e1 := own_cell hod (k * 8 + 1) _ (by have := cells40_at ((List.range k).map (oAt H l W)) (l.drop (k + 1)) (at40 l k) 1 _ rfl; rwa [hL1] at this)
              have e2 := own_cell hod (k * 8 + 1 + 1) _ (by have := cells40_at ((List.range k).map (oAt H l W)) (l.drop (k + 1)) (at40 l k) 2 _ rfl; rwa [hL1] at this)
              have e3 := own_cell hod (k * 8 + 1 + 2) _ (by have := cells40_at ((List.range k).map (oAt H l W)) (l.drop (k + 1)) (at40 l k) 3 _ rfl; rwa [hL1] at this)
              have e4 := own_cell hod (k * 8 + 1 + 3) _ (by have := cells40_at ((List.range k).map (oAt H l W)) (l.drop (k + 1)) (at40 l k) 4 _ rfl; rwa [hL1] at this)
              have e1a := e1.1
              have e2a := e2.1
              have e3a := e3.1
              have e4a := e4.1
              have HS := Aside0.mk (And.intro hsp (And.intro hsu hL1))
              have hws : (#[.int .u64 (at40 l k).f1.f0, .int .u64 (at40 l k).f1.f1, .int .u64 (at40 l k).f1.f2, .int .u64 (at40 l k).f1.f3] : Array Value) = ws (am (at40 l k)) := (ws_wl4 _ _ _ _ HSA.out).symm
              have HOD := Aside0.mk hod
              clear e1 e2 e3 e4 hod hsp hsu hL1
              refine wpAnyH_ready (rs := [6]) (by kernel_rfl) (by simp) ?_
              refine AllReadyH.cons rfl (fun K hK => ?_) AllReadyH.nil
              go_simp
              refine hK.out _ _ hHeld (fun hHeld => ?_)
              clear hK K e1a e2a e3a e4a hws
              try simp only [Act.put, List.getElem_toArray, List.getElem_cons_zero, List.getElem_cons_succ, List.setIfInBounds_toArray, List.set_cons_zero, List.set_cons_succ]
              refine wpAnyH_ready (rs := [8]) (by kernel_rfl) (by simp) ?_
              refine AllReadyH.cons rfl (fun K hK => ?_) AllReadyH.nil
              go_simp
              refine (sub_any (am (at40 l k)) CD rfl HDL.out _).mono ?_
              rintro e X2 ⟨rfl, hb2⟩
              have HO2 := Aside0.mk (own_below HOD.out hb2)
              refine hK.out _ _ (hHeld.trans (But.of_below hb2)) (fun hHeld => ?_)
              have hsl := subk_len (am (at40 l k)) CD 4
              have hsl2 : (subk (am (at40 l k)) CD 4).1.length = 4 := by rw [hsl]; rfl
              have HSL := Aside0.mk hsl2
              clear hK K hb2 hHeld1 hsl hsl2
              try simp only [Act.put, List.getElem_toArray, List.getElem_cons_zero, List.getElem_cons_succ, List.setIfInBounds_toArray, List.set_cons_zero, List.set_cons_succ]
              generalize hSS : subk (am (at40 l k)) CD 4 = SS at *
              obtain ⟨SL, sc⟩ := SS
              simp only at *
              have HSS := Aside0.mk hSS
              clear hSS
              refine wpAnyH_take (i := 9) (v := .tuple #[.agg (ws SL), .bool (decide (sc = 1))]) rfl (by kernel_rfl) (by kernel_rfl) (by kernel_rfl) (fun _ _ _ h => absurd h.1 (by simp)) (.inl ⟨by rfl, fun _ _ => by go_simp⟩) hHeld ?_
              try simp only [Act.put, List.getElem_toArray, List.getElem_cons_zero, List.getElem_cons_succ, List.setIfInBounds_toArray, List.set_cons_zero, List.set_cons_succ]
              refine wpAnyH_take (i := 10) (v := .agg (ws SL)) rfl (by kernel_rfl) (by kernel_rfl) (by kernel_rfl) (fun _ _ _ h => absurd h.1 (by simp)) (.inl ⟨by rfl, fun _ _ => by go_simp⟩) hHeld ?_
              try simp only [Act.put, List.getElem_toArray, List.getElem_cons_zero, List.getElem_cons_succ, List.setIfInBounds_toArray, List.set_cons_zero, List.set_cons_succ]
              refine wpAnyH_take (i := 11) (v := .bool (decide (sc = 1))) rfl (by kernel_rfl) (by kernel_rfl) (by kernel_rfl) (fun _ _ _ h => absurd h.1 (by simp)) (.inl ⟨by rfl, fun _ _ => by go_simp⟩) hHeld ?_
              try simp only [Act.put, List.getElem_toArray, List.getElem_cons_zero, List.getElem_cons_succ, List.setIfInBounds_toArray, List.set_cons_zero, List.set_cons_succ]
              refine wpAnyH_take (i := 12) (v := .pointer (some ⟨go, k * 8, none⟩)) rfl (by kernel_rfl) (by kernel_rfl) (by kernel_rfl) (fun _ _ _ h => absurd h.1 (by simp)) (.inl ⟨by rfl, fun _ _ => by go_simp⟩) hHeld ?_
              try simp only [Act.put, List.getElem_toArray, List.getElem_cons_zero, List.getElem_cons_succ, List.setIfInBounds_toArray, List.set_cons_zero, List.set_cons_succ]
              refine wpAnyH_take (i := 13) (v := .pointer (some ⟨go, k * 8 + 1, none⟩)) rfl (by kernel_rfl) (by kernel_rfl) (by kernel_rfl) (fun _ _ _ h => absurd h.1 (by simp)) (.inl ⟨by rfl, fun _ _ => by go_simp⟩) hHeld ?_
              try simp only [Act.put, List.getElem_toArray, List.getElem_cons_zero, List.getElem_cons_succ, List.setIfInBounds_toArray, List.set_cons_zero, List.set_cons_succ]
              have hL1 := HS.out.2.2
              obtain ⟨e1a, e1b⟩ := own_cell HO2.out (k * 8 + 1) _ (by have := cells40_at ((List.range k).map (oAt H l W)) (l.drop (k + 1)) (at40 l k) 1 _ rfl; rwa [hL1] at this)
              obtain ⟨e2a, e2b⟩ := own_cell HO2.out (k * 8 + 1 + 1) _ (by have := cells40_at ((List.range k).map (oAt H l W)) (l.drop (k + 1)) (at40 l k) 2 _ rfl; rwa [hL1] at this)
              obtain ⟨e3a, e3b⟩ := own_cell HO2.out (k * 8 + 1 + 2) _ (by have := cells40_at ((List.range k).map (oAt H l W)) (l.drop (k + 1)) (at40 l k) 3 _ rfl; rwa [hL1] at this)
              obtain ⟨e4a, e4b⟩ := own_cell HO2.out (k * 8 + 1 + 3) _ (by have := cells40_at ((List.range k).map (oAt H l W)) (l.drop (k + 1)) (at40 l k) 4 _ rfl; rwa [hL1] at this)
              clear hL1
              have hwf := ws_four SL HSL.out
              refine wpAnyH_ready (rs := [14]) (by kernel_rfl) (by simp) ?_
              refine AllReadyH.cons rfl (fun K hK => ?_) AllReadyH.nil
              go_simp
              refine hK.out _ _ (hHeld.trans (but_set4 _ go (k * 8 + 1) _ _ _ _)) (fun hHeld => ?_)
              have ho3 := own_write (own_write (own_write (own_write HO2.out (k * 8 + 1) (.int .u64 (vw (gw SL 0)))) (k * 8 + 1 + 1) (.int .u64 (vw (gw SL 1)))) (k * 8 + 1 + 2) (.int .u64 (vw (gw SL 2)))) (k * 8 + 1 + 3) (.int .u64 (vw (gw SL 3)))
              have hcp := cells40_put ((List.range k).map (oAt H l W)) (l.drop (k + 1)) (at40 l k) SL
              rw [HS.out.2.2] at hcp
              have hsu := HS.out.2.1
              rw [HDN.out, HSS.out] at hsu
              have ho4 := (hcp.trans (congrArg cells40 hsu.symm)) ▸ ho3
              have HO4 := Aside0.mk ho4
              clear hK K e1a e1b e2a e2b e3a e3b e4a e4b hwf ho3 hcp hsu ho4
              try simp only [Act.put, List.getElem_toArray, List.getElem_cons_zero, List.getElem_cons_succ, List.setIfInBounds_toArray, List.set_cons_zero, List.set_cons_succ]
              generalize (((X2.setCell _ _).setCell _ _).setCell _ _).setCell _ _ = X3 at *
              refine wpAnyH_done (by kernel_rfl) ?_ _
              refine ⟨rfl, ?_⟩
              obtain ⟨tsz, t4, t5, t8, t11, tl, v13, t13, tr⟩ := HT1.out.step11 hHeld
              have hk1 : KeepsOthers X X3 := (keeps_of_but HB1.out H15c.out).trans (keeps_of_box hHeld (own_box HT1.out.out))
              have H15x := Aside0.mk (show Holds X3 g15 24 CD from (hHeld.block g15 H15.out.lt n15g).trans H15.out)
              have HDX : Aside0 (Hd H l (some ad) c w.heap.size (g13 + 1) (g13 + 1 + 1) w (k + 1) X3) := Aside0.mk ⟨(hHeld.block _ HD1.out.held.lt (by omega)).trans HD1.out.held, hHeld.box HD1.out.box (by omega), hHeld.below HD1.out.below hgN (Nat.le_refl _)⟩
              have HK1 := Aside0.mk hk1
              have HX := Aside0.mk (And.intro tsz (And.intro t4 (And.intro t5 (And.intro t8 (And.intro t11 (And.intro t13 tr))))))
              have HLf := Aside0.mk tl
              have hll := lAt_len H l W HL.out k
              have HLL := Aside0.mk hll
              have hls : lAt H l W (k + 1) = (subk (lAt H l W k) (nAt H l W k) 4).1 := rfl
              rw [HDN.out] at hls
              have HLS := Aside0.mk hls
              have hcs := cellsF_succ (nAt H l W) k
              rw [HDN.out] at hcs
              have HCS := Aside0.mk hcs
              clear tsz t4 t5 t8 t11 tl t13 tr hk1 hll hls hcs hHeld HT HT1 HB1 HD HD1 HFR H15 H15c HO2 HOD HS HSS hXd
              gi_wp2_with (first | (refine load_wsIn rfl 24 _ rfl g12 rfl 24 (lAt H l W k) 4 _ HLf.out HLL.out Try.underlying24 rfl Hi24.out ?_) | (refine load_wsIn rfl 24 _ rfl g15 rfl 24 CD 4 _ H15x.out HDL.out Try.underlying24 rfl Hi24.out ?_))
              refine ⟨trivial, ?_⟩
              refine (CallsIn.inRound lp (callsIn_wide.2 (sub_any (lAt H l W k) CD HLL.out HDL.out _))).mono ?_
              rintro e X5 ⟨rfl, hb5⟩
              have hb5c := hb5
              have H15y := Aside0.mk (H15x.out.below hb5)
              have HLy := Aside0.mk (HLf.out.below hb5)
              have H13y := Aside0.mk (show Box X5 g13 29 #[v13] from blk_below HX.out.2.2.2.2.2.1 hb5)
              have HB5 := Aside0.mk hb5
              have hsl2 := subk_len (lAt H l W k) CD 4
              rw [HLL.out] at hsl2
              have HSL2 := Aside0.mk hsl2
              clear hb5 hb5c hsl2
              generalize subk (lAt H l W k) CD 4 = S2 at *
              obtain ⟨SL2, sc2⟩ := S2
              simp only at *
              have hwf := ws_four CD HDL.out
              have hbs := own_base HX.out.2.2.2.2.2.2
              obtain ⟨i0, hi, hz0, hz1, hz2⟩ := info_parts info24_4
              have HIN := Aside0.mk (And.intro hi (And.intro hz0 (And.intro hz1 hz2)))
              have HWF := Aside0.mk hwf
              clear hi hz0 hz1 hz2
              have n1215 : g12 ≠ g15 := by omega
              have n1213 : g12 ≠ g13 := by omega
              gi_wp2_with (first | (refine load_wsIn rfl 24 _ rfl g15 rfl 24 CD 4 _ H15z.out HDL.out Try.underlying24 rfl Hi24.out ?_) | (gi_at_builtin; refine wpListIn_append_own W4 rfl _ _ 29 rfl w6.heap.size 24 i0 (.agg #[.int .u64 0, .int .u64 0, .int .u64 0, .int .u64 0]) 4 32 Try.underlying29 HIN.out.1 HIN.out.2.1 HIN.out.2.2.1 HIN.out.2.2.2 rfl (by decide) v13 k (cellsF (nAt H l W) k) rfl H4w.out.2.2.2 ⟨X6.heap.size, 0, none⟩ 1 1 [.int .u64 (vw (gw CD 0)), .int .u64 (vw (gw CD 1)), .int .u64 (vw (gw CD 2)), .int .u64 (vw (gw CD 3))] rfl rfl ?c1 ?c2 ?c3 ?c4 ?c5 ?_) | (refine store_wsIn rfl 24 _ _ rfl g12 rfl 24 (lAt H l W k) SL2 4 rfl HLy.out HLL.out HSL2.out Hi24.out ?_; intro X6 hR hB hF hS; have HR6 := Aside0.mk hR; have HB6 := Aside0.mk (but_of hB hF); clear hR hB hF hS; have b13c := (HB6.out.box H13y.out (fun e => n1213 e.symm)).cell 0 _ rfl; have b13f := (HB6.out.box H13y.out (fun e => n1213 e.symm)).free 0; have H15z : Aside0 (Holds X6 g15 24 CD) := Aside0.mk ((HB6.out.block _ H15y.out.lt (fun e => n1215 e.symm)).trans H15y.out); obtain ⟨W4, hW4⟩ : ∃ W4, X6.alloc (.cells #[.int .u64 (vw (gw CD 0)), .int .u64 (vw (gw CD 1)), .int .u64 (vw (gw CD 2)), .int .u64 (vw (gw CD 3))] 24) = W4 := ⟨_, rfl⟩; have H4w : Aside0 (Box W4 X6.heap.size 24 #[.int .u64 (vw (gw CD 0)), .int .u64 (vw (gw CD 1)), .int .u64 (vw (gw CD 2)), .int .u64 (vw (gw CD 3))] ∧ Below X6.heap.size X6 W4 ∧ W4.heap.size = X6.heap.size + 1 ∧ W4.ownsRow w6.heap.size 24 4 v13 k (cellsF (nAt H l W) k)) := Aside0.mk (by rw [← hW4]; exact ⟨blk_new X6 _, below_alloc (Below.refl _ _) _, by simp, own_below (own_but (own_below HX.out.2.2.2.2.2.2 HB5.out) HB6.out (by omega)) (below_alloc (Below.refl _ _) _)⟩)))
              case c1 =>
                intro j u hu
                have hp : (⟨X6.heap.size, 0, none⟩ : Addr).add j = ⟨X6.heap.size, j, none⟩ := by unfold Addr.add; split <;> simp_all
                rw [hp]
                exact (blk_cell H4w.out.1 j).trans (by simpa using hu)
              case c2 => simp [Value.oneCell']
              case c3 => show k + 1 ≤ 9223372036854775807; omega
              case c4 => omega
              case c5 => have := H4w.out.2.2.1; have := HX.out.1; have := HB5.out.size; have := HB6.out.size; omega
              intro v' w' hown hgr _
              obtain ⟨gr, cp, rfl⟩ := ownsRow_succ hown
              have q1 := HX.out.1
              have q2 := HB5.out.size
              have q3 := HB6.out.size
              have q4 := H4w.out.2.2.1
              have hb13 := HB6.out.box H13y.out (fun e => n1213 e.symm)
              have hne : some g13 ≠ v13.ownBlock := fun e => by have := hbs _ e.symm; omega
              have hv' : Box w' g13 29 #[v13] := (hgr.block _ (by have := hb13.lt; omega) hne).trans (blk_below hb13 H4w.out.2.1)
              have hcell : cellsF (nAt H l W) k ++ [.int .u64 (vw (gw CD 0)), .int .u64 (vw (gw CD 1)), .int .u64 (vw (gw CD 2)), .int .u64 (vw (gw CD 3))] = cellsF (nAt H l W) (k + 1) := by rw [HCS.out, HWF.out]
              rw [hcell] at hown
              have b6 := hv'.cell 0 _ rfl
              have b6f := hv'.free 0
              have hsame : ∀ i, i < w6.heap.size → i ≠ g12 → w'.heap[i]? = X3.heap[i]? := fun i hi h12 => (hgr.block i (by omega) (fun e => by have := hbs i e.symm; omega)).trans ((H4w.out.2.1.block i (by omega)).trans ((HB6.out.block i (by omega) h12).trans (HB5.out.block i (by omega))))
              have hleft : Holds w' g12 24 SL2 := (hgr.block g12 (by omega) (fun e => by have := hbs g12 e.symm; omega)).trans ((H4w.out.2.1.block g12 (by omega)).trans HR6.out)
              have hbelow : Below w.heap.size w w' := (below_step (HB6.out.below (below_step HDX.out.below HB5.out) (by omega) (Nat.le_refl _)) H4w.out.2.1).grown hgr (by omega) (fun j e => by have := hbs j e; omega)
              have hout : w'.ownsRow w.heap.size 40 8 (.slice (some ⟨go, 0, none⟩) l.length cap) l.length (cells40 (outK H l W (k + 1))) := own_move HO4.out fun j hj => by
                obtain rfl : go = j := by simpa [Value.ownBlock] using hj
                exact hsame go (by omega) (fun e => n12g e.symm)
              have hkeep : ∀ u, KeepsOthers X (w'.setCell ⟨g13, 0, none⟩ u) := fun u => (HK1.out.trans ⟨HB5.out.size, fun i o hi ho => (HB5.out.block i (Array.getElem?_eq_some_iff.1 hi).1).trans hi⟩).trans ((keeps_of_but HB6.out HLy.out).trans (app_keeps H4w.out.2.1 H4w.out.2.2.2 hgr u))
              have HF := Aside0.mk (And.intro hown (And.intro hv' (And.intro hbelow (And.intro hsame (And.intro hleft (And.intro hout (And.intro hkeep hgr.size)))))))
              clear hown hv' hgr hbelow hsame hleft hout hkeep hcell hbs hwf hW4 b13c b13f hb13
              gi_wp2
              refine ⟨HF.out.2.2.2.2.2.2.1 _, ⟨blk_far (p := ⟨g13, 0, none⟩) ((HF.out.2.2.2.1 _ (by omega) (by omega)).trans HDX.out.held) (by show g13 + 1 ≠ g13; omega) _, blk_far (p := ⟨g13, 0, none⟩) ((HF.out.2.2.2.1 _ (by omega) (by omega)).trans HDX.out.box) (by show g13 + 1 + 1 ≠ g13; omega) _, below_set HF.out.2.2.1 (by show w.heap.size ≤ g13; omega)⟩,
                by have := HF.out.2.2.2.2.2.2.2; simp; omega,
                blk_far (p := ⟨g13, 0, none⟩) ((HF.out.2.2.2.1 _ (by omega) (by omega)).trans HX.out.2.1) (by show w.heap.size + 1 ≠ g13; omega) _,
                blk_far (p := ⟨g13, 0, none⟩) ((HF.out.2.2.2.1 _ (by omega) (by omega)).trans HX.out.2.2.1) (by show w.heap.size + 1 + 1 ≠ g13; omega) _,
                blk_far (p := ⟨g13, 0, none⟩) ((HF.out.2.2.2.1 _ (by omega) (by omega)).trans HX.out.2.2.2.1) (by show w.heap.size + 1 + 1 + 1 ≠ g13; omega) _,
                blk_far (p := ⟨g13, 0, none⟩) ((HF.out.2.2.2.1 _ (by omega) (by omega)).trans HX.out.2.2.2.2.1) (by show g11 ≠ g13; omega) _,
                by rw [HLS.out]; exact blk_far (p := ⟨g13, 0, none⟩) HF.out.2.2.2.2.1 (by show g12 ≠ g13; omega) _,
                ⟨_, blk_set HF.out.2.1 0 _, HF.out.1.kept (grownBy_setCell' w' _ _) (.inr (fun e => by have := own_base HF.out.1 _ e; omega))⟩,
                own_move HF.out.2.2.2.2.2.1 fun j hj => Below.heap_setCell _ _ _ _ (by obtain rfl : go = j := (by simpa [Value.ownBlock] using hj); show go ≠ g13; omega)⟩
            · have hsk := skip_yes2 (l := l) hW0 hm
              have HSK := Aside0.mk hsk
              have HM := Aside0.mk hm
              clear hsk hk0 hW0 hm
              gi_wp2_with fail
              refine ⟨trivial, ?_⟩
              refine (CallsIn.inRound lp (callsIn_wide.2 (containsI_any W (k : Int) A2 c2 _ HWC.out hW1))).mono ?_
              rintro e X9 ⟨rfl, rfl⟩
              rw [decide_eq_false HM.out]
              gi_wp2_with (refine store_wsIn rfl 24 _ _ rfl g15 rfl 24 CD zero4 4 rfl H15c.out HCL.out rfl Hi24.out ?_; intro X1 hR hB hF hS; have H15 := Aside0.mk hR; have HB1 := Aside0.mk (but_of hB hF); clear hR hB hF hS)
              have hDn : nAt H l W k = zero4 := by rw [HKN.out, if_pos HSK.out]
              have HDN := Aside0.mk hDn
              have HDL : Aside0 (List.length zero4 = 4) := Aside0.mk rfl
              clear hDn b4c b5c hx5
              have HT1 : Aside0 (TM H l W (some ad) A2 c c2 w w6 g11 g12 g13 (.slice (some ⟨go, 0, none⟩) l.length cap) k X1) := Aside0.mk (HT.out.but15 HB1.out (by omega) (by omega) (by omega) (by omega) hg15 (fun j hj => by have := hvlt j hj; omega) HFR.out)
              have HD1 : Aside0 (Hd H l (some ad) c w.heap.size (g13 + 1) (g13 + 1 + 1) w (k + 1) X1) := Aside0.mk ⟨(HB1.out.block _ HD.out.held.lt (by omega)).trans HD.out.held, HB1.out.box HD.out.box (by omega), HB1.out.below HD.out.below (by omega) (Nat.le_refl _)⟩
              have n11g := ne_types' HT1.out.b11 (own_box HT1.out.out) (by decide)
              have n12g := ne_types' (show Box X1 g12 24 _ from HT1.out.left) (own_box HT1.out.out) (by decide)
              have n15g := ne_types' (show Box X1 g15 24 _ from H15.out) (own_box HT1.out.out) (by decide)
              refine wpIn_region_heldW (S := fun X' => But go X1 X') ?_ (by kernel_rfl) ?_ (But.refl go X1).drew (fun hHeld => ?_)
              · omega
              · kernel_rfl
              generalize hX1d : X1.drew = Xd at *
              refine wpAnyH_take (i := 0) (v := .slice (some ⟨go, 0, none⟩) l.length cap) rfl (by kernel_rfl) (by kernel_rfl) (by kernel_rfl) (fun _ _ _ h => absurd h.1 (by simp)) (.inl ⟨by rfl, fun X' hS => by have b := (hS.box HT1.out.b11 n11g).cell 0 _ rfl; go_simp⟩) hHeld ?_
              try simp only [Act.put, List.getElem_toArray, List.getElem_cons_zero, List.getElem_cons_succ, List.setIfInBounds_toArray, List.set_cons_zero, List.set_cons_succ]
              refine wpAnyH_take (i := 1) (v := .int .i64 (k : Nat)) rfl (by kernel_rfl) (by kernel_rfl) (by kernel_rfl) (fun _ _ _ h => absurd h.1 (by simp)) (.inl ⟨by rfl, fun _ _ => by go_simp⟩) hHeld ?_
              try simp only [Act.put, List.getElem_toArray, List.getElem_cons_zero, List.getElem_cons_succ, List.setIfInBounds_toArray, List.set_cons_zero, List.set_cons_succ]
              refine wpAnyH_take (i := 2) (v := .slice (some ⟨go, 0, none⟩) l.length cap) rfl (by kernel_rfl) (by kernel_rfl) (by kernel_rfl) (fun _ _ _ h => absurd h.1 (by simp)) (.inl ⟨by rfl, fun X' hS => by have b := (hS.box HT1.out.b11 n11g).cell 0 _ rfl; go_simp⟩) hHeld ?_
              try simp only [Act.put, List.getElem_toArray, List.getElem_cons_zero, List.getElem_cons_succ, List.setIfInBounds_toArray, List.set_cons_zero, List.set_cons_succ]
              refine wpAnyH_take (i := 3) (v := .int .i64 (k : Nat)) rfl (by kernel_rfl) (by kernel_rfl) (by kernel_rfl) (fun _ _ _ h => absurd h.1 (by simp)) (.inl ⟨by rfl, fun _ _ => by go_simp⟩) hHeld ?_
              try simp only [Act.put, List.getElem_toArray, List.getElem_cons_zero, List.getElem_cons_succ, List.setIfInBounds_toArray, List.set_cons_zero, List.set_cons_succ]
              refine wpAnyH_take (i := 4) (v := .pointer (some ⟨go, k * 8, none⟩)) rfl (by kernel_rfl) (by kernel_rfl) (by kernel_rfl) (fun _ _ _ h => absurd h.1 (by simp)) (.inl ⟨by rfl, fun _ _ => by go_simp⟩) hHeld ?_
              try simp only [Act.put, List.getElem_toArray, List.getElem_cons_zero, List.getElem_cons_succ, List.setIfInBounds_toArray, List.set_cons_zero, List.set_cons_succ]
              refine wpAnyH_take (i := 5) (v := .pointer (some ⟨go, k * 8 + 1, none⟩)) rfl (by kernel_rfl) (by kernel_rfl) (by kernel_rfl) (fun _ _ _ h => absurd h.1 (by simp)) (.inl ⟨by rfl, fun _ _ => by go_simp⟩) hHeld ?_
              try simp only [Act.put, List.getElem_toArray, List.getElem_cons_zero, List.getElem_cons_succ, List.setIfInBounds_toArray, List.set_cons_zero, List.set_cons_succ]
              refine wpAnyH_take (i := 7) (v := .agg (wl zero4).toArray) rfl (by kernel_rfl) (by kernel_rfl) (by kernel_rfl) (fun _ _ _ h => absurd h.1 (by simp)) (yieldsIf_load_mid rfl 24 _ rfl g15 0 rfl (wl zero4) _ (fun X' hS => range_of (show Holds X' g15 24 zero4 from (hS.block g15 H15.out.lt n15g).trans H15.out)) Try.underlying24 rfl (by rw [Hi24.out, wl, List.length_map, HDL.out])) hHeld ?_
              try simp only [Act.put, List.getElem_toArray, List.getElem_cons_zero, List.getElem_cons_succ, List.setIfInBounds_toArray, List.set_cons_zero, List.set_cons_succ]
              rw [wl_eq]
              have hod := own_below HT1.out.out (show Below X1.heap.size X1 Xd by rw [← hX1d]; exact below_drew1 (Below.refl _ _))
              have hHeld1 := hHeld
              obtain ⟨hsp, hsu⟩ := And.intro (outK_split H l W k hk) (outK_succ H l W k hk)
              have hL1 : ((List.range k).map (oAt H l W)).length = k := by simp
              rw [hsp] at hod
              have e1 := own_cell hod (k * 8 + 1) _ (by have := cells40_at ((List.range k).map (oAt H l W)) (l.drop (k + 1)) (at40 l k) 1 _ rfl; rwa [hL1] at this)
              have e2 := own_cell hod (k * 8 + 1 + 1) _ (by have := cells40_at ((List.range k).map (oAt H l W)) (l.drop (k + 1)) (at40 l k) 2 _ rfl; rwa [hL1] at this)
              have e3 := own_cell hod (k * 8 + 1 + 2) _ (by have := cells40_at ((List.range k).map (oAt H l W)) (l.drop (k + 1)) (at40 l k) 3 _ rfl; rwa [hL1] at this)
              have e4 := own_cell hod (k * 8 + 1 + 3) _ (by have := cells40_at ((List.range k).map (oAt H l W)) (l.drop (k + 1)) (at40 l k) 4 _ rfl; rwa [hL1] at this)
              have e1a := e1.1
              have e2a := e2.1
              have e3a := e3.1
              have e4a := e4.1
              have HS := Aside0.mk (And.intro hsp (And.intro hsu hL1))
              have hws : (#[.int .u64 (at40 l k).f1.f0, .int .u64 (at40 l k).f1.f1, .int .u64 (at40 l k).f1.f2, .int .u64 (at40 l k).f1.f3] : Array Value) = ws (am (at40 l k)) := (ws_wl4 _ _ _ _ HSA.out).symm
              have HOD := Aside0.mk hod
              clear e1 e2 e3 e4 hod hsp hsu hL1
              refine wpAnyH_ready (rs := [6]) (by kernel_rfl) (by simp) ?_
              refine AllReadyH.cons rfl (fun K hK => ?_) AllReadyH.nil
              go_simp
              refine hK.out _ _ hHeld (fun hHeld => ?_)
              clear hK K e1a e2a e3a e4a hws
              try simp only [Act.put, List.getElem_toArray, List.getElem_cons_zero, List.getElem_cons_succ, List.setIfInBounds_toArray, List.set_cons_zero, List.set_cons_succ]
              refine wpAnyH_ready (rs := [8]) (by kernel_rfl) (by simp) ?_
              refine AllReadyH.cons rfl (fun K hK => ?_) AllReadyH.nil
              go_simp
              refine (sub_any (am (at40 l k)) zero4 rfl HDL.out _).mono ?_
              rintro e X2 ⟨rfl, hb2⟩
              have HO2 := Aside0.mk (own_below HOD.out hb2)
              refine hK.out _ _ (hHeld.trans (But.of_below hb2)) (fun hHeld => ?_)
              have hsl := subk_len (am (at40 l k)) zero4 4
              have hsl2 : (subk (am (at40 l k)) zero4 4).1.length = 4 := by rw [hsl]; rfl
              have HSL := Aside0.mk hsl2
              clear hK K hb2 hHeld1 hsl hsl2
              try simp only [Act.put, List.getElem_toArray, List.getElem_cons_zero, List.getElem_cons_succ, List.setIfInBounds_toArray, List.set_cons_zero, List.set_cons_succ]
              generalize hSS : subk (am (at40 l k)) zero4 4 = SS at *
              obtain ⟨SL, sc⟩ := SS
              simp only at *
              have HSS := Aside0.mk hSS
              clear hSS
              refine wpAnyH_take (i := 9) (v := .tuple #[.agg (ws SL), .bool (decide (sc = 1))]) rfl (by kernel_rfl) (by kernel_rfl) (by kernel_rfl) (fun _ _ _ h => absurd h.1 (by simp)) (.inl ⟨by rfl, fun _ _ => by go_simp⟩) hHeld ?_
              try simp only [Act.put, List.getElem_toArray, List.getElem_cons_zero, List.getElem_cons_succ, List.setIfInBounds_toArray, List.set_cons_zero, List.set_cons_succ]
              refine wpAnyH_take (i := 10) (v := .agg (ws SL)) rfl (by kernel_rfl) (by kernel_rfl) (by kernel_rfl) (fun _ _ _ h => absurd h.1 (by simp)) (.inl ⟨by rfl, fun _ _ => by go_simp⟩) hHeld ?_
              try simp only [Act.put, List.getElem_toArray, List.getElem_cons_zero, List.getElem_cons_succ, List.setIfInBounds_toArray, List.set_cons_zero, List.set_cons_succ]
              refine wpAnyH_take (i := 11) (v := .bool (decide (sc = 1))) rfl (by kernel_rfl) (by kernel_rfl) (by kernel_rfl) (fun _ _ _ h => absurd h.1 (by simp)) (.inl ⟨by rfl, fun _ _ => by go_simp⟩) hHeld ?_
              try simp only [Act.put, List.getElem_toArray, List.getElem_cons_zero, List.getElem_cons_succ, List.setIfInBounds_toArray, List.set_cons_zero, List.set_cons_succ]
              refine wpAnyH_take (i := 12) (v := .pointer (some ⟨go, k * 8, none⟩)) rfl (by kernel_rfl) (by kernel_rfl) (by kernel_rfl) (fun _ _ _ h => absurd h.1 (by simp)) (.inl ⟨by rfl, fun _ _ => by go_simp⟩) hHeld ?_
              try simp only [Act.put, List.getElem_toArray, List.getElem_cons_zero, List.getElem_cons_succ, List.setIfInBounds_toArray, List.set_cons_zero, List.set_cons_succ]
              refine wpAnyH_take (i := 13) (v := .pointer (some ⟨go, k * 8 + 1, none⟩)) rfl (by kernel_rfl) (by kernel_rfl) (by kernel_rfl) (fun _ _ _ h => absurd h.1 (by simp)) (.inl ⟨by rfl, fun _ _ => by go_simp⟩) hHeld ?_
              try simp only [Act.put, List.getElem_toArray, List.getElem_cons_zero, List.getElem_cons_succ, List.setIfInBounds_toArray, List.set_cons_zero, List.set_cons_succ]
              have hL1 := HS.out.2.2
              obtain ⟨e1a, e1b⟩ := own_cell HO2.out (k * 8 + 1) _ (by have := cells40_at ((List.range k).map (oAt H l W)) (l.drop (k + 1)) (at40 l k) 1 _ rfl; rwa [hL1] at this)
              obtain ⟨e2a, e2b⟩ := own_cell HO2.out (k * 8 + 1 + 1) _ (by have := cells40_at ((List.range k).map (oAt H l W)) (l.drop (k + 1)) (at40 l k) 2 _ rfl; rwa [hL1] at this)
              obtain ⟨e3a, e3b⟩ := own_cell HO2.out (k * 8 + 1 + 2) _ (by have := cells40_at ((List.range k).map (oAt H l W)) (l.drop (k + 1)) (at40 l k) 3 _ rfl; rwa [hL1] at this)
              obtain ⟨e4a, e4b⟩ := own_cell HO2.out (k * 8 + 1 + 3) _ (by have := cells40_at ((List.range k).map (oAt H l W)) (l.drop (k + 1)) (at40 l k) 4 _ rfl; rwa [hL1] at this)
              clear hL1
              have hwf := ws_four SL HSL.out
              refine wpAnyH_ready (rs := [14]) (by kernel_rfl) (by simp) ?_
              refine AllReadyH.cons rfl (fun K hK => ?_) AllReadyH.nil
              go_simp
              refine hK.out _ _ (hHeld.trans (but_set4 _ go (k * 8 + 1) _ _ _ _)) (fun hHeld => ?_)
              have ho3 := own_write (own_write (own_write (own_write HO2.out (k * 8 + 1) (.int .u64 (vw (gw SL 0)))) (k * 8 + 1 + 1) (.int .u64 (vw (gw SL 1)))) (k * 8 + 1 + 2) (.int .u64 (vw (gw SL 2)))) (k * 8 + 1 + 3) (.int .u64 (vw (gw SL 3)))
              have hcp := cells40_put ((List.range k).map (oAt H l W)) (l.drop (k + 1)) (at40 l k) SL
              rw [HS.out.2.2] at hcp
              have hsu := HS.out.2.1
              rw [HDN.out, HSS.out] at hsu
              have ho4 := (hcp.trans (congrArg cells40 hsu.symm)) ▸ ho3
              have HO4 := Aside0.mk ho4
              clear hK K e1a e1b e2a e2b e3a e3b e4a e4b hwf ho3 hcp hsu ho4
              try simp only [Act.put, List.getElem_toArray, List.getElem_cons_zero, List.getElem_cons_succ, List.setIfInBounds_toArray, List.set_cons_zero, List.set_cons_succ]
              generalize (((X2.setCell _ _).setCell _ _).setCell _ _).setCell _ _ = X3 at *
              refine wpAnyH_done (by kernel_rfl) ?_ _
              refine ⟨rfl, ?_⟩
              obtain ⟨tsz, t4, t5, t8, t11, tl, v13, t13, tr⟩ := HT1.out.step11 hHeld
              have hk1 : KeepsOthers X X3 := (keeps_of_but HB1.out H15c.out).trans (keeps_of_box hHeld (own_box HT1.out.out))
              have H15x := Aside0.mk (show Holds X3 g15 24 zero4 from (hHeld.block g15 H15.out.lt n15g).trans H15.out)
              have HDX : Aside0 (Hd H l (some ad) c w.heap.size (g13 + 1) (g13 + 1 + 1) w (k + 1) X3) := Aside0.mk ⟨(hHeld.block _ HD1.out.held.lt (by omega)).trans HD1.out.held, hHeld.box HD1.out.box (by omega), hHeld.below HD1.out.below hgN (Nat.le_refl _)⟩
              have HK1 := Aside0.mk hk1
              have HX := Aside0.mk (And.intro tsz (And.intro t4 (And.intro t5 (And.intro t8 (And.intro t11 (And.intro t13 tr))))))
              have HLf := Aside0.mk tl
              have hll := lAt_len H l W HL.out k
              have HLL := Aside0.mk hll
              have hls : lAt H l W (k + 1) = (subk (lAt H l W k) (nAt H l W k) 4).1 := rfl
              rw [HDN.out] at hls
              have HLS := Aside0.mk hls
              have hcs := cellsF_succ (nAt H l W) k
              rw [HDN.out] at hcs
              have HCS := Aside0.mk hcs
              clear tsz t4 t5 t8 t11 tl t13 tr hk1 hll hls hcs hHeld HT HT1 HB1 HD HD1 HFR H15 H15c HO2 HOD HS HSS hX1d
              gi_wp2_with (first | (refine load_wsIn rfl 24 _ rfl g12 rfl 24 (lAt H l W k) 4 _ HLf.out HLL.out Try.underlying24 rfl Hi24.out ?_) | (refine load_wsIn rfl 24 _ rfl g15 rfl 24 zero4 4 _ H15x.out HDL.out Try.underlying24 rfl Hi24.out ?_))
              refine ⟨trivial, ?_⟩
              refine (CallsIn.inRound lp (callsIn_wide.2 (sub_any (lAt H l W k) zero4 HLL.out HDL.out _))).mono ?_
              rintro e X5 ⟨rfl, hb5⟩
              have hb5c := hb5
              have H15y := Aside0.mk (H15x.out.below hb5)
              have HLy := Aside0.mk (HLf.out.below hb5)
              have H13y := Aside0.mk (show Box X5 g13 29 #[v13] from blk_below HX.out.2.2.2.2.2.1 hb5)
              have HB5 := Aside0.mk hb5
              have hsl2 := subk_len (lAt H l W k) zero4 4
              rw [HLL.out] at hsl2
              have HSL2 := Aside0.mk hsl2
              clear hb5 hb5c hsl2
              generalize subk (lAt H l W k) zero4 4 = S2 at *
              obtain ⟨SL2, sc2⟩ := S2
              simp only at *
              have hwf := ws_four zero4 HDL.out
              have hbs := own_base HX.out.2.2.2.2.2.2
              obtain ⟨i0, hi, hz0, hz1, hz2⟩ := info_parts info24_4
              have HIN := Aside0.mk (And.intro hi (And.intro hz0 (And.intro hz1 hz2)))
              have HWF := Aside0.mk hwf
              clear hi hz0 hz1 hz2
              have n1215 : g12 ≠ g15 := by omega
              have n1213 : g12 ≠ g13 := by omega
              gi_wp2_with (first | (refine load_wsIn rfl 24 _ rfl g15 rfl 24 zero4 4 _ H15z.out HDL.out Try.underlying24 rfl Hi24.out ?_) | (gi_at_builtin; refine wpListIn_append_own W4 rfl _ _ 29 rfl w6.heap.size 24 i0 (.agg #[.int .u64 0, .int .u64 0, .int .u64 0, .int .u64 0]) 4 32 Try.underlying29 HIN.out.1 HIN.out.2.1 HIN.out.2.2.1 HIN.out.2.2.2 rfl (by decide) v13 k (cellsF (nAt H l W) k) rfl H4w.out.2.2.2 ⟨X6.heap.size, 0, none⟩ 1 1 [.int .u64 (vw (gw zero4 0)), .int .u64 (vw (gw zero4 1)), .int .u64 (vw (gw zero4 2)), .int .u64 (vw (gw zero4 3))] rfl rfl ?c1 ?c2 ?c3 ?c4 ?c5 ?_) | (refine store_wsIn rfl 24 _ _ rfl g12 rfl 24 (lAt H l W k) SL2 4 rfl HLy.out HLL.out HSL2.out Hi24.out ?_; intro X6 hR hB hF hS; have HR6 := Aside0.mk hR; have HB6 := Aside0.mk (but_of hB hF); clear hR hB hF hS; have b13c := (HB6.out.box H13y.out (fun e => n1213 e.symm)).cell 0 _ rfl; have b13f := (HB6.out.box H13y.out (fun e => n1213 e.symm)).free 0; have H15z : Aside0 (Holds X6 g15 24 zero4) := Aside0.mk ((HB6.out.block _ H15y.out.lt (fun e => n1215 e.symm)).trans H15y.out); obtain ⟨W4, hW4⟩ : ∃ W4, X6.alloc (.cells #[.int .u64 (vw (gw zero4 0)), .int .u64 (vw (gw zero4 1)), .int .u64 (vw (gw zero4 2)), .int .u64 (vw (gw zero4 3))] 24) = W4 := ⟨_, rfl⟩; have H4w : Aside0 (Box W4 X6.heap.size 24 #[.int .u64 (vw (gw zero4 0)), .int .u64 (vw (gw zero4 1)), .int .u64 (vw (gw zero4 2)), .int .u64 (vw (gw zero4 3))] ∧ Below X6.heap.size X6 W4 ∧ W4.heap.size = X6.heap.size + 1 ∧ W4.ownsRow w6.heap.size 24 4 v13 k (cellsF (nAt H l W) k)) := Aside0.mk (by rw [← hW4]; exact ⟨blk_new X6 _, below_alloc (Below.refl _ _) _, by simp, own_below (own_but (own_below HX.out.2.2.2.2.2.2 HB5.out) HB6.out (by omega)) (below_alloc (Below.refl _ _) _)⟩)))
              case c1 =>
                intro j u hu
                have hp : (⟨X6.heap.size, 0, none⟩ : Addr).add j = ⟨X6.heap.size, j, none⟩ := by unfold Addr.add; split <;> simp_all
                rw [hp]
                exact (blk_cell H4w.out.1 j).trans (by simpa using hu)
              case c2 => simp [Value.oneCell']
              case c3 => show k + 1 ≤ 9223372036854775807; omega
              case c4 => omega
              case c5 => have := H4w.out.2.2.1; have := HX.out.1; have := HB5.out.size; have := HB6.out.size; omega
              intro v' w' hown hgr _
              obtain ⟨gr, cp, rfl⟩ := ownsRow_succ hown
              have q1 := HX.out.1
              have q2 := HB5.out.size
              have q3 := HB6.out.size
              have q4 := H4w.out.2.2.1
              have hb13 := HB6.out.box H13y.out (fun e => n1213 e.symm)
              have hne : some g13 ≠ v13.ownBlock := fun e => by have := hbs _ e.symm; omega
              have hv' : Box w' g13 29 #[v13] := (hgr.block _ (by have := hb13.lt; omega) hne).trans (blk_below hb13 H4w.out.2.1)
              have hcell : cellsF (nAt H l W) k ++ [.int .u64 (vw (gw zero4 0)), .int .u64 (vw (gw zero4 1)), .int .u64 (vw (gw zero4 2)), .int .u64 (vw (gw zero4 3))] = cellsF (nAt H l W) (k + 1) := by rw [HCS.out, HWF.out]
              rw [hcell] at hown
              have b6 := hv'.cell 0 _ rfl
              have b6f := hv'.free 0
              have hsame : ∀ i, i < w6.heap.size → i ≠ g12 → w'.heap[i]? = X3.heap[i]? := fun i hi h12 => (hgr.block i (by omega) (fun e => by have := hbs i e.symm; omega)).trans ((H4w.out.2.1.block i (by omega)).trans ((HB6.out.block i (by omega) h12).trans (HB5.out.block i (by omega))))
              have hleft : Holds w' g12 24 SL2 := (hgr.block g12 (by omega) (fun e => by have := hbs g12 e.symm; omega)).trans ((H4w.out.2.1.block g12 (by omega)).trans HR6.out)
              have hbelow : Below w.heap.size w w' := (below_step (HB6.out.below (below_step HDX.out.below HB5.out) (by omega) (Nat.le_refl _)) H4w.out.2.1).grown hgr (by omega) (fun j e => by have := hbs j e; omega)
              have hout : w'.ownsRow w.heap.size 40 8 (.slice (some ⟨go, 0, none⟩) l.length cap) l.length (cells40 (outK H l W (k + 1))) := own_move HO4.out fun j hj => by
                obtain rfl : go = j := by simpa [Value.ownBlock] using hj
                exact hsame go (by omega) (fun e => n12g e.symm)
              have hkeep : ∀ u, KeepsOthers X (w'.setCell ⟨g13, 0, none⟩ u) := fun u => (HK1.out.trans ⟨HB5.out.size, fun i o hi ho => (HB5.out.block i (Array.getElem?_eq_some_iff.1 hi).1).trans hi⟩).trans ((keeps_of_but HB6.out HLy.out).trans (app_keeps H4w.out.2.1 H4w.out.2.2.2 hgr u))
              have HF := Aside0.mk (And.intro hown (And.intro hv' (And.intro hbelow (And.intro hsame (And.intro hleft (And.intro hout (And.intro hkeep hgr.size)))))))
              clear hown hv' hgr hbelow hsame hleft hout hkeep hcell hbs hwf hW4 b13c b13f hb13
              gi_wp2
              refine ⟨HF.out.2.2.2.2.2.2.1 _, ⟨blk_far (p := ⟨g13, 0, none⟩) ((HF.out.2.2.2.1 _ (by omega) (by omega)).trans HDX.out.held) (by show g13 + 1 ≠ g13; omega) _, blk_far (p := ⟨g13, 0, none⟩) ((HF.out.2.2.2.1 _ (by omega) (by omega)).trans HDX.out.box) (by show g13 + 1 + 1 ≠ g13; omega) _, below_set HF.out.2.2.1 (by show w.heap.size ≤ g13; omega)⟩,
                by have := HF.out.2.2.2.2.2.2.2; simp; omega,
                blk_far (p := ⟨g13, 0, none⟩) ((HF.out.2.2.2.1 _ (by omega) (by omega)).trans HX.out.2.1) (by show w.heap.size + 1 ≠ g13; omega) _,
                blk_far (p := ⟨g13, 0, none⟩) ((HF.out.2.2.2.1 _ (by omega) (by omega)).trans HX.out.2.2.1) (by show w.heap.size + 1 + 1 ≠ g13; omega) _,
                blk_far (p := ⟨g13, 0, none⟩) ((HF.out.2.2.2.1 _ (by omega) (by omega)).trans HX.out.2.2.2.1) (by show w.heap.size + 1 + 1 + 1 ≠ g13; omega) _,
                blk_far (p := ⟨g13, 0, none⟩) ((HF.out.2.2.2.1 _ (by omega) (by omega)).trans HX.out.2.2.2.2.1) (by show g11 ≠ g13; omega) _,
                by rw [HLS.out]; exact blk_far (p := ⟨g13, 0, none⟩) HF.out.2.2.2.2.1 (by show g12 ≠ g13; omega) _,
                ⟨_, blk_set HF.out.2.1 0 _, HF.out.1.kept (grownBy_setCell' w' _ _) (.inr (fun e => by have := own_base HF.out.1 _ e; omega))⟩,
                own_move HF.out.2.2.2.2.2.1 fun j hj => Below.heap_setCell _ _ _ _ (by obtain rfl : go = j := (by simpa [Value.ownBlock] using hj); show go ≠ g13; omega)⟩
        · have hsk := skip_yes1 (W := W) hk0
          have hb : ((at40 l k).f2 != 0) = true := by simp [hk0]
          have HSK := Aside0.mk hsk
          clear hsk hk0
          gi_wp2_with fail
          any_goals (rename_i hA hB; exact absurd hA (by unfold undef; simp))
          refine ⟨trivial, ?_⟩
          gi_wp2_with (refine store_wsIn rfl 24 _ _ rfl g15 rfl 24 CD zero4 4 rfl H15c.out HCL.out rfl Hi24.out ?_; intro X1 hR hB hF hS; have H15 := Aside0.mk hR; have HB1 := Aside0.mk (but_of hB hF); clear hR hB hF hS)
          have hDn : nAt H l W k = zero4 := by rw [HKN.out, if_pos HSK.out]
          have HDN := Aside0.mk hDn
          have HDL : Aside0 (List.length zero4 = 4) := Aside0.mk rfl
          clear hDn b4c b5c hx5
          have HT1 : Aside0 (TM H l W (some ad) A2 c c2 w w6 g11 g12 g13 (.slice (some ⟨go, 0, none⟩) l.length cap) k X1) := Aside0.mk (HT.out.but15 HB1.out (by omega) (by omega) (by omega) (by omega) hg15 (fun j hj => by have := hvlt j hj; omega) HFR.out)
          have HD1 : Aside0 (Hd H l (some ad) c w.heap.size (g13 + 1) (g13 + 1 + 1) w (k + 1) X1) := Aside0.mk ⟨(HB1.out.block _ HD.out.held.lt (by omega)).trans HD.out.held, HB1.out.box HD.out.box (by omega), HB1.out.below HD.out.below (by omega) (Nat.le_refl _)⟩
          have n11g := ne_types' HT1.out.b11 (own_box HT1.out.out) (by decide)
          have n12g := ne_types' (show Box X1 g12 24 _ from HT1.out.left) (own_box HT1.out.out) (by decide)
          have n15g := ne_types' (show Box X1 g15 24 _ from H15.out) (own_box HT1.out.out) (by decide)
          refine wpIn_region_heldW (S := fun X' => But go X1 X') ?_ (by kernel_rfl) ?_ (But.refl go X1).drew (fun hHeld => ?_)
          · omega
          · kernel_rfl
          generalize hX1d : X1.drew = Xd at *
          refine wpAnyH_take (i := 0) (v := .slice (some ⟨go, 0, none⟩) l.length cap) rfl (by kernel_rfl) (by kernel_rfl) (by kernel_rfl) (fun _ _ _ h => absurd h.1 (by simp)) (.inl ⟨by rfl, fun X' hS => by have b := (hS.box HT1.out.b11 n11g).cell 0 _ rfl; go_simp⟩) hHeld ?_
          try simp only [Act.put, List.getElem_toArray, List.getElem_cons_zero, List.getElem_cons_succ, List.setIfInBounds_toArray, List.set_cons_zero, List.set_cons_succ]
          refine wpAnyH_take (i := 1) (v := .int .i64 (k : Nat)) rfl (by kernel_rfl) (by kernel_rfl) (by kernel_rfl) (fun _ _ _ h => absurd h.1 (by simp)) (.inl ⟨by rfl, fun _ _ => by go_simp⟩) hHeld ?_
          try simp only [Act.put, List.getElem_toArray, List.getElem_cons_zero, List.getElem_cons_succ, List.setIfInBounds_toArray, List.set_cons_zero, List.set_cons_succ]
          refine wpAnyH_take (i := 2) (v := .slice (some ⟨go, 0, none⟩) l.length cap) rfl (by kernel_rfl) (by kernel_rfl) (by kernel_rfl) (fun _ _ _ h => absurd h.1 (by simp)) (.inl ⟨by rfl, fun X' hS => by have b := (hS.box HT1.out.b11 n11g).cell 0 _ rfl; go_simp⟩) hHeld ?_
          try simp only [Act.put, List.getElem_toArray, List.getElem_cons_zero, List.getElem_cons_succ, List.setIfInBounds_toArray, List.set_cons_zero, List.set_cons_succ]
          refine wpAnyH_take (i := 3) (v := .int .i64 (k : Nat)) rfl (by kernel_rfl) (by kernel_rfl) (by kernel_rfl) (fun _ _ _ h => absurd h.1 (by simp)) (.inl ⟨by rfl, fun _ _ => by go_simp⟩) hHeld ?_
          try simp only [Act.put, List.getElem_toArray, List.getElem_cons_zero, List.getElem_cons_succ, List.setIfInBounds_toArray, List.set_cons_zero, List.set_cons_succ]
          refine wpAnyH_take (i := 4) (v := .pointer (some ⟨go, k * 8, none⟩)) rfl (by kernel_rfl) (by kernel_rfl) (by kernel_rfl) (fun _ _ _ h => absurd h.1 (by simp)) (.inl ⟨by rfl, fun _ _ => by go_simp⟩) hHeld ?_
          try simp only [Act.put, List.getElem_toArray, List.getElem_cons_zero, List.getElem_cons_succ, List.setIfInBounds_toArray, List.set_cons_zero, List.set_cons_succ]
          refine wpAnyH_take (i := 5) (v := .pointer (some ⟨go, k * 8 + 1, none⟩)) rfl (by kernel_rfl) (by kernel_rfl) (by kernel_rfl) (fun _ _ _ h => absurd h.1 (by simp)) (.inl ⟨by rfl, fun _ _ => by go_simp⟩) hHeld ?_
          try simp only [Act.put, List.getElem_toArray, List.getElem_cons_zero, List.getElem_cons_succ, List.setIfInBounds_toArray, List.set_cons_zero, List.set_cons_succ]
          refine wpAnyH_take (i := 7) (v := .agg (wl zero4).toArray) rfl (by kernel_rfl) (by kernel_rfl) (by kernel_rfl) (fun _ _ _ h => absurd h.1 (by simp)) (yieldsIf_load_mid rfl 24 _ rfl g15 0 rfl (wl zero4) _ (fun X' hS => range_of (show Holds X' g15 24 zero4 from (hS.block g15 H15.out.lt n15g).trans H15.out)) Try.underlying24 rfl (by rw [Hi24.out, wl, List.length_map, HDL.out])) hHeld ?_
          try simp only [Act.put, List.getElem_toArray, List.getElem_cons_zero, List.getElem_cons_succ, List.setIfInBounds_toArray, List.set_cons_zero, List.set_cons_succ]
          rw [wl_eq]
          have hod := own_below HT1.out.out (show Below X1.heap.size X1 Xd by rw [← hX1d]; exact below_drew1 (Below.refl _ _))
          have hHeld1 := hHeld
          obtain ⟨hsp, hsu⟩ := And.intro (outK_split H l W k hk) (outK_succ H l W k hk)
          have hL1 : ((List.range k).map (oAt H l W)).length = k := by simp
          rw [hsp] at hod
          have e1 := own_cell hod (k * 8 + 1) _ (by have := cells40_at ((List.range k).map (oAt H l W)) (l.drop (k + 1)) (at40 l k) 1 _ rfl; rwa [hL1] at this)
          have e2 := own_cell hod (k * 8 + 1 + 1) _ (by have := cells40_at ((List.range k).map (oAt H l W)) (l.drop (k + 1)) (at40 l k) 2 _ rfl; rwa [hL1] at this)
          have e3 := own_cell hod (k * 8 + 1 + 2) _ (by have := cells40_at ((List.range k).map (oAt H l W)) (l.drop (k + 1)) (at40 l k) 3 _ rfl; rwa [hL1] at this)
          have e4 := own_cell hod (k * 8 + 1 + 3) _ (by have := cells40_at ((List.range k).map (oAt H l W)) (l.drop (k + 1)) (at40 l k) 4 _ rfl; rwa [hL1] at this)
          have e1a := e1.1
          have e2a := e2.1
          have e3a := e3.1
          have e4a := e4.1
          have HS := Aside0.mk (And.intro hsp (And.intro hsu hL1))
          have hws : (#[.int .u64 (at40 l k).f1.f0, .int .u64 (at40 l k).f1.f1, .int .u64 (at40 l k).f1.f2, .int .u64 (at40 l k).f1.f3] : Array Value) = ws (am (at40 l k)) := (ws_wl4 _ _ _ _ HSA.out).symm
          have HOD := Aside0.mk hod
          clear e1 e2 e3 e4 hod hsp hsu hL1
          refine wpAnyH_ready (rs := [6]) (by kernel_rfl) (by simp) ?_
          refine AllReadyH.cons rfl (fun K hK => ?_) AllReadyH.nil
          go_simp
          refine hK.out _ _ hHeld (fun hHeld => ?_)
          clear hK K e1a e2a e3a e4a hws
          try simp only [Act.put, List.getElem_toArray, List.getElem_cons_zero, List.getElem_cons_succ, List.setIfInBounds_toArray, List.set_cons_zero, List.set_cons_succ]
          refine wpAnyH_ready (rs := [8]) (by kernel_rfl) (by simp) ?_
          refine AllReadyH.cons rfl (fun K hK => ?_) AllReadyH.nil
          go_simp
          refine (sub_any (am (at40 l k)) zero4 rfl HDL.out _).mono ?_
          rintro e X2 ⟨rfl, hb2⟩
          have HO2 := Aside0.mk (own_below HOD.out hb2)
          refine hK.out _ _ (hHeld.trans (But.of_below hb2)) (fun hHeld => ?_)
          have hsl := subk_len (am (at40 l k)) zero4 4
          have hsl2 : (subk (am (at40 l k)) zero4 4).1.length = 4 := by rw [hsl]; rfl
          have HSL := Aside0.mk hsl2
          clear hK K hb2 hHeld1 hsl hsl2
          try simp only [Act.put, List.getElem_toArray, List.getElem_cons_zero, List.getElem_cons_succ, List.setIfInBounds_toArray, List.set_cons_zero, List.set_cons_succ]
          generalize hSS : subk (am (at40 l k)) zero4 4 = SS at *
          obtain ⟨SL, sc⟩ := SS
          simp only at *
          have HSS := Aside0.mk hSS
          clear hSS
          refine wpAnyH_take (i := 9) (v := .tuple #[.agg (ws SL), .bool (decide (sc = 1))]) rfl (by kernel_rfl) (by kernel_rfl) (by kernel_rfl) (fun _ _ _ h => absurd h.1 (by simp)) (.inl ⟨by rfl, fun _ _ => by go_simp⟩) hHeld ?_
          try simp only [Act.put, List.getElem_toArray, List.getElem_cons_zero, List.getElem_cons_succ, List.setIfInBounds_toArray, List.set_cons_zero, List.set_cons_succ]
          refine wpAnyH_take (i := 10) (v := .agg (ws SL)) rfl (by kernel_rfl) (by kernel_rfl) (by kernel_rfl) (fun _ _ _ h => absurd h.1 (by simp)) (.inl ⟨by rfl, fun _ _ => by go_simp⟩) hHeld ?_
          try simp only [Act.put, List.getElem_toArray, List.getElem_cons_zero, List.getElem_cons_succ, List.setIfInBounds_toArray, List.set_cons_zero, List.set_cons_succ]
          refine wpAnyH_take (i := 11) (v := .bool (decide (sc = 1))) rfl (by kernel_rfl) (by kernel_rfl) (by kernel_rfl) (fun _ _ _ h => absurd h.1 (by simp)) (.inl ⟨by rfl, fun _ _ => by go_simp⟩) hHeld ?_
          try simp only [Act.put, List.getElem_toArray, List.getElem_cons_zero, List.getElem_cons_succ, List.setIfInBounds_toArray, List.set_cons_zero, List.set_cons_succ]
          refine wpAnyH_take (i := 12) (v := .pointer (some ⟨go, k * 8, none⟩)) rfl (by kernel_rfl) (by kernel_rfl) (by kernel_rfl) (fun _ _ _ h => absurd h.1 (by simp)) (.inl ⟨by rfl, fun _ _ => by go_simp⟩) hHeld ?_
          try simp only [Act.put, List.getElem_toArray, List.getElem_cons_zero, List.getElem_cons_succ, List.setIfInBounds_toArray, List.set_cons_zero, List.set_cons_succ]
          refine wpAnyH_take (i := 13) (v := .pointer (some ⟨go, k * 8 + 1, none⟩)) rfl (by kernel_rfl) (by kernel_rfl) (by kernel_rfl) (fun _ _ _ h => absurd h.1 (by simp)) (.inl ⟨by rfl, fun _ _ => by go_simp⟩) hHeld ?_
          try simp only [Act.put, List.getElem_toArray, List.getElem_cons_zero, List.getElem_cons_succ, List.setIfInBounds_toArray, List.set_cons_zero, List.set_cons_succ]
          have hL1 := HS.out.2.2
          obtain ⟨e1a, e1b⟩ := own_cell HO2.out (k * 8 + 1) _ (by have := cells40_at ((List.range k).map (oAt H l W)) (l.drop (k + 1)) (at40 l k) 1 _ rfl; rwa [hL1] at this)
          obtain ⟨e2a, e2b⟩ := own_cell HO2.out (k * 8 + 1 + 1) _ (by have := cells40_at ((List.range k).map (oAt H l W)) (l.drop (k + 1)) (at40 l k) 2 _ rfl; rwa [hL1] at this)
          obtain ⟨e3a, e3b⟩ := own_cell HO2.out (k * 8 + 1 + 2) _ (by have := cells40_at ((List.range k).map (oAt H l W)) (l.drop (k + 1)) (at40 l k) 3 _ rfl; rwa [hL1] at this)
          obtain ⟨e4a, e4b⟩ := own_cell HO2.out (k * 8 + 1 + 3) _ (by have := cells40_at ((List.range k).map (oAt H l W)) (l.drop (k + 1)) (at40 l k) 4 _ rfl; rwa [hL1] at this)
          clear hL1
          have hwf := ws_four SL HSL.out
          refine wpAnyH_ready (rs := [14]) (by kernel_rfl) (by simp) ?_
          refine AllReadyH.cons rfl (fun K hK => ?_) AllReadyH.nil
          go_simp
          refine hK.out _ _ (hHeld.trans (but_set4 _ go (k * 8 + 1) _ _ _ _)) (fun hHeld => ?_)
          have ho3 := own_write (own_write (own_write (own_write HO2.out (k * 8 + 1) (.int .u64 (vw (gw SL 0)))) (k * 8 + 1 + 1) (.int .u64 (vw (gw SL 1)))) (k * 8 + 1 + 2) (.int .u64 (vw (gw SL 2)))) (k * 8 + 1 + 3) (.int .u64 (vw (gw SL 3)))
          have hcp := cells40_put ((List.range k).map (oAt H l W)) (l.drop (k + 1)) (at40 l k) SL
          rw [HS.out.2.2] at hcp
          have hsu := HS.out.2.1
          rw [HDN.out, HSS.out] at hsu
          have ho4 := (hcp.trans (congrArg cells40 hsu.symm)) ▸ ho3
          have HO4 := Aside0.mk ho4
          clear hK K e1a e1b e2a e2b e3a e3b e4a e4b hwf ho3 hcp hsu ho4
          try simp only [Act.put, List.getElem_toArray, List.getElem_cons_zero, List.getElem_cons_succ, List.setIfInBounds_toArray, List.set_cons_zero, List.set_cons_succ]
          generalize (((X2.setCell _ _).setCell _ _).setCell _ _).setCell _ _ = X3 at *
          refine wpAnyH_done (by kernel_rfl) ?_ _
          refine ⟨rfl, ?_⟩
          obtain ⟨tsz, t4, t5, t8, t11, tl, v13, t13, tr⟩ := HT1.out.step11 hHeld
          have hk1 : KeepsOthers X X3 := (keeps_of_but HB1.out H15c.out).trans (keeps_of_box hHeld (own_box HT1.out.out))
          have H15x := Aside0.mk (show Holds X3 g15 24 zero4 from (hHeld.block g15 H15.out.lt n15g).trans H15.out)
          have HDX : Aside0 (Hd H l (some ad) c w.heap.size (g13 + 1) (g13 + 1 + 1) w (k + 1) X3) := Aside0.mk ⟨(hHeld.block _ HD1.out.held.lt (by omega)).trans HD1.out.held, hHeld.box HD1.out.box (by omega), hHeld.below HD1.out.below hgN (Nat.le_refl _)⟩
          have HK1 := Aside0.mk hk1
          have HX := Aside0.mk (And.intro tsz (And.intro t4 (And.intro t5 (And.intro t8 (And.intro t11 (And.intro t13 tr))))))
          have HLf := Aside0.mk tl
          have hll := lAt_len H l W HL.out k
          have HLL := Aside0.mk hll
          have hls : lAt H l W (k + 1) = (subk (lAt H l W k) (nAt H l W k) 4).1 := rfl
          rw [HDN.out] at hls
          have HLS := Aside0.mk hls
          have hcs := cellsF_succ (nAt H l W) k
          rw [HDN.out] at hcs
          have HCS := Aside0.mk hcs
          clear tsz t4 t5 t8 t11 tl t13 tr hk1 hll hls hcs hHeld HT HT1 HB1 HD HD1 HFR H15 H15c HO2 HOD HS HSS hX1d
          gi_wp2_with (first | (refine load_wsIn rfl 24 _ rfl g12 rfl 24 (lAt H l W k) 4 _ HLf.out HLL.out Try.underlying24 rfl Hi24.out ?_) | (refine load_wsIn rfl 24 _ rfl g15 rfl 24 zero4 4 _ H15x.out HDL.out Try.underlying24 rfl Hi24.out ?_))
          refine ⟨trivial, ?_⟩
          refine (CallsIn.inRound lp (callsIn_wide.2 (sub_any (lAt H l W k) zero4 HLL.out HDL.out _))).mono ?_
          rintro e X5 ⟨rfl, hb5⟩
          have hb5c := hb5
          have H15y := Aside0.mk (H15x.out.below hb5)
          have HLy := Aside0.mk (HLf.out.below hb5)
          have H13y := Aside0.mk (show Box X5 g13 29 #[v13] from blk_below HX.out.2.2.2.2.2.1 hb5)
          have HB5 := Aside0.mk hb5
          have hsl2 := subk_len (lAt H l W k) zero4 4
          rw [HLL.out] at hsl2
          have HSL2 := Aside0.mk hsl2
          clear hb5 hb5c hsl2
          generalize subk (lAt H l W k) zero4 4 = S2 at *
          obtain ⟨SL2, sc2⟩ := S2
          simp only at *
          have hwf := ws_four zero4 HDL.out
          have hbs := own_base HX.out.2.2.2.2.2.2
          obtain ⟨i0, hi, hz0, hz1, hz2⟩ := info_parts info24_4
          have HIN := Aside0.mk (And.intro hi (And.intro hz0 (And.intro hz1 hz2)))
          have HWF := Aside0.mk hwf
          clear hi hz0 hz1 hz2
          have n1215 : g12 ≠ g15 := by omega
          have n1213 : g12 ≠ g13 := by omega
          gi_wp2_with (first | (refine load_wsIn rfl 24 _ rfl g15 rfl 24 zero4 4 _ H15z.out HDL.out Try.underlying24 rfl Hi24.out ?_) | (gi_at_builtin; refine wpListIn_append_own W4 rfl _ _ 29 rfl w6.heap.size 24 i0 (.agg #[.int .u64 0, .int .u64 0, .int .u64 0, .int .u64 0]) 4 32 Try.underlying29 HIN.out.1 HIN.out.2.1 HIN.out.2.2.1 HIN.out.2.2.2 rfl (by decide) v13 k (cellsF (nAt H l W) k) rfl H4w.out.2.2.2 ⟨X6.heap.size, 0, none⟩ 1 1 [.int .u64 (vw (gw zero4 0)), .int .u64 (vw (gw zero4 1)), .int .u64 (vw (gw zero4 2)), .int .u64 (vw (gw zero4 3))] rfl rfl ?c1 ?c2 ?c3 ?c4 ?c5 ?_) | (refine store_wsIn rfl 24 _ _ rfl g12 rfl 24 (lAt H l W k) SL2 4 rfl HLy.out HLL.out HSL2.out Hi24.out ?_; intro X6 hR hB hF hS; have HR6 := Aside0.mk hR; have HB6 := Aside0.mk (but_of hB hF); clear hR hB hF hS; have b13c := (HB6.out.box H13y.out (fun e => n1213 e.symm)).cell 0 _ rfl; have b13f := (HB6.out.box H13y.out (fun e => n1213 e.symm)).free 0; have H15z : Aside0 (Holds X6 g15 24 zero4) := Aside0.mk ((HB6.out.block _ H15y.out.lt (fun e => n1215 e.symm)).trans H15y.out); obtain ⟨W4, hW4⟩ : ∃ W4, X6.alloc (.cells #[.int .u64 (vw (gw zero4 0)), .int .u64 (vw (gw zero4 1)), .int .u64 (vw (gw zero4 2)), .int .u64 (vw (gw zero4 3))] 24) = W4 := ⟨_, rfl⟩; have H4w : Aside0 (Box W4 X6.heap.size 24 #[.int .u64 (vw (gw zero4 0)), .int .u64 (vw (gw zero4 1)), .int .u64 (vw (gw zero4 2)), .int .u64 (vw (gw zero4 3))] ∧ Below X6.heap.size X6 W4 ∧ W4.heap.size = X6.heap.size + 1 ∧ W4.ownsRow w6.heap.size 24 4 v13 k (cellsF (nAt H l W) k)) := Aside0.mk (by rw [← hW4]; exact ⟨blk_new X6 _, below_alloc (Below.refl _ _) _, by simp, own_below (own_but (own_below HX.out.2.2.2.2.2.2 HB5.out) HB6.out (by omega)) (below_alloc (Below.refl _ _) _)⟩)))
          case c1 =>
            intro j u hu
            have hp : (⟨X6.heap.size, 0, none⟩ : Addr).add j = ⟨X6.heap.size, j, none⟩ := by unfold Addr.add; split <;> simp_all
            rw [hp]
            exact (blk_cell H4w.out.1 j).trans (by simpa using hu)
          case c2 => simp [Value.oneCell']
          case c3 => show k + 1 ≤ 9223372036854775807; omega
          case c4 => omega
          case c5 => have := H4w.out.2.2.1; have := HX.out.1; have := HB5.out.size; have := HB6.out.size; omega
          intro v' w' hown hgr _
          obtain ⟨gr, cp, rfl⟩ := ownsRow_succ hown
          have q1 := HX.out.1
          have q2 := HB5.out.size
          have q3 := HB6.out.size
          have q4 := H4w.out.2.2.1
          have hb13 := HB6.out.box H13y.out (fun e => n1213 e.symm)
          have hne : some g13 ≠ v13.ownBlock := fun e => by have := hbs _ e.symm; omega
          have hv' : Box w' g13 29 #[v13] := (hgr.block _ (by have := hb13.lt; omega) hne).trans (blk_below hb13 H4w.out.2.1)
          have hcell : cellsF (nAt H l W) k ++ [.int .u64 (vw (gw zero4 0)), .int .u64 (vw (gw zero4 1)), .int .u64 (vw (gw zero4 2)), .int .u64 (vw (gw zero4 3))] = cellsF (nAt H l W) (k + 1) := by rw [HCS.out, HWF.out]
          rw [hcell] at hown
          have b6 := hv'.cell 0 _ rfl
          have b6f := hv'.free 0
          have hsame : ∀ i, i < w6.heap.size → i ≠ g12 → w'.heap[i]? = X3.heap[i]? := fun i hi h12 => (hgr.block i (by omega) (fun e => by have := hbs i e.symm; omega)).trans ((H4w.out.2.1.block i (by omega)).trans ((HB6.out.block i (by omega) h12).trans (HB5.out.block i (by omega))))
          have hleft : Holds w' g12 24 SL2 := (hgr.block g12 (by omega) (fun e => by have := hbs g12 e.symm; omega)).trans ((H4w.out.2.1.block g12 (by omega)).trans HR6.out)
          have hbelow : Below w.heap.size w w' := (below_step (HB6.out.below (below_step HDX.out.below HB5.out) (by omega) (Nat.le_refl _)) H4w.out.2.1).grown hgr (by omega) (fun j e => by have := hbs j e; omega)
          have hout : w'.ownsRow w.heap.size 40 8 (.slice (some ⟨go, 0, none⟩) l.length cap) l.length (cells40 (outK H l W (k + 1))) := own_move HO4.out fun j hj => by
            obtain rfl : go = j := by simpa [Value.ownBlock] using hj
            exact hsame go (by omega) (fun e => n12g e.symm)
          have hkeep : ∀ u, KeepsOthers X (w'.setCell ⟨g13, 0, none⟩ u) := fun u => (HK1.out.trans ⟨HB5.out.size, fun i o hi ho => (HB5.out.block i (Array.getElem?_eq_some_iff.1 hi).1).trans hi⟩).trans ((keeps_of_but HB6.out HLy.out).trans (app_keeps H4w.out.2.1 H4w.out.2.2.2 hgr u))
          have HF := Aside0.mk (And.intro hown (And.intro hv' (And.intro hbelow (And.intro hsame (And.intro hleft (And.intro hout (And.intro hkeep hgr.size)))))))
          clear hown hv' hgr hbelow hsame hleft hout hkeep hcell hbs hwf hW4 b13c b13f hb13
          gi_wp2
          refine ⟨HF.out.2.2.2.2.2.2.1 _, ⟨blk_far (p := ⟨g13, 0, none⟩) ((HF.out.2.2.2.1 _ (by omega) (by omega)).trans HDX.out.held) (by show g13 + 1 ≠ g13; omega) _, blk_far (p := ⟨g13, 0, none⟩) ((HF.out.2.2.2.1 _ (by omega) (by omega)).trans HDX.out.box) (by show g13 + 1 + 1 ≠ g13; omega) _, below_set HF.out.2.2.1 (by show w.heap.size ≤ g13; omega)⟩,
            by have := HF.out.2.2.2.2.2.2.2; simp; omega,
            blk_far (p := ⟨g13, 0, none⟩) ((HF.out.2.2.2.1 _ (by omega) (by omega)).trans HX.out.2.1) (by show w.heap.size + 1 ≠ g13; omega) _,
            blk_far (p := ⟨g13, 0, none⟩) ((HF.out.2.2.2.1 _ (by omega) (by omega)).trans HX.out.2.2.1) (by show w.heap.size + 1 + 1 ≠ g13; omega) _,
            blk_far (p := ⟨g13, 0, none⟩) ((HF.out.2.2.2.1 _ (by omega) (by omega)).trans HX.out.2.2.2.1) (by show w.heap.size + 1 + 1 + 1 ≠ g13; omega) _,
            blk_far (p := ⟨g13, 0, none⟩) ((HF.out.2.2.2.1 _ (by omega) (by omega)).trans HX.out.2.2.2.2.1) (by show g11 ≠ g13; omega) _,
            by rw [HLS.out]; exact blk_far (p := ⟨g13, 0, none⟩) HF.out.2.2.2.2.1 (by show g12 ≠ g13; omega) _,
            ⟨_, blk_set HF.out.2.1 0 _, HF.out.1.kept (grownBy_setCell' w' _ _) (.inr (fun e => by have := own_base HF.out.1 _ e; omega))⟩,
            own_move HF.out.2.2.2.2.2.1 fun j hj => Below.heap_setCell _ _ _ _ (by obtain rfl : go = j := (by simpa [Value.ownBlock] using hj); show go ≠ g13; omega)⟩
      case hdone =>
        rintro D X hD ⟨hd, ht⟩ hDd
        obtain ⟨v13, k1, k2⟩ := ht.b13
        have q11 := ht.b11.cell 0 _ rfl
        have q13 := k1.cell 0 _ rfl
        have hll := lAt_len H l W HL.out l.length
        have a0 := ht.left.cell 0 (by omega)
        have a1 := ht.left.cell 1 (by omega)
        have a2 := ht.left.cell 2 (by omega)
        have a3 := ht.left.cell 3 (by omega)
        have z0 := ht.z8.cell 0 (by simp)
        have z1 := ht.z8.cell 1 (by simp)
        have z2 := ht.z8.cell 2 (by simp)
        have z3 := ht.z8.cell 3 (by simp)
        have y0 := ht.z8.free 0
        have y1 := ht.z8.free 1
        have y2 := ht.z8.free 2
        have y3 := ht.z8.free 3
        have HTM := Aside0.mk ht
        have HD := Aside0.mk hd
        have HK := Aside0.mk hDd
        have H13 := Aside0.mk (And.intro k1 k2)
        have HLL := Aside0.mk hll
        have hD2 : w6.heap.size ≤ D := hD
        clear ht hd hDd k1 k2 hll
        gi_wp2_with fail
        refine wpIn_wide.2 ?_
        go_region
        have hr := (set_four (by simp) HLL.out HTM.out.z8).drewN 1
        have hbut := (but_set4 X (w.heap.size + 1 + 1 + 1) 0 (.int .u64 (vw (gw (lAt H l W l.length) 0))) (.int .u64 (vw (gw (lAt H l W l.length) 1))) (.int .u64 (vw (gw (lAt H l W l.length) 2))) (.int .u64 (vw (gw (lAt H l W l.length) 3)))).drew
        simp only [Nat.zero_add] at hbut
        have hbel := hbut.below HD.out.below (by omega) (Nat.le_refl _)
        have ho1 := own_away HTM.out.out HTM.out.z8 (by decide) hbut
        have ho2 := own_but H13.out.2 hbut (by omega)
        have hDf := (hbut.block D (Array.getElem?_eq_some_iff.1 HK.out).1 (by omega)).trans HK.out
        have HF := Aside0.mk (And.intro hr (And.intro hbel (And.intro ho1 (And.intro ho2 hDf))))
        clear hr hbel ho1 ho2 hDf hbut a0 a1 a2 a3 z0 z1 z2 z3 y0 y1 y2 y3 q11 q13
        gi_wp2_with fail
        refine ⟨by simp, .inl ⟨_, _, rfl, run_takeDeferred HF.out.2.2.2.2, ?_⟩⟩
        refine ⟨_, results_tr rfl _ _ (w.heap.size + 1 + 1 + 1) 24 (ws (lAt H l W l.length)) _ _ _ _ rfl rfl rfl rfl ((World.putObj_heap_other (by omega)).trans HF.out.1) Try.underlying24 rfl (by rw [Hi24.out, ws_size, HLL.out]), fun h => absurd HCV.out h, fun _ => ⟨v, v13, rfl, ?_, ownsRow_putObj (own_weaken HF.out.2.2.2.1 (by omega)) _ HF.out.2.2.2.2 rfl, ?_, ?_⟩⟩
        · rw [← outK_end]
          exact ownsRow_putObj HF.out.2.2.1 _ HF.out.2.2.2.2 rfl
        · intro j hj hj2
          have := hvlt j hj
          have := own_base HF.out.2.2.2.1 j hj2
          omega
        · exact HF.out.2.1.grown (grownBy_putObj' _ D _) (by have := HF.out.2.1.size; omega) (fun j e => by have := Option.some.inj e; omega)

  · have HCV := Aside0.mk hcv
    have b4 := h4.out.cell 0 _ rfl
    have a0 := h3.out.cell 0 (by rw [HL.out]; omega)
    have a1 := h3.out.cell 1 (by rw [HL.out]; omega)
    have a2 := h3.out.cell 2 (by rw [HL.out]; omega)
    have a3 := h3.out.cell 3 (by rw [HL.out]; omega)
    have z0 := h8.out.cell 0 (by simp)
    have z1 := h8.out.cell 1 (by simp)
    have z2 := h8.out.cell 2 (by simp)
    have z3 := h8.out.cell 3 (by simp)
    have y0 := h8.out.free 0
    have y1 := h8.out.free 1
    have y2 := h8.out.free 2
    have y3 := h8.out.free 3
    gi_wp2_with fail
    refine wpIn_wide.2 ?_
    go_region
    have hr := (set_four (by simp) HL.out h8.out).drewN 1
    have hb : Below w.heap.size w ((((w2.setCell ⟨w.heap.size + 1 + 1 + 1, 0, none⟩ (.int .u64 (vw (gw H 0)))).setCell ⟨w.heap.size + 1 + 1 + 1, 1, none⟩ (.int .u64 (vw (gw H 1)))).setCell ⟨w.heap.size + 1 + 1 + 1, 2, none⟩ (.int .u64 (vw (gw H 2)))).setCell ⟨w.heap.size + 1 + 1 + 1, 3, none⟩ (.int .u64 (vw (gw H 3)))).drew :=
      below_drew1 (below_set (below_set (below_set (below_set hw2.out (by show w.heap.size ≤ w.heap.size + 1 + 1 + 1; omega)) (by show w.heap.size ≤ w.heap.size + 1 + 1 + 1; omega)) (by show w.heap.size ≤ w.heap.size + 1 + 1 + 1; omega)) (by show w.heap.size ≤ w.heap.size + 1 + 1 + 1; omega))
    have HR := Aside0.mk hr
    have HBF := Aside0.mk hb
    clear hr hb a0 a1 a2 a3 z0 z1 z2 z3 y0 y1 y2 y3 b4
    gi_wp2_with fail
    refine ⟨_, results_tr rfl _ _ (w.heap.size + 1 + 1 + 1) 24 (ws H) _ _ _ _ rfl rfl rfl rfl HR.out Try.underlying24 rfl (by rw [Hi24.out, ws_size, HL.out]), fun _ => ⟨rfl, HBF.out⟩, fun h => absurd h HCV.out⟩
end Go.Proofs.Ytmnphdgghjdkmaa.P
