import Derived.Test.YtlkecihibmndbaaGBindA
namespace Go.Proofs.Ytlkecihibmndbaa.P
set_option linter.unusedVariables false
set_option linter.unusedSimpArgs false
open Go.RowKit Go.Shelf Go.Proofs.YtlkecihibmndbaaW.PrintWords
attribute [local go_sem] Oper.semAt_some
/-! slices.Delete of one. -/
theorem wp_append_fits {P : Program} (w : World) {o : Oper} {a : Act} {K : Act → World → Prop} {Q : Exit → Act → World → Prop} (s x : Operand) (t : TypeId) (hop : o.op = Op.call { callee := Callee.builtin Builtin.append, args := #[s, x], argTypes := #[t, t] })
    (base : Nat) (e : TypeId) (i : TypeInfo) (size : Nat) (h1 : P.underlying t = some (.slice e)) (h2 : P.info? e = some i) (h4 : i.size = size)
    (g k cap : Nat) (xs : List Value) (hs : a.eval s = .slice (some ⟨g, 0, none⟩) k cap) (hown : w.ownsRow base e size (.slice (some ⟨g, 0, none⟩) k cap) k xs) (ad : Addr) (m c : Nat) (news : List Value) (hx : a.eval x = .slice (some ad) m c) (hn : news.length = m * size)
    (hc : ∀ j u, news[j]? = some u → w.cell? (ad.add j) = some u) (h1c : ∀ u ∈ news, u.oneCell' = true) (b1 : k + m ≤ cap)
    (hK : ∀ w', w'.ownsRow base e size (.slice (some ⟨g, 0, none⟩) (k + m) cap) (k + m) (xs ++ news) → w.grownBy w' (some g) → K (a.put o.dst (.slice (some ⟨g, 0, none⟩) (k + m) cap)) w') : o.wp P a w K Q := by
  obtain ⟨w', hrun, r1, r2⟩ := run_append_fits (P := P) w base t o.type e i size h1 h2 h4 g k cap xs hown ad m c news hn hc h1c b1
  unfold Oper.wp execOp
  simp only [hop, resolve, invoke, builtin, Sem.run_bind, Sem.run_pure, Result.andThen_ok, List.map_toArray, List.map_cons, List.map_nil, hs, hx, hrun]
  exact hK w' r1 r2
theorem cells39_app (a b : List S39) : cells39 a ++ cells39 b = cells39 (a ++ b) := by simp [cells39]
theorem own_pre {W : World} {base g n cap i : Nat} {l : List S39} (h : W.ownsRow base 39 8 (.slice (some ⟨g, 0, none⟩) n cap) n (cells39 l)) (hn : l.length = n) (hi : i ≤ n) : W.ownsRow base 39 8 (.slice (some ⟨g, 0, none⟩) i cap) i (cells39 (l.take i)) := by
  have hs : cells39 l = cells39 (l.take i) ++ cells39 (l.drop i) := by rw [cells39_app, List.take_append_drop]
  have hl : (cells39 (l.take i)).length = i * 8 := by rw [cells39_len, List.length_take]; congr 1; omega
  rcases h with ⟨h1, h2 | ⟨g', cap', cur, e1, hb, hg, hc, hm, hz, ht⟩⟩
  · cases h2.1
  · injection e1 with e1 _ e3
    injection e1 with e1
    injection e1 with e1 _ _
    subst e1 e3
    refine ⟨hl, .inr ⟨g, cap, cur, rfl, hb, hg, by omega, hm, hz, ?_⟩⟩
    have : cur.toList.take (i * 8) = (cur.toList.take (n * 8)).take (i * 8) := by rw [List.take_take]; congr 1; omega
    rw [this, ht, hs, List.take_append_of_le_length (by omega), List.take_of_length_le (by omega)]
theorem own_tail {W : World} {base g n cap : Nat} {l : List S39} (h : W.ownsRow base 39 8 (.slice (some ⟨g, 0, none⟩) n cap) n (cells39 l)) (k j : Nat) (u : Value) (hu : (cells39 (l.drop k))[j]? = some u) : W.cell? ((⟨g, k * 8, none⟩ : Addr).add j) = some u := by
  rw [Addr.add_mid]
  have hs : cells39 l = cells39 (l.take k) ++ cells39 (l.drop k) := by rw [cells39_app, List.take_append_drop]
  by_cases hk : k ≤ l.length
  · have hl : (cells39 (l.take k)).length = k * 8 := by rw [cells39_len, List.length_take]; congr 1; omega
    refine (own_cell h (k * 8 + j) u ?_).1
    rw [hs, List.getElem?_append_right (by omega), hl, Nat.add_sub_cancel_left]
    exact hu
  · rw [List.drop_eq_nil_of_le (by omega)] at hu
    simp [cells39] at hu
theorem own_cells {W : World} {base g n cap : Nat} {xs : List Value} (h : W.ownsRow base 39 8 (.slice (some ⟨g, 0, none⟩) n cap) n xs) : ∃ cur, Box W g 39 cur ∧ cur.size = cap * 8 := by
  rcases h with ⟨h1, h2 | ⟨g', cap', cur, e1, hb, hg, hc, hm, hz, ht⟩⟩
  · cases h2.1
  · injection e1 with e1 _ e3
    injection e1 with e1
    injection e1 with e1 _ _
    subst e1 e3
    exact ⟨cur, hg, hz⟩
theorem own_sets {base g m cap : Nat} {xs : List Value} : ∀ {W : World} (h : W.ownsRow base 39 8 (.slice (some ⟨g, 0, none⟩) m cap) m xs) (vs : List Value) (o : Nat), m * 8 ≤ o → (W.setCells g o vs).ownsRow base 39 8 (.slice (some ⟨g, 0, none⟩) m cap) m xs ∧ But g W (W.setCells g o vs) := by
  intro W h vs
  induction vs generalizing W with
  | nil => intro o _; exact ⟨h, But.refl g W⟩
  | cons v r ih =>
    intro o ho
    have h2 := own_write h o v
    rw [List.set_eq_of_length_le (by rw [h.1]; omega)] at h2
    obtain ⟨a, b⟩ := ih h2 (o + 1) (by omega)
    exact ⟨a, But.trans (show But g W (W.setCell ⟨g, o, none⟩ v) from ⟨rfl, rfl, rfl, by simp, fun i _ hn => Below.heap_setCell _ _ _ i hn⟩) b⟩
theorem But.of_grown {g : Nat} {A B : World} (h : A.grownBy B (some g)) : But g A B := ⟨h.os, h.tape, h.output, h.size, fun i hi hn => h.block i hi (fun e => hn (by cases e; rfl))⟩
def zrow : List Value := [.string ByteArray.empty, .int .u64 0, .int .u64 0, .int .u64 0, .int .u64 0, .int .i64 0, .string ByteArray.empty, .string ByteArray.empty]
theorem run_clear1 (W : World) (g k c : Nat) (cs : Array Value) (hg : Box W g 39 cs) (hk : k + 8 ≤ cs.size) (ty : TypeId) :
    (Builtin.clear_ #[22] ty #[.slice (some ⟨g, k, none⟩) 1 c]).run Try.prog W = .ok (.tuple #[]) (W.setCells g k zrow) := by
  have hz : (zeroValue 39).run Try.prog W = .ok (.agg zrow.toArray) W := by
    obtain ⟨i, hi, hz, _, _⟩ := info_parts info39_8
    simp [zeroValue, typeInfo, hi, hz]
    rfl
  have hs : (Builtin.zeroCells (Value.agg zrow.toArray).cells 1).toList = zrow := by
    have e : (Value.agg zrow.toArray).cells = zrow.toArray := rfl
    rw [e, Builtin.zeroCells]
    apply List.ext_getElem
    · simp [zrow]
    · intro j h1 h2
      have h2' : j < 8 := h2
      simp [Nat.mod_eq_of_lt (show j < zrow.length from h2)]
      rw [List.getElem?_eq_getElem h2, Option.getD_some]
  have hst := run_storeCells_cells (P := Try.prog) g k zrow 0 W (fun j hj => by have hj' : j < 8 := hj; rw [hg.cell _ _ (Array.getElem?_eq_getElem (by omega))]; rfl) (fun j hj => hg.free _) (by decide)
  simp only [Nat.add_zero] at hst
  simp [Builtin.clear_, run_underlying Try.underlying22, hz, hs, hst]
set_option maxRecDepth 100000 in
set_option maxHeartbeats 4000000 in
theorem delete_any (l : List S39) (n i : Nat) (hn : l.length = n) (hi : i < n) (hl1 : n ≤ 1000) (m : Nat) (hm : n = m + 1) (base g cap : Nat) (w : World) (hown : w.ownsRow base 39 8 (.slice (some ⟨g, 0, none⟩) n cap) n (cells39 l)) :
    Calls Try.prog 18 #[.slice (some ⟨g, 0, none⟩) n cap, .int .i64 (i : Int), .int .i64 ((i : Int) + 1)] w fun e w' =>
      e = .returned (.slice (some ⟨g, 0, none⟩) m cap) ∧ w'.ownsRow base 39 8 (.slice (some ⟨g, 0, none⟩) m cap) m (cells39 (l.take i ++ l.drop (i + 1))) ∧ But g w w' := by
  have HO := Aside0.mk hown
  have hcap : n ≤ cap ∧ cap ≤ 9223372036854775807 := by
    rcases hown.2 with ⟨h, _⟩ | ⟨g', cap', cur, h, _, _, h1, h2, _⟩
    · cases h
    · injection h with _ _ h
      subst h
      exact ⟨h1, h2⟩
  have HN := Aside0.mk hn
  clear hown hn
  have hc1 := hcap.1
  have hc2 := hcap.2
  clear hcap
  have h1 : (i : Int) + 1 ≤ (n : Int) := by omega
  have h2 : (n : Int) ≤ (cap : Int) := by omega
  have h3 : ((i : Int) == (i : Int) + 1) = false := by rw [beq_eq_false_iff_ne]; omega
  go_enter Try.func18, Try.ntmps18
  go_wp2_with fail
  obtain ⟨i0, hi, hz0, hz1, hz2⟩ := info_parts info39_8
  have HIN := Aside0.mk (And.intro hi (And.intro hz0 (And.intro hz1 hz2)))
  clear hi hz0 hz1 hz2
  have ht : ((i : Int) + 1).toNat = i + 1 := by omega
  refine wp_put (fun a0 a' w' => ∃ X25 : Value, a' = ((((((((a0.put (some 20) (.slice (some ⟨g, 0, none⟩) n cap)).put (some 21) (.int .i64 (i : Int))).put (some 22) (.slice (some ⟨g, 0, none⟩) i cap)).put (some 23) (.slice (some ⟨g, 0, none⟩) n cap)).put (some 24) (.int .i64 ((i : Int) + 1))).put (some 25) (X25)).put (some 26) (.slice (some ⟨g, 0, none⟩) m cap)).put (some 0) (.slice (some ⟨g, 0, none⟩) m cap)) ∧ w'.ownsRow base 39 8 (.slice (some ⟨g, 0, none⟩) m cap) m (cells39 (l.take i ++ l.drop (i + 1))) ∧ But g w w') ?hreg ?hnext
  case hreg =>
    refine wp_region_held_drew (S := fun X => But g w X) (by kernel_rfl) (But.refl g w).drew (fun hHeld => ?_)
    have HOd := Aside0.mk (World.ownsRow.drew HO.out)
    generalize w.drew = W0 at *
    try simp only [Act.put, List.getElem_toArray, List.getElem_cons_zero, List.getElem_cons_succ, List.setIfInBounds_toArray, List.set_cons_zero, List.set_cons_succ]
    refine wpAnyH_take (i := 0) (v := .slice (some ⟨g, 0, none⟩) n cap) rfl (by kernel_rfl) (by kernel_rfl) (by kernel_rfl) (fun _ _ _ h => absurd h.1 (by simp)) (.inl ⟨by rfl, fun _ _ => by go_simp⟩) hHeld ?_
    try simp only [Act.put, List.getElem_toArray, List.getElem_cons_zero, List.getElem_cons_succ, List.setIfInBounds_toArray, List.set_cons_zero, List.set_cons_succ]
    refine wpAnyH_take (i := 1) (v := .int .i64 (i : Int)) rfl (by kernel_rfl) (by kernel_rfl) (by kernel_rfl) (fun _ _ _ h => absurd h.1 (by simp)) (.inl ⟨by rfl, fun _ _ => by go_simp⟩) hHeld ?_
    try simp only [Act.put, List.getElem_toArray, List.getElem_cons_zero, List.getElem_cons_succ, List.setIfInBounds_toArray, List.set_cons_zero, List.set_cons_succ]
    refine wpAnyH_take (i := 2) (v := .slice (some ⟨g, 0, none⟩) i cap) rfl (by kernel_rfl) (by kernel_rfl) (by kernel_rfl) (fun _ _ _ h => absurd h.1 (by simp)) (.inl ⟨by rfl, fun _ _ => by go_simp; intro hh; exact absurd hh (by omega)⟩) hHeld ?_
    try simp only [Act.put, List.getElem_toArray, List.getElem_cons_zero, List.getElem_cons_succ, List.setIfInBounds_toArray, List.set_cons_zero, List.set_cons_succ]
    refine wpAnyH_take (i := 3) (v := .slice (some ⟨g, 0, none⟩) n cap) rfl (by kernel_rfl) (by kernel_rfl) (by kernel_rfl) (fun _ _ _ h => absurd h.1 (by simp)) (.inl ⟨by rfl, fun _ _ => by go_simp⟩) hHeld ?_
    try simp only [Act.put, List.getElem_toArray, List.getElem_cons_zero, List.getElem_cons_succ, List.setIfInBounds_toArray, List.set_cons_zero, List.set_cons_succ]
    refine wpAnyH_take (i := 4) (v := .int .i64 ((i : Int) + 1)) rfl (by kernel_rfl) (by kernel_rfl) (by kernel_rfl) (fun _ _ _ h => absurd h.1 (by simp)) (.inl ⟨by rfl, fun _ _ => by go_simp⟩) hHeld ?_
    try simp only [Act.put, List.getElem_toArray, List.getElem_cons_zero, List.getElem_cons_succ, List.setIfInBounds_toArray, List.set_cons_zero, List.set_cons_succ]
    by_cases hce : cap = i + 1
    · refine wpAnyH_take (i := 5) (v := .slice (some ⟨g, 0, none⟩) (n - (i + 1)) (cap - (i + 1))) rfl (by kernel_rfl) (by kernel_rfl) (by kernel_rfl) (fun _ _ _ h => absurd h.1 (by simp)) (.inl ⟨by rfl, fun _ _ => by go_simp; intro hh; exact absurd hh (by omega)⟩) hHeld ?_
      try simp only [Act.put, List.getElem_toArray, List.getElem_cons_zero, List.getElem_cons_succ, List.setIfInBounds_toArray, List.set_cons_zero, List.set_cons_succ]
      refine wpAnyH_ready (rs := [6]) (by kernel_rfl) (by simp) ?_
      refine AllReadyH.cons rfl (fun K hK => ?_) AllReadyH.nil
      rw [if_pos (by rfl)]
      refine wp_append_fits _ _ _ 22 rfl base 39 i0 8 Try.underlying22 HIN.out.1 HIN.out.2.2.1 g i cap (cells39 (l.take i)) rfl (own_pre HOd.out HN.out (by omega)) ⟨g, 0, none⟩ (n - (i + 1)) (cap - (i + 1)) (cells39 (l.drop (i + 1))) rfl (by rw [cells39_len, List.length_drop, HN.out]) (fun j u hu => by have h0 : l.drop (i + 1) = [] := List.drop_eq_nil_of_le (by rw [HN.out]; omega); rw [h0] at hu; simp [cells39] at hu) (one39 _) (by omega) ?_
      intro w' hown' hgr
      rw [cells39_app, show i + (n - (i + 1)) = m by omega] at *
      refine hK.out _ _ (hHeld.trans (But.of_grown hgr)) (fun hHeld => ?_)
      clear hK K
      try simp only [Act.put, List.getElem_toArray, List.getElem_cons_zero, List.getElem_cons_succ, List.setIfInBounds_toArray, List.set_cons_zero, List.set_cons_succ]
      refine wpAnyH_take (i := 7) (v := .slice (some ⟨g, 0, none⟩) m cap) rfl (by kernel_rfl) (by kernel_rfl) (by kernel_rfl) (fun _ _ _ h => absurd h.1 (by simp)) (.inl ⟨by rfl, fun _ _ => by go_simp⟩) hHeld ?_
      try simp only [Act.put, List.getElem_toArray, List.getElem_cons_zero, List.getElem_cons_succ, List.setIfInBounds_toArray, List.set_cons_zero, List.set_cons_succ]
      refine wpAnyH_done (by kernel_rfl) ?_ _
      exact ⟨rfl, _, rfl, hown', hHeld⟩
    · refine wpAnyH_take (i := 5) (v := .slice (some ⟨g, (i + 1) * 8, none⟩) (n - (i + 1)) (cap - (i + 1))) rfl (by kernel_rfl) (by kernel_rfl) (by kernel_rfl) (fun _ _ _ h => absurd h.1 (by simp)) (.inl ⟨by rfl, fun _ _ => by go_simp; intro hh; exact absurd hh (by omega)⟩) hHeld ?_
      try simp only [Act.put, List.getElem_toArray, List.getElem_cons_zero, List.getElem_cons_succ, List.setIfInBounds_toArray, List.set_cons_zero, List.set_cons_succ]
      refine wpAnyH_ready (rs := [6]) (by kernel_rfl) (by simp) ?_
      refine AllReadyH.cons rfl (fun K hK => ?_) AllReadyH.nil
      rw [if_pos (by rfl)]
      refine wp_append_fits _ _ _ 22 rfl base 39 i0 8 Try.underlying22 HIN.out.1 HIN.out.2.2.1 g i cap (cells39 (l.take i)) rfl (own_pre HOd.out HN.out (by omega)) ⟨g, (i + 1) * 8, none⟩ (n - (i + 1)) (cap - (i + 1)) (cells39 (l.drop (i + 1))) rfl (by rw [cells39_len, List.length_drop, HN.out]) (fun j u hu => own_tail HOd.out (i + 1) j u hu) (one39 _) (by omega) ?_
      intro w' hown' hgr
      rw [cells39_app, show i + (n - (i + 1)) = m by omega] at *
      refine hK.out _ _ (hHeld.trans (But.of_grown hgr)) (fun hHeld => ?_)
      clear hK K
      try simp only [Act.put, List.getElem_toArray, List.getElem_cons_zero, List.getElem_cons_succ, List.setIfInBounds_toArray, List.set_cons_zero, List.set_cons_succ]
      refine wpAnyH_take (i := 7) (v := .slice (some ⟨g, 0, none⟩) m cap) rfl (by kernel_rfl) (by kernel_rfl) (by kernel_rfl) (fun _ _ _ h => absurd h.1 (by simp)) (.inl ⟨by rfl, fun _ _ => by go_simp⟩) hHeld ?_
      try simp only [Act.put, List.getElem_toArray, List.getElem_cons_zero, List.getElem_cons_succ, List.setIfInBounds_toArray, List.set_cons_zero, List.set_cons_succ]
      refine wpAnyH_done (by kernel_rfl) ?_ _
      exact ⟨rfl, _, rfl, hown', hHeld⟩
  case hnext =>
    rintro _ w5 ⟨X25, rfl, hown, hb5⟩
    try simp only [Act.put, List.getElem_toArray, List.getElem_cons_zero, List.getElem_cons_succ, List.setIfInBounds_toArray, List.set_cons_zero, List.set_cons_succ]
    obtain ⟨cur, hbox, hsz⟩ := own_cells hown
    have hcl := fun ty => run_clear1 w5 g (m * 8) (cap - m) cur hbox (by rw [hsz]; omega) ty
    have HOW := Aside0.mk hown
    have HB5 := Aside0.mk hb5
    have q1 : n - m = 1 := by omega
    have q2 : ¬ (cap = m) := by omega
    have q3 : (m : Int) ≤ (n : Int) := by omega
    clear hown hb5 hbox hsz HO ht
    go_wp2_with fail
    have HS := own_sets HOW.out zrow (m * 8) (Nat.le_refl _)
    exact bodyPost_ret (v := .slice (some ⟨g, 0, none⟩) m cap) (by simp [results, Try.results18, go_sem]) rfl ⟨rfl, HS.1, HB5.out.trans HS.2⟩
end Go.Proofs.Ytlkecihibmndbaa.P
