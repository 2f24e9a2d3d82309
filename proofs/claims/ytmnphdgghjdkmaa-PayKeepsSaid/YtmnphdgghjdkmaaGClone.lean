import Derived.Test.YtmnphdgghjdkmaaGAfford
import Derived.OwnWalk
import Derived.Laws.Cover3
namespace Go.Proofs.Ytmnphdgghjdkmaa.P
set_option linter.unusedVariables false
set_option linter.unusedSimpArgs false
open Go.RowKit Go.Proofs.YtmnphdgghjdkmaaW.PrintWords
def cells40 (l : List S40) : List Value := l.flatMap fun a => (rowA a).toList
theorem cells40_len (l : List S40) : (cells40 l).length = l.length * 8 := by
  induction l with
  | nil => rfl
  | cons a l ih => rw [cells40, List.flatMap_cons, List.length_append]; show 8 + (cells40 l).length = _; rw [ih, List.length_cons]; omega
theorem run_eql_nil (W : World) (t e : TypeId) (h : Try.prog.underlying t = some (.slice e)) (A : Option Addr) (n c : Nat) : (binOp .eql t (.slice A n c) (.slice none 0 0)).run Try.prog W = .ok (.bool A.isNone) W := by
  simp [binOp, run_equal_slice_nil W t e A n c h, Result.andThen]
theorem cells40_get (l : List S40) : ∀ (j : Nat) (u : Value), (cells40 l)[j]? = some u → ∃ q i p, j = q * 8 + i ∧ l[q]? = some p ∧ (rowA p).toList[i]? = some u := by
  induction l with
  | nil => intro j u h; simp [cells40] at h
  | cons a l ih =>
    intro j u h
    rw [show cells40 (a :: l) = (rowA a).toList ++ cells40 l by rfl] at h
    by_cases hj : j < 8
    · rw [List.getElem?_append_left (by exact hj)] at h
      exact ⟨0, j, a, by omega, rfl, h⟩
    · rw [List.getElem?_append_right (by show 8 ≤ j; omega)] at h
      obtain ⟨q, i, p, h1, h2, h3⟩ := ih _ _ h
      exact ⟨q + 1, i, p, by have : (rowA a).toList.length = 8 := rfl; omega, h2, h3⟩
theorem news40 {w : World} {ad : Addr} {l : List S40} (hC : Kd.C k40 w (some ad) l.length l) (j : Nat) (u : Value) (h : (cells40 l)[j]? = some u) : w.cell? (ad.add j) = some u := by
  obtain ⟨q, i, p, rfl, h2, h3⟩ := cells40_get l j u h
  have hq := (List.getElem?_eq_some_iff.1 h2).1
  obtain ⟨ad', e, hc⟩ := hC.2.2 (by omega)
  obtain rfl := Option.some.inj e
  obtain ⟨c, hl, hr, hcell⟩ := hc q p h2
  rw [k40_open hr] at hcell
  exact hcell i u h3
theorem one40 (l : List S40) : ∀ u ∈ cells40 l, u.oneCell' = true := by
  intro u hu
  obtain ⟨a, _, h⟩ := List.mem_flatMap.1 hu
  simp [rowA] at h
  rcases h with h | h | h | h | h | h | h | h <;> subst h <;> rfl
theorem info40_8 : (Try.prog.info? 40).map (fun i => (i.zero, i.size, i.bytes)) = some (some (.agg #[.string ByteArray.empty, .int .u64 0, .int .u64 0, .int .u64 0, .int .u64 0, .int .i64 0, .string ByteArray.empty, .string ByteArray.empty]), 8, 88) := by kernel_rfl
set_option maxHeartbeats 1000000 in
theorem clone_any (A : Option Addr) (c : Nat) (l : List S40) (w : World) (hC : Kd.C k40 w A l.length l) (hc : l.length ≤ c) (hl : l.length ≤ 1000) :
    Calls Try.prog 18 #[.slice A l.length c] w fun e w' => ∃ v, e = .returned v ∧ w'.ownsRow w.heap.size 40 8 v l.length (cells40 l) ∧ Below w.heap.size w w' := by
  have hlen := cells40_len l
  obtain ⟨i0, hi, hz0, hz1, hz2⟩ := info_parts info40_8
  have HIN := Aside0.mk (And.intro hi (And.intro hz0 (And.intro hz1 hz2)))
  obtain ⟨n, hn⟩ : ∃ n, l.length = n := ⟨_, rfl⟩
  have HC := Aside0.mk hC
  have HLN := Aside0.mk hlen
  have HN := Aside0.mk hn
  rw [hn] at HC HLN ⊢
  have hn1 : n ≤ 1000 := by omega
  have heq := fun W => run_eql_nil W 25 40 Try.underlying25 A n c
  clear hi hz0 hz1 hz2 hC hlen hc hl
  cases A with
  | none =>
    have h0 : l = [] := by
      rcases l with _ | ⟨a, l⟩
      · rfl
      · obtain ⟨ad, h, _⟩ := HC.out.2.2 (by have := HN.out; simp at this; omega)
        cases h
    have HZ := Aside0.mk h0
    clear h0 hn
    go_enter Try.func18, Try.ntmps18
    go_wp2
    refine bodyPost_ret (v := .slice none 0 0) (by simp [results, Try.results18, go_sem]) rfl ⟨_, rfl, ?_, Below.refl _ _⟩
    have : n = 0 := by rw [← HN.out, HZ.out]; rfl
    rw [this, HZ.out]
    exact World.ownsRow_nil _ _ _ _
  | some ad =>
    clear hn
    have hown : (w.alloc (.cells #[] 40)).ownsRow w.heap.size 40 8 (.slice (some ⟨w.heap.size, 0, none⟩) 0 0) 0 [] :=
      ⟨rfl, .inr ⟨w.heap.size, 0, #[], rfl, Nat.le_refl _, blk_new w _, Nat.le_refl _, by decide, rfl, rfl⟩⟩
    have hb := below_alloc (Below.refl w.heap.size w) (.cells #[] 40)
    have HO := Aside0.mk (And.intro hown hb)
    clear hown hb
    go_enter Try.func18, Try.ntmps18
    go_wp2_with (at_builtin; refine wpList_append_own (w.alloc (.cells #[] 40)) rfl _ _ 25 rfl w.heap.size 40 i0 (.agg #[.string ByteArray.empty, .int .u64 0, .int .u64 0, .int .u64 0, .int .u64 0, .int .i64 0, .string ByteArray.empty, .string ByteArray.empty]) 8 88 Try.underlying25 HIN.out.1 HIN.out.2.1 HIN.out.2.2.1 HIN.out.2.2.2 rfl (by decide) _ 0 [] rfl HO.out.1 ad n c (cells40 l) rfl HLN.out ?c1 (one40 l) ?c3 ?c4 ?c5 ?_)
    case c1 => intro j u hu; exact news40 (Kd.C_below (by rw [HN.out]; exact HC.out) HO.out.2) j u hu
    case c3 => show 0 + n ≤ 9223372036854775807; omega
    case c4 => omega
    case c5 => simp
    intro v' w' hown hgr _
    have hbel : Below w.heap.size w w' := HO.out.2.grown hgr (by simp) (fun k e => by cases e; exact Nat.le_refl _)
    have HOW := Aside0.mk hown
    have HBE := Aside0.mk hbel
    clear hown hgr hbel
    rcases HOW.out.2 with ⟨rfl, hz⟩ | ⟨g, cap, cur, rfl, hgb⟩
    · clear hz
      go_wp2
      exact bodyPost_ret (v := .slice none 0 0) (by simp [results, Try.results18, go_sem]) rfl ⟨_, rfl, HOW.out, HBE.out⟩
    · clear hgb
      go_wp2
      exact bodyPost_ret (v := .slice (some ⟨g, 0, none⟩) n cap) (by simp [results, Try.results18, go_sem]) rfl ⟨_, rfl, HOW.out, HBE.out⟩
#print axioms clone_any
end Go.Proofs.Ytmnphdgghjdkmaa.P
