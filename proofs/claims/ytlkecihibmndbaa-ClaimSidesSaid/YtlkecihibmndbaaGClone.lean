import Derived.Test.YtlkecihibmndbaaRow
import Derived.OwnWalk
import Derived.Laws.Cover3
namespace Go.Proofs.Ytlkecihibmndbaa.P
set_option linter.unusedVariables false
set_option linter.unusedSimpArgs false
open Go.RowKit Go.Shelf Go.Proofs.YtlkecihibmndbaaW.PrintWords
theorem run_eql_nil (W : World) (t e : TypeId) (h : Try.prog.underlying t = some (.slice e)) (A : Option Addr) (n c : Nat) : (binOp .eql t (.slice A n c) (.slice none 0 0)).run Try.prog W = .ok (.bool A.isNone) W := by
  simp [binOp, run_equal_slice_nil W t e A n c h, Result.andThen]
set_option maxHeartbeats 1000000 in
theorem clone_any (A : Option Addr) (c : Nat) (l : List S39) (w : World) (hC : Kd.C k39 w A l.length l) (hc : l.length ≤ c) (hl : l.length ≤ 1000) :
    Calls Try.prog 19 #[.slice A l.length c] w fun e w' => ∃ v, e = .returned v ∧ w'.ownsRow w.heap.size 39 8 v l.length (cells39 l) ∧ Below w.heap.size w w' := by
  have hlen := cells39_len l
  obtain ⟨i0, hi, hz0, hz1, hz2⟩ := info_parts info39_8
  have HIN := Aside0.mk (And.intro hi (And.intro hz0 (And.intro hz1 hz2)))
  obtain ⟨n, hn⟩ : ∃ n, l.length = n := ⟨_, rfl⟩
  have HC := Aside0.mk hC
  have HLN := Aside0.mk hlen
  have HN := Aside0.mk hn
  rw [hn] at HC HLN ⊢
  have hn1 : n ≤ 1000 := by omega
  have heq := fun W => run_eql_nil W 22 39 Try.underlying22 A n c
  clear hi hz0 hz1 hz2 hC hlen hc hl
  cases A with
  | none =>
    have h0 : l = [] := by
      rcases l with _ | ⟨a, l⟩
      · rfl
      · obtain ⟨ad, h, _⟩ := HC.out.2.2 (by have := HN.out; simp at this; omega)
        cases h
    have HZ := Aside0.mk h0
    clear h0 hn
    go_enter Try.func19, Try.ntmps19
    go_wp2
    refine bodyPost_ret (v := .slice none 0 0) (by simp [results, Try.results19, go_sem]) rfl ⟨_, rfl, ?_, Below.refl _ _⟩
    have : n = 0 := by rw [← HN.out, HZ.out]; rfl
    rw [this, HZ.out]
    exact World.ownsRow_nil _ _ _ _
  | some ad =>
    clear hn
    have hown : (w.alloc (.cells #[] 39)).ownsRow w.heap.size 39 8 (.slice (some ⟨w.heap.size, 0, none⟩) 0 0) 0 [] :=
      ⟨rfl, .inr ⟨w.heap.size, 0, #[], rfl, Nat.le_refl _, blk_new w _, Nat.le_refl _, by decide, rfl, rfl⟩⟩
    have hb := below_alloc (Below.refl w.heap.size w) (.cells #[] 39)
    have HO := Aside0.mk (And.intro hown hb)
    clear hown hb
    go_enter Try.func19, Try.ntmps19
    go_wp2_with (at_builtin; refine wpList_append_own (w.alloc (.cells #[] 39)) rfl _ _ 22 rfl w.heap.size 39 i0 (.agg #[.string ByteArray.empty, .int .u64 0, .int .u64 0, .int .u64 0, .int .u64 0, .int .i64 0, .string ByteArray.empty, .string ByteArray.empty]) 8 88 Try.underlying22 HIN.out.1 HIN.out.2.1 HIN.out.2.2.1 HIN.out.2.2.2 rfl (by decide) _ 0 [] rfl HO.out.1 ad n c (cells39 l) rfl HLN.out ?c1 (one39 l) ?c3 ?c4 ?c5 ?_)
    case c1 => intro j u hu; exact news39 (Kd.C_below (by rw [HN.out]; exact HC.out) HO.out.2) j u hu
    case c3 => show 0 + n ≤ 9223372036854775807; omega
    case c4 => omega
    case c5 => simp
    intro v' w' hown hgr _
    have hbel : Below w.heap.size w w' := HO.out.2.grown hgr (by simp) (fun k e => by cases e; exact Nat.le_refl _)
    have HOW := Aside0.mk hown
    have HBE := Aside0.mk hbel
    clear hown hgr hbel
    rcases HOW.out.2 with ⟨rfl, hz⟩ | ⟨g, cap, cur, rfl, hgb⟩
    · clear hz
      go_wp2
      exact bodyPost_ret (v := .slice none 0 0) (by simp [results, Try.results19, go_sem]) rfl ⟨_, rfl, HOW.out, HBE.out⟩
    · clear hgb
      go_wp2
      exact bodyPost_ret (v := .slice (some ⟨g, 0, none⟩) n cap) (by simp [results, Try.results19, go_sem]) rfl ⟨_, rfl, HOW.out, HBE.out⟩
end Go.Proofs.Ytlkecihibmndbaa.P
