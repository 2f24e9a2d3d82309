import Derived.Test.YtodojmgjjcgfpaaGWrite
import Derived.Test.YtodojmgjjcgfpaaGCrash
import Derived.Test.YtodojmgjjcgfpaaPdiskNew
import Derived.Test.YtodojmgjjcgfpaaPdiskArm
import Derived.Test.YtodojmgjjcgfpaaPdiskSync
import Derived.Lib.Hide
namespace Go.Proofs.Ytodojmgjjcgfpaa.P
open Go.RowKit Go.Proofs.YtodojmgjjcgfpaaW.PrintWords Go.Proofs.YtodojmgjjcgfpaaW.PrintLast Go.Proofs.YtodojmgjjcgfpaaW.PrintMore
theorem bcell {W w1 : World} (hb : Below W.heap.size W w1) : (∀ b o, b < W.heap.size → w1.cell? ⟨b, o, none⟩ = W.cell? ⟨b, o, none⟩) ∧ (∀ b o, b < W.heap.size → w1.frozen? ⟨b, o, none⟩ = W.frozen? ⟨b, o, none⟩) :=
  ⟨fun b o h => hb.cell (p := ⟨b, o, none⟩) h, fun b o h => hb.frozen (p := ⟨b, o, none⟩) h⟩
theorem set4 {W : World} {g : Nat} {t : TypeId} {c0 c1 c2 c3 : Value} (h : W.heap[g]? = some (.cells #[c0, c1, c2, c3] t (0, 0))) (v0 v1 v2 v3 : Value) :
    ((((W.setCell ⟨g, 0, none⟩ v0).setCell ⟨g, 1, none⟩ v1).setCell ⟨g, 2, none⟩ v2).setCell ⟨g, 3, none⟩ v3).heap[g]? = some (.cells #[v0, v1, v2, v3] t (0, 0)) := by
  simpa using blk_set (blk_set (blk_set (blk_set h 0 v0) 1 v1) 2 v2) 3 v3
theorem belowSet4 {w W : World} {g : Nat} (h : Below w.heap.size w W) (hg : w.heap.size ≤ g) (v0 v1 v2 v3 : Value) : Below w.heap.size w ((((W.setCell ⟨g, 0, none⟩ v0).setCell ⟨g, 1, none⟩ v1).setCell ⟨g, 2, none⟩ v2).setCell ⟨g, 3, none⟩ v3) :=
  below_set (below_set (below_set (below_set h hg) hg) hg) hg
theorem cells4 {W : World} {g : Nat} {t : TypeId} {c0 c1 c2 c3 : Value} (h : W.heap[g]? = some (.cells #[c0, c1, c2, c3] t (0, 0))) :
    (W.cell? ⟨g, 0, none⟩ = some c0 ∧ W.cell? ⟨g, 1, none⟩ = some c1 ∧ W.cell? ⟨g, 2, none⟩ = some c2 ∧ W.cell? ⟨g, 3, none⟩ = some c3) ∧
    (W.frozen? ⟨g, 0, none⟩ = false ∧ W.frozen? ⟨g, 1, none⟩ = false ∧ W.frozen? ⟨g, 2, none⟩ = false ∧ W.frozen? ⟨g, 3, none⟩ = false) :=
  ⟨⟨(blk_cell h 0).trans rfl, (blk_cell h 1).trans rfl, (blk_cell h 2).trans rfl, (blk_cell h 3).trans rfl⟩, blk_frozen h 0, blk_frozen h 1, blk_frozen h 2, blk_frozen h 3⟩
theorem n1 : disk_New.f = some (⟨#[]⟩, ⟨#[]⟩, -1, false) := by rfl
set_option maxHeartbeats 4000000 in
theorem awake_calls (w : World) : Calls Try.prog 7 #[] w fun e w' => e = .returned (.bool true) ∧ Below w.heap.size w w' := by
  have hfd : ∀ (a b : ByteArray) (c : Int) (d : Bool) (w : World), (Instr.field 23 (.agg #[.string a, .string b, .int .i64 c, .bool d]) 0).run Try.prog w = .ok (.string a) w := fun _ _ _ _ _ => by rfl
  go_enter Try.func7, Try.ntmps7
  go_wp2_with fail
  refine (disk_New.calls _ _ _ _ _ n1).mono ?_
  rintro e w1 ⟨rfl, hb1⟩
  have HB1 := Aside0.mk hb1
  clear hb1
  go_wp2_with fail
  refine (disk_Write.calls _ _ _ _ _ ⟨#[]⟩ ⟨#[97, 98]⟩ (-1) false 0 _ (by decide +kernel)).mono ?_
  rintro e w2 ⟨rfl, hb⟩
  have HB2 := Aside0.mk (below_step HB1.out hb)
  clear HB1 hb
  go_wp2_with fail
  refine (disk_Sync.calls _ _ _ _ ⟨#[97, 98]⟩ ⟨#[]⟩ (-1) false 0 _ (by decide +kernel)).mono ?_
  rintro e w3 ⟨rfl, hb⟩
  have K3 := Aside0.mk (blk_below (blk_new w2 _) hb)
  have HB3 := Aside0.mk (below_step (below_alloc HB2.out _) hb)
  have HG := Aside0.mk HB2.out.size
  clear hb HB2
  have hc := cells4 K3.out
  generalize w2.heap.size = g at *
  go_wp2_with fail
  refine (disk_Write.calls _ _ _ _ _ ⟨#[97, 98]⟩ ⟨#[99, 100]⟩ (-1) false 0 _ (by decide +kernel)).mono ?_
  rintro e w4 ⟨rfl, hb⟩
  have K4 := Aside0.mk (blk_below (set4 K3.out _ _ _ _) hb)
  have HB4 := Aside0.mk (below_step (belowSet4 HB3.out HG.out _ _ _ _) hb)
  clear hc hb K3 HB3
  have hc := cells4 K4.out
  go_wp2_with fail
  refine (disk_Crash.calls _ _ _ _ _ ⟨#[97, 98, 99]⟩ ⟨#[]⟩ (-1) false _ (by decide +kernel)).mono ?_
  rintro e w5 ⟨rfl, hb⟩
  have K5 := Aside0.mk (blk_below (set4 K4.out _ _ _ _) hb)
  have HB5 := Aside0.mk (below_step (belowSet4 HB4.out HG.out _ _ _ _) hb)
  clear hc hb K4 HB4
  have hc := cells4 K5.out
  go_wp2_with fail
  refine (disk_New.calls _ _ _ _ _ n1).mono ?_
  rintro e w6 ⟨rfl, hb⟩
  have K6 := Aside0.mk (blk_below (set4 K5.out _ _ _ _) hb)
  have HB6 := Aside0.mk (below_step (belowSet4 HB5.out HG.out _ _ _ _) hb)
  clear hc hb K5 HB5
  have hc := cells4 K6.out
  go_wp2_with fail
  refine (disk_Arm.calls _ _ _ _ _ ⟨#[]⟩ ⟨#[]⟩ 1 false _ (by decide +kernel)).mono ?_
  rintro e w7 ⟨rfl, hb⟩
  have K7 := Aside0.mk (blk_below K6.out hb)
  have HB7 := Aside0.mk (below_step HB6.out hb)
  clear hc hb K6 HB6
  have hc := cells4 K7.out
  go_wp2_with fail
  refine (disk_Write.calls _ _ _ _ _ ⟨#[]⟩ ⟨#[120]⟩ 0 true 26 _ (by decide +kernel)).mono ?_
  rintro e w8 ⟨rfl, hb⟩
  have K8 := Aside0.mk (blk_below K7.out hb)
  have HB8 := Aside0.mk (below_step HB7.out hb)
  clear hc hb K7 HB7
  have hc := cells4 K8.out
  have hl := blk_lt K8.out
  have hl2 : ¬ g = w8.heap.size := by omega
  go_wp2_with fail
  refine (disk_Crash.calls _ _ _ _ _ ⟨#[120]⟩ ⟨#[]⟩ (-1) false _ (by decide +kernel)).mono ?_
  rintro e w9 ⟨rfl, hb⟩
  have HB9 := Aside0.mk (below_step (below_alloc HB8.out _) hb)
  clear hc hb K8 HB8
  go_wp2_with fail
  go_ret
  exact ⟨rfl, HB9.out⟩
def trucelaw22_awake.f : Option Bool := some true
theorem trucelaw22_awake.calls (r : Bool) (w : World) (h : trucelaw22_awake.f = some r) :
    Calls Try.prog 7 #[] w fun e w' => e = .returned (.bool r) ∧ Below w.heap.size w w' := by
  obtain rfl := Option.some.inj h
  exact awake_calls w
end Go.Proofs.Ytodojmgjjcgfpaa.P
