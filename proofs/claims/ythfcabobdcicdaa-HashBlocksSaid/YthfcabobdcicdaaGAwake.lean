import Derived.Test.YthfcabobdcicdaaGSum
import Derived.Laws.DeepStrings4
namespace Go.Proofs.Ythfcabobdcicdaa.P
set_option linter.unusedVariables false
open Go.RowKit Go.Proofs.YthfcabobdcicdaaW.PrintWords
theorem hsum_size (s : ByteArray) : (hsum s).size = 32 := by
  show (outL _ 32).toArray.size = 32
  simp [outL]
set_option maxRecDepth 100000 in
theorem sumE : gw (absAll (upto (pad ⟨#[]⟩) (qOf ⟨#[]⟩))) 0 = 4333579421379646149#64 := by decide +kernel
set_option maxRecDepth 100000 in
theorem sumA : gw (absAll (upto (pad ⟨#[97, 98, 99]⟩) (qOf ⟨#[97, 98, 99]⟩))) 0 = 5740196073438511950#64 := by decide +kernel
theorem ext4 (A : List W64) (v : W64) (h : gw A 0 = v) : (⟨(outL A 32).toArray⟩ : ByteArray).extract 0 4 = ⟨#[UInt8.ofNat v.toNat, UInt8.ofNat (v >>> 8).toNat, UInt8.ofNat (v >>> 16).toNat, UInt8.ofNat (v >>> 24).toNat]⟩ := by
  apply ByteArray.ext
  rw [ByteArray.data_extract]
  show (outL A 32).toArray.extract 0 4 = _
  rw [List.extract_toArray]
  have : (outL A 32).take 4 = [outB A 0, outB A 1, outB A 2, outB A 3] := rfl
  simp [outL, List.range, List.range.loop, outB, h]
theorem extE : (hsum ⟨#[]⟩).extract 0 4 = ⟨#[197, 210, 70, 1]⟩ := by
  rw [hsum, ext4 _ _ sumE]
  rfl
theorem extA : (hsum ⟨#[97, 98, 99]⟩).extract 0 4 = ⟨#[78, 3, 101, 122]⟩ := by
  rw [hsum, ext4 _ _ sumA]
  rfl
set_option maxHeartbeats 1000000 in
theorem awake_any (w : World) : Calls Try.prog 10 #[] w fun e w' => e = .returned (.bool true) ∧ Below w.heap.size w w' := by
  have h1 := hsum_size ⟨#[]⟩
  have h2 := hsum_size ⟨#[97, 98, 99]⟩
  have h3 := extE
  have h4 := extA
  have c1 := sum_any ⟨#[]⟩ (by decide)
  have c2 := sum_any ⟨#[97, 98, 99]⟩ (by decide)
  generalize hsum ⟨#[]⟩ = x at *
  generalize hsum ⟨#[97, 98, 99]⟩ = y at *
  have H := Aside0.mk (And.intro c1 c2)
  clear c1 c2
  go_enter Try.func10, Try.ntmps10
  go_wp2_with fail
  refine (H.out.1 _).mono ?_
  rintro e w1 ⟨rfl, hb⟩
  have HB := Aside0.mk hb
  clear hb
  go_wp2_with fail
  refine (H.out.2 _).mono ?_
  rintro e w2 ⟨rfl, hb⟩
  have HB2 := Aside0.mk (below_step HB.out hb)
  clear hb HB
  go_wp2_with fail
  exact bodyPost_ret (v := .bool true) (by simp [results, Try.results10, go_sem]) rfl ⟨rfl, HB2.out⟩
end Go.Proofs.Ythfcabobdcicdaa.P
