/-
  Texts of this claim, merged.
-/
import Derived.Test.YtpndjhelpoenpaaGreatDoorZC30
set_option linter.unusedVariables false
set_option linter.unusedSimpArgs false
set_option maxRecDepth 100000
set_option maxHeartbeats 8000000
namespace Go.Proofs.YtpndjhelpoenpaaGreatDoor
open Go.RowKit
theorem FnExactReplayLog_walk (z0 : Int) (s1 t1 : ByteArray) (z1 : Int) (w : World) (hz0 : I64 z0) (hs1 : s1.size ≤ maxLen) (ht1 : t1.size ≤ maxLen) (hz1 : I64 z1) (ht : Tab w) (hm : Mx w) (he : Er w) :
  Calls Tryz.prog 5 #[.int .i64 z0, .agg #[.string s1, .string t1, .int .i64 z1]] w fun e w' => e = .returned (.bool true) ∧ Below w.heap.size w w' := by
 have hd0 : (s1.size : Int) ≤ 9223372036854775807 := by unfold maxLen at hs1; omega
 have hq0 : (t1.size : Int) ≤ 9223372036854775807 := by unfold maxLen at ht1; omega
 obtain ⟨HAL, hA⟩ := bl1 w (.cells #[.string s1, .string t1, .int .i64 z1] 26)
 have HB0 : Hid (∀ w', Below (w.alloc (.cells #[.string s1, .string t1, .int .i64 z1] 26)).heap.size (w.alloc (.cells #[.string s1, .string t1, .int .i64 z1] 26)) w' → w'.cell? ⟨w.heap.size, 0, none⟩ = some (.string s1) ∧ w'.cell? ⟨w.heap.size, 1, none⟩ = some (.string t1) ∧ w'.cell? ⟨w.heap.size, 2, none⟩ = some (.int .i64 z1)) := by
  intro w' hq
  have h1 := (hq.block w.heap.size (by simp)).trans hA
  exact (cells3 h1)
 have HT : Hid (Tab (w.alloc (.cells #[.string s1, .string t1, .int .i64 z1] 26))) := ht.below HAL
 have HM : Hid (Mx (w.alloc (.cells #[.string s1, .string t1, .int .i64 z1] 26))) := hm.below HAL
 have HE : Hid (Er (w.alloc (.cells #[.string s1, .string t1, .int .i64 z1] 26))) := he.below HAL
 clear hA hs1 ht1 ht hm he hz0 hz1
 by_cases hbig : (s1.size : Int) + (t1.size : Int) ≤ 1048576
 ·obtain ⟨r, ok, HSP, HIP⟩ : ∃ (r : Nat) (ok : Bool), Hid (∀ W : World, Calls Tryz.prog 22 #[.int .i64 z0, .agg #[.string s1, .string t1, .int .i64 z1]] W fun e w' => e = .returned (.tuple #[.int .i64 (r : Int), .bool ok]) ∧ Below W.heap.size W w') ∧ Hid (∀ W : World, Tab W → Mx W → Er W → Calls Tryz.prog 24 #[.int .i64 z0, .agg #[.string s1, .string t1, .int .i64 z1]] W fun e w' => e = .returned (.tuple #[.int .i64 (r : Int), .bool ok]) ∧ Below W.heap.size W w') :=
   ⟨rlV z0 s1 t1 z1, rlOk z0 s1 t1 z1, fun W => sReplayLog_any z0 s1 t1 z1 (by omega) (by omega) W, fun W ht hm he => ReplayLog_any z0 s1 t1 z1 (by omega) (by omega) W ht hm he⟩
  go_enter Tryz.func5, Tryz.ntmps5
  go_wp2_with fail
  refine (szLog_ok s1 t1 z1 _ (by omega)).mono ?_
  rintro e v0 ⟨rfl, BX⟩
  have hL : ¬ (1048576 - (s1.size : Int) - (t1.size : Int) < 0) := by omega
  obtain ⟨b0, b1, b2⟩ := HB0.out _ BX
  go_wp2_with fail
  refine (toLog_any s1 t1 z1 v0).mono ?_
  rintro e v1 ⟨rfl, hb⟩
  have BX := below_of BX hb BX.size
  clear hb b0 b1 b2
  go_wp2_with fail
  refine (HSP.out v1).mono ?_
  rintro e v2 ⟨rfl, hb⟩
  have BX := below_of BX hb BX.size
  clear hb
  obtain ⟨b0, b1, b2⟩ := HB0.out _ BX
  go_wp2_with fail
  refine (toLog_any s1 t1 z1 v2).mono ?_
  rintro e v3 ⟨rfl, hb⟩
  have BX := below_of BX hb BX.size
  clear hb b0 b1 b2
  go_wp2_with fail
  refine (HIP.out v3 (HT.out.below BX) (HM.out.below BX) (HE.out.below BX)).mono ?_
  rintro e v4 ⟨rfl, hb⟩
  have BX := below_of BX hb BX.size
  clear hb
  go_wp2
  go_ret
  exact ⟨rfl, HAL.trans (BX.mono HAL.size)⟩
 ·go_enter Tryz.func5, Tryz.ntmps5
  go_wp2_with fail
  refine (szLog_big s1 t1 z1 _ hd0 hq0 (by omega)).mono ?_
  rintro e w1 ⟨rfl, B1⟩
  go_wp2
  go_ret
  exact ⟨rfl, HAL.trans (B1.mono HAL.size)⟩
end Go.Proofs.YtpndjhelpoenpaaGreatDoor
