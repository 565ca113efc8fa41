/-
  markWorks: the pans of a works are marked.
-/
import Derived.Test.YtjhgpebppcbleaaWorksH
import Derived.Lib.Hide
namespace Go.Proofs.Ytjhgpebppcbleaa
open Go.RowKit
set_option linter.unusedVariables false
set_option linter.unusedSimpArgs false
set_option maxHeartbeats 800000 in
theorem markWorks_any (A : Option Addr) (n c lo hi : Nat) (k0 : Int) (f : Nat → Int) (I H S P : Int) (w : World) (hs : Own w lo hi 87 4 A n f) (hn : n ≤ 1048576) (hnc : n ≤ c) (h0 : 0 ≤ k0) (h1 : k0 ≤ 1000000) :
    Calls Try.prog 27 #[.agg #[.slice A n c, .int .i64 I, .int .i64 H, .int .i64 S, .int .i64 P], .int .i64 k0] w fun e w' => e = .returned (.int .i64 (k0 + (n : Int) * 4)) ∧ Own w' lo hi 87 4 A n (fun j => k0 + j) ∧ Fr lo hi w w' := by
  have hal := (Below.refl _ w).alloc (Nat.le_refl _) (.cells #[.slice A n c, .int .i64 I, .int .i64 H, .int .i64 S, .int .i64 P] 26)
  have HS := Lib.hid (hs.below hal)
  have HF := Lib.hid (Fr.of_below lo hi hal)
  clear hs hal
  go_enter Try.func27, Try.ntmps27
  go_wp2_with fail
  refine (markPanS_any A n c lo hi k0 f _ HS.out hn hnc h0 (by omega)).mono ?_
  rintro e w2 ⟨rfl, ho, hr⟩
  have HO := Lib.hid ho
  have HR := Lib.hid (HF.out.trans hr)
  clear ho hr
  go_wp2
  go_ret
  exact ⟨rfl, HO.out, HR.out⟩
end Go.Proofs.Ytjhgpebppcbleaa
