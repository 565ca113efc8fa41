/-
  The cursor's nests: a row of at most 13 elements, whatever the bytes.
-/
import Derived.Test.YtcecpioiagfoiaaDoorDrawRow
import Derived.Test.YtcecpioiagfoiaaDoorAppK
namespace Go.Proofs.YtcecpioiagfoiaaDoor
open Go.RowKit
set_option linter.unusedVariables false
set_option linter.unusedSimpArgs false
theorem infoDNest : (Tryd.prog.info? 36).map (fun i => (i.zero, i.size, i.bytes)) = some (some (.agg #[.int .i64 0, .int .i64 0, .int .i64 0, .int .i64 0, .int .i64 0, .int .i64 0, .int .i64 0]), 7, 56) := by kernel_rfl
theorem lit_cells (w : World) (news : List Int) {cs : Array Value} {t : TypeId} (hcs : cs = (news.map (Value.int .i64)).toArray) : ∀ j u, news[j]? = some u → (w.alloc (.cells cs t)).cell? ((⟨w.heap.size, 0, none⟩ : Addr).add j) = some (.int .i64 u) := by
  subst hcs
  intro j u hu
  rw [Addr.add_lit, Nat.zero_add, cell_of_row _ w.heap.size j _ t (0, 0) (heap_alloc_new w _)]
  simp [hu]
set_option maxRecDepth 100000 in
set_option maxHeartbeats 2000000 in
theorem nests_any (g n c p : Nat) (A : Option Addr) (w : World) (hC0 : Cur w g A n c p) (hn : n ≤ 65536) (hp : p ≤ 1000) :
    Calls Tryd.prog 30 #[.pointer (some ⟨g, 0, none⟩)] w fun e w' => ∃ v m L, e = .returned v ∧ m ≤ 13 ∧ w'.ownsRow w.heap.size 36 7 v m (List.map (Value.int .i64) L) ∧ Cur w' g A n c (p + 5000) ∧ Fr g (g + 1) w w' := by
  have hgw : g < w.heap.size := hC0.lt
  go_enter Tryd.func30, Tryd.ntmps30
  go_upto_region 2 with fail
  refine nameW0 ?_
  intro w1 hw1
  have hO1 : w1.ownsRow w.heap.size 36 7 (.slice (some ⟨w.heap.size, 0, none⟩) 0 0) 0 (List.map (Value.int .i64) []) := by rw [hw1]; exact World.ownsRow_made w #[] 0 (Nat.le_refl _) (Nat.zero_le _) (by simp)
  have hF1 : Fr g (g + 1) w w1 := by rw [hw1]; exact (Fr.refl _ _ w).alloc' _
  have hC1 : Cur w1 g A n c p := by rw [hw1]; exact hC0.alloc _
  clear hw1 hC0
  go_wp2_with fail
  have hC2 := hC1
  have hF2 := hF1
  have hO2 := hO1
  clear hC1 hF1 hO1
  refine (pick_any g n c _ 9 A _ hC2 hn (by omega) (by omega) (by omega)).mono ?_
  rintro e w3 ⟨k0, rfl, hk0, hC3, hf3⟩
  have hF3 := hF2.trans hf3
  have hO3 := own_step hO2 hgw hf3
  clear hC2 hF2 hO2 hf3
  go_wp2_with fail
  go_loopw [3, 4, 5] (fun v yv kv wr => ∃ (m k : Nat) (L : List Int) (y : Int), m + k ≤ 8 ∧ kv = .int .i64 k ∧ yv = .int .i64 y ∧ wr.ownsRow w.heap.size 36 7 v m (List.map (Value.int .i64) L) ∧ Cur wr g A n c (p + 10 + (8 - k) * 100) ∧ Fr g (g + 1) w wr) (fun _ _ kv _ => (intOf kv).toNat)
  case atStart => exact ⟨0, k0, [], _, by omega, rfl, rfl, hO3, hC3.weaken (by omega), hF3⟩
  case round =>
    obtain ⟨m, k, L, y, hmk, rfl, rfl, hO, hC, hF⟩ := hrel
    have HO := Lib.hid hO
    clear hO
    by_cases hk : 0 < k
    · have hki : (0 : Int) < (k : Int) := by omega
      go_wp2_with fail
      refine (pick_any g n c _ 3 A wr hC hn (by omega) (by omega) (by omega)).mono ?_
      rintro e wa ⟨y1, rfl, hy1, hCa, hfa⟩
      have hFa := hF.trans hfa
      have HOa := Lib.hid (own_step HO.out hgw hfa)
      clear hC hF HO hfa
      go_wp2_with fail
      refine (pick_any g n c _ 120 A wa hCa hn (by omega) (by omega) (by omega)).mono ?_
      rintro e wb ⟨y2, rfl, hy2, hC, hfb⟩
      have hF := hFa.trans hfb
      have HO := Lib.hid (own_step HOa.out hgw hfb)
      clear hCa hFa HOa hfb
      go_wp2_with fail
      refine (nest_any g n c _ A _ wb hC hn (by omega)).mono ?_
      rintro e w4 ⟨a0, a1, a2, a3, a4, a5, a6, rfl, hC4, hf4⟩
      have hF4 := hF.trans hf4
      have HO4 := Lib.hid (own_step HO.out hgw hf4)
      have z4 := hF4.size
      clear hC hF HO hf4
      go_wp2_with (at_builtin; go_loud (refine wpList_append_flat _ rfl _ _ 24 rfl w.heap.size 36 7 56 (.agg #[.int .i64 0, .int .i64 0, .int .i64 0, .int .i64 0, .int .i64 0, .int .i64 0, .int .i64 0]) Tryd.underlying24 infoDNest rfl (by decide) (by decide) L [a0, a1, a2, a3, a4, a5, a6] m 1 _ _ rfl (HO4.out.alloc _) ⟨w4.heap.size, 0, none⟩ rfl rfl (lit_cells w4 [a0, a1, a2, a3, a4, a5, a6] (cs := #[.int .i64 (a0), .int .i64 (a1), .int .i64 (a2), .int .i64 (a3), .int .i64 (a4), .int .i64 (a5), .int .i64 (a6)]) (t := 36) rfl) (by omega) (by simp; omega) ?_); intro v' w5 hO5 hg5)
      have hC5 := (hC4.alloc _).app hgw (HO4.out.alloc _) hg5
      have hF5 := (hF4.alloc' _).app (HO4.out.alloc _) hg5
      clear hC4 hF4 HO4 hg5 z4
      have hC7 := hC5
      have hF7 := hF5
      have hO7 := hO5
      have HO7 := Lib.hid hO7
      have hw1 : IntKind.i64.wrap ((k : Int) - 1) = (k : Int) - 1 := by rw [IntKind.wrap_i64]; omega
      clear hO7
      go_wp2
      go_roundw
      case rel => exact ⟨m + 1, k - 1, _, _, by omega, by congr 1; omega, rfl, HO7.out, hC7.weaken (by omega), hF7⟩
      case measure => simp [intOf]; omega
    · obtain rfl : k = 0 := by omega
      go_wp2_with fail
      refine (one_any g n c _ 24 A wr hC hn (by omega) (by omega) (by omega)).mono ?_
      rintro e w4 ⟨b, rfl, hC4, hf4⟩
      have hF4 := hF.trans hf4
      have HO4 := Lib.hid (own_step HO.out hgw hf4)
      clear hC hF HO hf4
      cases b with
      | false =>
        go_wp2
        go_ret
        exact ⟨_, m, L, rfl, by omega, HO4.out, hC4.weaken (by omega), hF4⟩
      | true =>
        clear HO4
        go_upto_region 10 with fail
        refine nameW0 ?_
        intro w5 hw5
        have hO5 : w5.ownsRow w.heap.size 36 7 (.slice (some ⟨w4.heap.size, 0, none⟩) 0 0) 0 (List.map (Value.int .i64) []) := by rw [hw5]; exact World.ownsRow_made w4 #[] 0 hF4.size (Nat.zero_le _) (by simp)
        have hF5 : Fr g (g + 1) w w5 := by rw [hw5]; exact hF4.alloc' _
        have hC5 : Cur w5 g A n c (p + 900) := by rw [hw5]; exact (hC4.alloc _).weaken (by omega)
        clear hw5 hC4 hF4
        go_wp2_with fail
        go_loopw [3, 6] (fun v iv wr => ∃ (m i : Nat) (L : List Int), m ≤ i ∧ i ≤ 13 ∧ iv = .int .i64 i ∧ wr.ownsRow w.heap.size 36 7 v m (List.map (Value.int .i64) L) ∧ Cur wr g A n c (p + 1000 + i * 10) ∧ Fr g (g + 1) w wr) (fun _ iv _ => 13 - (intOf iv).toNat)
        case atStart => exact ⟨0, 0, [], Nat.le_refl _, Nat.zero_le _, rfl, hO5, hC5.weaken (by omega), hF5⟩
        case round =>
          obtain ⟨m, i, L, hmi, hi, rfl, hO, hC, hF⟩ := hrel
          have HO := Lib.hid hO
          clear hO
          go_wp2_with fail
          refine (pick_any g n c _ 2 A _ hC hn (by omega) (by omega) (by omega)).mono ?_
          rintro e w6 ⟨z, rfl, hz, hC6, hf6⟩
          have hF6 := hF.trans hf6
          have HO6 := Lib.hid (own_step HO.out hgw hf6)
          have z6 := hF6.size
          clear hC hF HO hf6
          by_cases hlt : i < 12 + z
          · have hli : (i : Int) < 12 + (z : Int) := by omega
            have hi13 : (i : Int) ≤ 13 := by omega
            go_wp2_with (at_builtin; go_loud (refine wpList_append_flat _ rfl _ _ 24 rfl w.heap.size 36 7 56 (.agg #[.int .i64 0, .int .i64 0, .int .i64 0, .int .i64 0, .int .i64 0, .int .i64 0, .int .i64 0]) Tryd.underlying24 infoDNest rfl (by decide) (by decide) L [(i : Int) + 1, 1 + (i : Int).tmod 6, 1 + (i : Int).tmod 4, 5 * (i : Int), 12, 15 * (i : Int), 10] m 1 _ _ rfl (HO6.out.alloc _) ⟨w6.heap.size, 0, none⟩ rfl rfl (lit_cells w6 [(i : Int) + 1, 1 + (i : Int).tmod 6, 1 + (i : Int).tmod 4, 5 * (i : Int), 12, 15 * (i : Int), 10] (cs := #[.int .i64 ((i : Int) + 1), .int .i64 (1 + (i : Int).tmod 6), .int .i64 (1 + (i : Int).tmod 4), .int .i64 (5 * (i : Int)), .int .i64 (12), .int .i64 (15 * (i : Int)), .int .i64 (10)]) (t := 36) rfl) (by omega) (by simp; omega) ?_); intro v' w5 hO5 hg5)
            have hC7 := (hC6.alloc _).app hgw (HO6.out.alloc _) hg5
            have hF7 := (hF6.alloc' _).app (HO6.out.alloc _) hg5
            have HO7 := Lib.hid hO5
            have hw1 : IntKind.i64.wrap ((i : Int) + 1) = ((i + 1 : Nat) : Int) := by rw [IntKind.wrap_i64]; omega
            clear hC6 hF6 HO6 hg5 z6 hO5
            go_wp2
            go_roundw
            case rel => exact ⟨m + 1, i + 1, _, by omega, by omega, by congr 1, HO7.out, hC7.weaken (by omega), hF7⟩
            case measure => simp [intOf]; omega
          · have hli : ¬ ((i : Int) < 12 + (z : Int)) := by omega
            go_wp2
            go_ret
            exact ⟨_, m, L, rfl, by omega, HO6.out, hC6.weaken (by omega), hF6⟩
end Go.Proofs.YtcecpioiagfoiaaDoor
