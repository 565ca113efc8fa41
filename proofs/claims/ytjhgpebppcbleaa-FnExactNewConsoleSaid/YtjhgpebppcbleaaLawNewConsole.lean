/-
  The walk of the law FnExactNewConsole.
-/
import Derived.Test.YtjhgpebppcbleaaNewCon
namespace Go.Proofs.Ytjhgpebppcbleaa
open Go.RowKit
set_option linter.unusedVariables false
set_option linter.unusedSimpArgs false
set_option maxRecDepth 100000 in
set_option maxHeartbeats 4000000 in
theorem FnExactNewConsole_walk (z0 : Int) (w : World) (hz0 : I64 z0) :
    Calls Try.prog 6 #[.int .i64 z0] w fun e w' => e = .returned (.bool true) ∧ Below w.heap.size w w' := by
  have hm7 : newM z0 ≤ 1048576 := by unfold newM; split <;> omega
  have HSP : Hid (∀ W, Calls Try.prog 33 #[.int .i64 z0] W (newPost W z0)) := fun W => sNewConsole_any z0 W
  have HIP : Hid (∀ W, Calls Try.prog 34 #[.int .i64 z0] W (newPost W z0)) := fun W => NewConsole_any z0 W
  unfold newPost at HSP HIP
  generalize newM z0 = m at HSP HIP hm7
  generalize newL z0 = L at HSP HIP
  generalize inR z0 1 100000 = ok at HSP HIP
  go_enter Try.func6, Try.ntmps6
  have BX := Below.refl w.heap.size w
  go_wp2_with fail
  refine (HSP.out w).mono ?_
  rintro e wt ⟨Aa, ca, rfl, ma, _, hown, hb⟩
  obtain ⟨la, ua, hoa, qa⟩ := own_tight hown (Nat.le_refl _) hb.size
  have BX := below_of BX hb BX.size
  clear hown hb
  go_upto_region 2 with fail
  refine name_wp ?_
  intro w2 hw
  have hb : Below wt.heap.size wt w2 := by rw [hw]; exact (Below.refl _ _).alloc (Nat.le_refl _) _
  have hra : w2.heap[wt.heap.size]? = some (.cells #[.slice Aa m ca, .int .i64 0, .int .i64 0, .int .i64 0, .int .i64 0, .string ⟨#[]⟩, .string ⟨#[]⟩, .int .i64 0] 66 (0, 0)) := by rw [hw]; exact heap_alloc_new wt _
  have BX := below_of BX hb BX.size
  have bza := BX.size
  have lxa := hoa.hi_le
  have hla := rowLt hra
  have hoa := hoa.below hb
  clear hw hb
  generalize hga : wt.heap.size = ga at *
  have HGa := Lib.hid hga
  clear hga
  go_wp2_with fail
  refine (HIP.out w2).mono ?_
  rintro e wt ⟨Ab, cb, rfl, mb, _, hown, hb⟩
  obtain ⟨lb, ub, hob, qb⟩ := own_tight hown (Nat.le_refl _) hb.size
  have BX := below_of BX hb BX.size
  have hra := rowB hra hb
  have hoa := hoa.below hb
  clear hown hb
  go_upto_region 3 with fail
  refine name_wp ?_
  intro w4 hw
  have hb : Below wt.heap.size wt w4 := by rw [hw]; exact (Below.refl _ _).alloc (Nat.le_refl _) _
  have hrb : w4.heap[wt.heap.size]? = some (.cells #[.slice Ab m cb, .int .i64 0, .int .i64 0, .int .i64 0, .int .i64 0, .string ⟨#[]⟩, .string ⟨#[]⟩, .int .i64 0] 66 (0, 0)) := by rw [hw]; exact heap_alloc_new wt _
  have BX := below_of BX hb BX.size
  have bzb := BX.size
  have lxb := hob.hi_le
  have hlb := rowLt hrb
  have hra := rowB hra hb
  have hoa := hoa.below hb
  have hob := hob.below hb
  clear hw hb
  generalize hgb : wt.heap.size = gb at *
  have HGb := Lib.hid hgb
  clear hgb
  have e0 : w4.cell? ⟨gb, 0, none⟩ = some (.slice Ab m cb) := by rw [cell_of_row w4 (gb) 0 _ _ (0, 0) hrb]; rfl
  have e1 : w4.cell? ⟨gb, 1, none⟩ = some (.int .i64 0) := by rw [cell_of_row w4 (gb) 1 _ _ (0, 0) hrb]; rfl
  have e2 : w4.cell? ⟨gb, 2, none⟩ = some (.int .i64 0) := by rw [cell_of_row w4 (gb) 2 _ _ (0, 0) hrb]; rfl
  have e3 : w4.cell? ⟨gb, 3, none⟩ = some (.int .i64 0) := by rw [cell_of_row w4 (gb) 3 _ _ (0, 0) hrb]; rfl
  have e4 : w4.cell? ⟨gb, 4, none⟩ = some (.int .i64 0) := by rw [cell_of_row w4 (gb) 4 _ _ (0, 0) hrb]; rfl
  have e5 : w4.cell? ⟨gb, 5, none⟩ = some (.string ⟨#[]⟩) := by rw [cell_of_row w4 (gb) 5 _ _ (0, 0) hrb]; rfl
  have e6 : w4.cell? ⟨gb, 6, none⟩ = some (.string ⟨#[]⟩) := by rw [cell_of_row w4 (gb) 6 _ _ (0, 0) hrb]; rfl
  have e7 : w4.cell? ⟨gb, 7, none⟩ = some (.int .i64 0) := by rw [cell_of_row w4 (gb) 7 _ _ (0, 0) hrb]; rfl
  have y0 : w4.cell? ⟨ga, 0, none⟩ = some (.slice Aa m ca) := by rw [cell_of_row w4 (ga) 0 _ _ (0, 0) hra]; rfl
  have y1 : w4.cell? ⟨ga, 1, none⟩ = some (.int .i64 0) := by rw [cell_of_row w4 (ga) 1 _ _ (0, 0) hra]; rfl
  have y2 : w4.cell? ⟨ga, 2, none⟩ = some (.int .i64 0) := by rw [cell_of_row w4 (ga) 2 _ _ (0, 0) hra]; rfl
  have y3 : w4.cell? ⟨ga, 3, none⟩ = some (.int .i64 0) := by rw [cell_of_row w4 (ga) 3 _ _ (0, 0) hra]; rfl
  have y4 : w4.cell? ⟨ga, 4, none⟩ = some (.int .i64 0) := by rw [cell_of_row w4 (ga) 4 _ _ (0, 0) hra]; rfl
  have y5 : w4.cell? ⟨ga, 5, none⟩ = some (.string ⟨#[]⟩) := by rw [cell_of_row w4 (ga) 5 _ _ (0, 0) hra]; rfl
  have y6 : w4.cell? ⟨ga, 6, none⟩ = some (.string ⟨#[]⟩) := by rw [cell_of_row w4 (ga) 6 _ _ (0, 0) hra]; rfl
  have y7 : w4.cell? ⟨ga, 7, none⟩ = some (.int .i64 0) := by rw [cell_of_row w4 (ga) 7 _ _ (0, 0) hra]; rfl
  go_wp2_with fail
  refine (eqConsole_same Ab Aa m cb ca lb ub la ua (lf L) 0 0 0 0 ⟨#[]⟩ ⟨#[]⟩ 0 w4 hob.sl hoa.sl hm7 mb ma).mono ?_
  rintro e w5 ⟨rfl, hb⟩
  have BX := below_of BX hb BX.size
  have hra := rowB hra hb
  have hrb := rowB hrb hb
  have hoa := hoa.below hb
  have hob := hob.below hb
  clear hb e0 y0 e1 y1 e2 y2 e3 y3 e4 y4 e5 y5 e6 y6 e7 y7
  have e0 : w5.cell? ⟨gb, 0, none⟩ = some (.slice Ab m cb) := by rw [cell_of_row w5 (gb) 0 _ _ (0, 0) hrb]; rfl
  have e1 : w5.cell? ⟨gb, 1, none⟩ = some (.int .i64 0) := by rw [cell_of_row w5 (gb) 1 _ _ (0, 0) hrb]; rfl
  have e2 : w5.cell? ⟨gb, 2, none⟩ = some (.int .i64 0) := by rw [cell_of_row w5 (gb) 2 _ _ (0, 0) hrb]; rfl
  have e3 : w5.cell? ⟨gb, 3, none⟩ = some (.int .i64 0) := by rw [cell_of_row w5 (gb) 3 _ _ (0, 0) hrb]; rfl
  have e4 : w5.cell? ⟨gb, 4, none⟩ = some (.int .i64 0) := by rw [cell_of_row w5 (gb) 4 _ _ (0, 0) hrb]; rfl
  have e5 : w5.cell? ⟨gb, 5, none⟩ = some (.string ⟨#[]⟩) := by rw [cell_of_row w5 (gb) 5 _ _ (0, 0) hrb]; rfl
  have e6 : w5.cell? ⟨gb, 6, none⟩ = some (.string ⟨#[]⟩) := by rw [cell_of_row w5 (gb) 6 _ _ (0, 0) hrb]; rfl
  have e7 : w5.cell? ⟨gb, 7, none⟩ = some (.int .i64 0) := by rw [cell_of_row w5 (gb) 7 _ _ (0, 0) hrb]; rfl
  go_wp2_with fail
  refine (markConsole_any Ab m cb lb ub 1 (lf L) 0 0 0 0 ⟨#[]⟩ ⟨#[]⟩ 0 w5 hob hm7 mb (by omega) (by omega)).mono ?_
  rintro e w6 ⟨rfl, hob, hfr⟩
  have hra := rowF hra hfr (by omega)
  have hrb := rowF hrb hfr (by omega)
  have hoa := hoa.fr hfr (by omega)
  have BX : Below w.heap.size w w6 := BX.trans (hfr.below (by have := BX.size; omega) BX.size)
  clear hfr e0 e1 e2 e3 e4 e5 e6 e7
  have e0 : w6.cell? ⟨gb, 0, none⟩ = some (.slice Ab m cb) := by rw [cell_of_row w6 (gb) 0 _ _ (0, 0) hrb]; rfl
  have e1 : w6.cell? ⟨gb, 1, none⟩ = some (.int .i64 0) := by rw [cell_of_row w6 (gb) 1 _ _ (0, 0) hrb]; rfl
  have e2 : w6.cell? ⟨gb, 2, none⟩ = some (.int .i64 0) := by rw [cell_of_row w6 (gb) 2 _ _ (0, 0) hrb]; rfl
  have e3 : w6.cell? ⟨gb, 3, none⟩ = some (.int .i64 0) := by rw [cell_of_row w6 (gb) 3 _ _ (0, 0) hrb]; rfl
  have e4 : w6.cell? ⟨gb, 4, none⟩ = some (.int .i64 0) := by rw [cell_of_row w6 (gb) 4 _ _ (0, 0) hrb]; rfl
  have e5 : w6.cell? ⟨gb, 5, none⟩ = some (.string ⟨#[]⟩) := by rw [cell_of_row w6 (gb) 5 _ _ (0, 0) hrb]; rfl
  have e6 : w6.cell? ⟨gb, 6, none⟩ = some (.string ⟨#[]⟩) := by rw [cell_of_row w6 (gb) 6 _ _ (0, 0) hrb]; rfl
  have e7 : w6.cell? ⟨gb, 7, none⟩ = some (.int .i64 0) := by rw [cell_of_row w6 (gb) 7 _ _ (0, 0) hrb]; rfl
  go_wp2_with fail
  refine (heldConsole_any Ab m cb lb ub 1 0 0 0 0 ⟨#[]⟩ ⟨#[]⟩ 0 w6 hob.sl hm7 mb (by omega) (by omega)).mono ?_
  rintro e w7 ⟨rfl, hbq⟩
  have BX := below_of BX hbq BX.size
  have hra := rowB hra hbq
  have hrb := rowB hrb hbq
  have hoa := hoa.below hbq
  have hob := hob.below hbq
  clear hbq e0 e1 e2 e3 e4 e5 e6 e7
  have hm4 : ¬ ((1 : Int) + (m : Int) * 4 < 0) := by omega
  go_wp2_with fail
  refine (HIP.out w7).mono ?_
  rintro e wt ⟨Ac, cc, rfl, mc, _, hown, hb⟩
  obtain ⟨lc, uc, hoc, qc⟩ := own_tight hown (Nat.le_refl _) hb.size
  have BX := below_of BX hb BX.size
  have hra := rowB hra hb
  have hrb := rowB hrb hb
  have hoa := hoa.below hb
  have hob := hob.below hb
  clear hown hb
  go_upto_region 14 with fail
  refine name_wp ?_
  intro w8 hw
  have hb : Below wt.heap.size wt w8 := by rw [hw]; exact (Below.refl _ _).alloc (Nat.le_refl _) _
  have hrc : w8.heap[wt.heap.size]? = some (.cells #[.slice Ac m cc, .int .i64 0, .int .i64 0, .int .i64 0, .int .i64 0, .string ⟨#[]⟩, .string ⟨#[]⟩, .int .i64 0] 66 (0, 0)) := by rw [hw]; exact heap_alloc_new wt _
  have BX := below_of BX hb BX.size
  have bzc := BX.size
  have lxc := hoc.hi_le
  have hlc := rowLt hrc
  have hra := rowB hra hb
  have hrb := rowB hrb hb
  have hoa := hoa.below hb
  have hob := hob.below hb
  have hoc := hoc.below hb
  clear hw hb
  generalize hgc : wt.heap.size = gc at *
  have HGc := Lib.hid hgc
  clear hgc
  have e0 : w8.cell? ⟨gc, 0, none⟩ = some (.slice Ac m cc) := by rw [cell_of_row w8 (gc) 0 _ _ (0, 0) hrc]; rfl
  have e1 : w8.cell? ⟨gc, 1, none⟩ = some (.int .i64 0) := by rw [cell_of_row w8 (gc) 1 _ _ (0, 0) hrc]; rfl
  have e2 : w8.cell? ⟨gc, 2, none⟩ = some (.int .i64 0) := by rw [cell_of_row w8 (gc) 2 _ _ (0, 0) hrc]; rfl
  have e3 : w8.cell? ⟨gc, 3, none⟩ = some (.int .i64 0) := by rw [cell_of_row w8 (gc) 3 _ _ (0, 0) hrc]; rfl
  have e4 : w8.cell? ⟨gc, 4, none⟩ = some (.int .i64 0) := by rw [cell_of_row w8 (gc) 4 _ _ (0, 0) hrc]; rfl
  have e5 : w8.cell? ⟨gc, 5, none⟩ = some (.string ⟨#[]⟩) := by rw [cell_of_row w8 (gc) 5 _ _ (0, 0) hrc]; rfl
  have e6 : w8.cell? ⟨gc, 6, none⟩ = some (.string ⟨#[]⟩) := by rw [cell_of_row w8 (gc) 6 _ _ (0, 0) hrc]; rfl
  have e7 : w8.cell? ⟨gc, 7, none⟩ = some (.int .i64 0) := by rw [cell_of_row w8 (gc) 7 _ _ (0, 0) hrc]; rfl
  have y0 : w8.cell? ⟨ga, 0, none⟩ = some (.slice Aa m ca) := by rw [cell_of_row w8 (ga) 0 _ _ (0, 0) hra]; rfl
  have y1 : w8.cell? ⟨ga, 1, none⟩ = some (.int .i64 0) := by rw [cell_of_row w8 (ga) 1 _ _ (0, 0) hra]; rfl
  have y2 : w8.cell? ⟨ga, 2, none⟩ = some (.int .i64 0) := by rw [cell_of_row w8 (ga) 2 _ _ (0, 0) hra]; rfl
  have y3 : w8.cell? ⟨ga, 3, none⟩ = some (.int .i64 0) := by rw [cell_of_row w8 (ga) 3 _ _ (0, 0) hra]; rfl
  have y4 : w8.cell? ⟨ga, 4, none⟩ = some (.int .i64 0) := by rw [cell_of_row w8 (ga) 4 _ _ (0, 0) hra]; rfl
  have y5 : w8.cell? ⟨ga, 5, none⟩ = some (.string ⟨#[]⟩) := by rw [cell_of_row w8 (ga) 5 _ _ (0, 0) hra]; rfl
  have y6 : w8.cell? ⟨ga, 6, none⟩ = some (.string ⟨#[]⟩) := by rw [cell_of_row w8 (ga) 6 _ _ (0, 0) hra]; rfl
  have y7 : w8.cell? ⟨ga, 7, none⟩ = some (.int .i64 0) := by rw [cell_of_row w8 (ga) 7 _ _ (0, 0) hra]; rfl
  go_wp2_with fail
  refine (eqConsole_same Ac Aa m cc ca lc uc la ua (lf L) 0 0 0 0 ⟨#[]⟩ ⟨#[]⟩ 0 w8 hoc.sl hoa.sl hm7 mc ma).mono ?_
  rintro e w9 ⟨rfl, hb⟩
  have BX := below_of BX hb BX.size
  have hrb := rowB hrb hb
  have hob := hob.below hb
  clear hb e0 y0 e1 y1 e2 y2 e3 y3 e4 y4 e5 y5 e6 y6 e7 y7
  have e0 : w9.cell? ⟨gb, 0, none⟩ = some (.slice Ab m cb) := by rw [cell_of_row w9 (gb) 0 _ _ (0, 0) hrb]; rfl
  have e1 : w9.cell? ⟨gb, 1, none⟩ = some (.int .i64 0) := by rw [cell_of_row w9 (gb) 1 _ _ (0, 0) hrb]; rfl
  have e2 : w9.cell? ⟨gb, 2, none⟩ = some (.int .i64 0) := by rw [cell_of_row w9 (gb) 2 _ _ (0, 0) hrb]; rfl
  have e3 : w9.cell? ⟨gb, 3, none⟩ = some (.int .i64 0) := by rw [cell_of_row w9 (gb) 3 _ _ (0, 0) hrb]; rfl
  have e4 : w9.cell? ⟨gb, 4, none⟩ = some (.int .i64 0) := by rw [cell_of_row w9 (gb) 4 _ _ (0, 0) hrb]; rfl
  have e5 : w9.cell? ⟨gb, 5, none⟩ = some (.string ⟨#[]⟩) := by rw [cell_of_row w9 (gb) 5 _ _ (0, 0) hrb]; rfl
  have e6 : w9.cell? ⟨gb, 6, none⟩ = some (.string ⟨#[]⟩) := by rw [cell_of_row w9 (gb) 6 _ _ (0, 0) hrb]; rfl
  have e7 : w9.cell? ⟨gb, 7, none⟩ = some (.int .i64 0) := by rw [cell_of_row w9 (gb) 7 _ _ (0, 0) hrb]; rfl
  go_wp2_with fail
  refine (heldConsole_any Ab m cb lb ub 1 0 0 0 0 ⟨#[]⟩ ⟨#[]⟩ 0 w9 hob.sl hm7 mb (by omega) (by omega)).mono ?_
  rintro e wz ⟨rfl, hbq⟩
  have BX := below_of BX hbq BX.size
  clear hbq e0 e1 e2 e3 e4 e5 e6 e7
  go_wp2
  go_ret
  exact ⟨rfl, BX⟩
end Go.Proofs.Ytjhgpebppcbleaa
