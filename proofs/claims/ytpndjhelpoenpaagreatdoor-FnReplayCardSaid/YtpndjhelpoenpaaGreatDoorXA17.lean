/-
  Texts of this claim, merged.
-/
import Derived.Test.YtpndjhelpoenpaaGreatDoorXA16
set_option linter.unusedVariables false
set_option linter.unusedSimpArgs false
set_option maxRecDepth 100000
set_option maxHeartbeats 8000000
namespace Go.Proofs.YtpndjhelpoenpaaGreatDoor
open Go.RowKit
theorem infoKPan : (Tryz.prog.info? 97).map (fun i => (i.zero, i.size, i.bytes)) = some (some (.agg (iV 0 0 0 0)), 4, 32) := by exact z12
theorem sizeKPan : (Tryz.prog.info? 97).map (·.size) = some 4 := by exact z12
theorem clonePan_any (A : Option Addr) (n c lo hi : Nat) (f : Nat → Int) (w : World) (hs : Sl w lo hi 4 A n f) (hn : n ≤ 1048576) (hz : A = none → n = 0 ∧ c = 0) :
    Calls Tryz.prog 136 #[.slice A n c] w fun e w' => ∃ v', e = .returned v' ∧ w'.ownsRow w.heap.size 97 4 v' n ((cellsTo f (n * 4)).map (Value.int .i64)) ∧ bW w w' := by
  have q22 : ∀ (w : World) (a : Option Addr) (n c n' c' : Nat), (binOp .eql 30 (.slice a n c) (.slice none n' c')).run Tryz.prog w = .ok (.bool a.isNone) w := fun w a n c n' c' => Lib.run_eql_slice_nil w _ _ a n c n' c' Tryz.underlying30
  cases A with
  | none =>
    obtain ⟨rfl, rfl⟩ := hz rfl
    clear hs hz
    go_enter Tryz.func136, Tryz.ntmps136
    go_wp2
    go_ret
    exact ⟨_, rfl, by simpa [cellsTo] using World.ownsRow_nil w w.heap.size 97 4, Below.refl _ _⟩
  | some ad =>
    have hc : ∀ j u, (cellsTo f (n * 4))[j]? = some u → w.cell? (ad.add j) = some (.int .i64 u) := fun j u hj => by
      obtain ⟨hlt, rfl⟩ := cellsTo_get? hj
      obtain ⟨b, off, e, _, _, h⟩ := hs.here (by rcases Nat.eq_zero_or_pos n with h0 | h0; · subst h0; simp at hlt
                                                 · exact h0)
      rw [Option.some.inj e, Addr.add_lit]
      exact h j hlt
    have HC : Hid (∀ j u, (cellsTo f (n * 4))[j]? = some u → w.cell? (ad.add j) = some (.int .i64 u)) := hc
    clear hc hs hz
    obtain ⟨b, off, spot⟩ := ad
    go_enter Tryz.func136, Tryz.ntmps136
    go_wp2_with (at_builtin; refine wpList_append_flat _ rfl _ _ 30 rfl w.heap.size 97 4 32 (.agg (iV 0 0 0 0)) Tryz.underlying30 infoKPan rfl (by decide) (by decide) [] (cellsTo f (n * 4)) 0 n _ _ rfl (World.ownsRow_made w #[] 0 nL (Nat.zero_le _) (by simp)) ⟨b, off, spot⟩ rfl (cellsTo_length f _) (fun j u hj => Lib.cell?_alloc_some _ (HC.out j u hj)) (by omega) (by simp) ?_; intro v' w' ho hgr)
    go_ret
    exact ⟨v', rfl, by simpa using ho, below_app ((Below.refl _ w).alloc nL _) (World.ownsRow_made (base := w.heap.size) (e := 97) (size := 4) w #[] 0 nL (Nat.zero_le _) (by simp)) hgr⟩
def InsPostPan (base n : Nat) (w : World) (v : Value) (ls : List Int) (e : Ending) (w' : World) : Prop :=
 ∃ v', e = .returned v' ∧ w'.ownsRow base 97 4 v' (n + 1) (ls.map (Value.int .i64)) ∧ w.grownBy w' v.ownBlock
theorem InsertPan_end (base n vb : Nat) (tA : TypeId) (v : Value) (zs news : List Int) (w : World) (hown : w.ownsRow base 97 4 v n (zs.map (Value.int .i64))) (hn : n ≤ 1000) (hbase : base ≤ w.heap.size)
  (hnl : news.length = 4) (hv : w.heap[vb]? = some (.cells (news.map (Value.int .i64)).toArray tA (0, 0))) :
  Calls Tryz.prog 167 #[v, .int .i64 n, .slice (some ⟨vb, 0, none⟩) 1 1] w (InsPostPan base n w v (zs ++ news)) := by
 have hc : ∀ j u, news[j]? = some u → w.cell? ((⟨vb, 0, none⟩ : Addr).add j) = some (.int .i64 u) := fun j u hj => by
  rw [Addr.add_lit, Nat.zero_add, cell_of_row w vb j _ tA (0, 0) hv]
  simp [hj]
 have HO : Hid (w.ownsRow base 97 4 v n (zs.map (Value.int .i64))) := hown
 have HC : Hid (∀ j u, news[j]? = some u → w.cell? ((⟨vb, 0, none⟩ : Addr).add j) = some (.int .i64 u)) := hc
 clear hc hv
 rcases hown.2 with ⟨rfl, rfl⟩ | ⟨g, cap, cur, rfl, hg, hh, hnc, hcm, hcs, ht⟩
 ·clear hown
  go_enter Tryz.func167, Tryz.ntmps167
  go_wp2_with (at_builtin; refine wpList_append_flat _ rfl _ _ 30 rfl base 97 4 32 (.agg (iV 0 0 0 0)) Tryz.underlying30 infoKPan rfl (by decide) (by decide) zs news 0 1 _ _ rfl HO.out ⟨vb, 0, none⟩ rfl (by omega) HC.out (by omega) hbase ?_; intro v' w' ho hgr)
  go_ret
  exact ⟨_, rfl, by simpa using ho, hgr⟩
 ·clear hown hh ht hcs
  unfold maxLen at hcm
  have hcm' : (cap : Int) ≤ 9223372036854775807 := by omega
  clear hcm
  go_enter Tryz.func167, Tryz.ntmps167
  go_wp2_with (at_builtin; refine wpList_append_flat _ rfl _ _ 30 rfl base 97 4 32 (.agg (iV 0 0 0 0)) Tryz.underlying30 infoKPan rfl (by decide) (by decide) zs news n 1 _ _ rfl HO.out ⟨vb, 0, none⟩ rfl (by omega) HC.out (by omega) hbase ?_; intro v' w' ho hgr)
  all_goals
   go_ret
   exact ⟨_, rfl, ho, hgr⟩
theorem InsertPan_shift (base n i vb g cap : Nat) (tA : TypeId) (cur : Array Value) (zs news : List Int) (w : World) (hi : i < n) (hroom : n + 1 ≤ cap) (hcap : cap ≤ maxLen) (hbg : base ≤ g)
  (hh : w.heap[g]? = some (.cells cur 97 (0, 0))) (hcs : cur.size = cap * 4) (htake : cur.toList.take (n * 4) = zs.map (Value.int .i64))
  (hnl : news.length = 4) (hv : w.heap[vb]? = some (.cells (news.map (Value.int .i64)).toArray tA (0, 0))) (hne : vb ≠ g) :
  Calls Tryz.prog 167 #[.slice (some ⟨g, 0, none⟩) n cap, .int .i64 i, .slice (some ⟨vb, 0, none⟩) 1 1] w (InsPostPan base n w (.slice (some ⟨g, 0, none⟩) n cap) (zs.take (i * 4) ++ news ++ zs.drop (i * 4))) := by
 have hzl : zs.length = n * 4 := by
  have h := congrArg List.length htake
  simp only [List.length_take, List.length_map, Array.length_toList] at h
  omega
 have hsa : w.shape? vb = some (tA, 4) := by simp [World.shape?, hv, hnl]
 have hsb : w.shape? g = some (97, cap * 4) := by simp [World.shape?, hh, hcs]
 have hfa : ∀ j, w.frozen? ⟨vb, j, none⟩ = false := fun j => by simp [World.frozen?, hv]
 have mixed : Tryz.prog.follows .mixedOrders = true := by kernel_rfl
 have hov : ∀ lb cb, (callFunc 195 #[.slice (some ⟨vb, 0, none⟩) 1 1, .slice (some ⟨g, (i + 1) * 4, none⟩) lb cb]).run Tryz.prog w = .ok (.value (.bool false)) w := fun lb cb => by
  rw [run_callFunc_extern Tryz.func195 (by exact z12) (by exact z12) (by exact z12) (e := Extern.SlicesOverlaps.overlaps #[30, 30] #[4]) (by exact z12),
   Lib.run_overlaps_apart w 30 4 97 Tryz.underlying30 4 (fun w => by obtain ⟨i0, hi0, _, hz1, _⟩ := info_parts infoKPan; simp [sizeOf, typeInfo, hi0, hz1]) ⟨vb, 0, none⟩ ⟨g, (i + 1) * 4, none⟩ 1 1 lb cb hne tA 97 4 (cap * 4) hsa hsb (by omega) (hfa _) (hfa _)]
  rfl
 revert htake hv
 refine z225 ?_
 intro hcl cs htake hcsd vs hv hvsd hvl hl2 h1c h1v hcell
 obtain ⟨C1, hC1⟩ : ∃ C1 : Array Value, C1 = (cur.toList.take ((i + 1) * 4) ++ cs.drop (i * 4) ++ cur.toList.drop ((i + 1) * 4 + (cs.drop (i * 4)).length)).toArray := ⟨_, rfl⟩
 have hdl : (cs.drop (i * 4)).length = (n - i) * 4 := by rw [List.length_drop, hl2]; omega
 have hC1s : C1.size = cap * 4 := by rw [hC1]; simp only [List.size_toArray, List.length_append, List.length_take, List.length_drop, hdl, hcl, hl2]; omega
 obtain ⟨C2, hC2⟩ : ∃ C2 : Array Value, C2 = (C1.toList.take (i * 4) ++ vs ++ C1.toList.drop (i * 4 + vs.length)).toArray := ⟨_, rfl⟩
 have hC2s : C2.size = cap * 4 := by rw [hC2]; simp only [List.size_toArray, List.length_append, List.length_take, List.length_drop, Array.length_toList, hC1s, hvl]; omega
 have hcp1 : ∀ (W : World), (∀ k, W.heap[k]? = w.heap[k]?) → ∀ ty dc sc, (Builtin.copy_ #[30, 30] ty #[.slice (some ⟨g, (i + 1) * 4, none⟩) (n - i) dc, .slice (some ⟨g, i * 4, none⟩) (n + 1 - i) sc]).run Tryz.prog W = .ok (goInt (n - i)) (W.setRow g C1) := fun W hW ty dc sc => by
  have h := run_copy_rowk (P := Tryz.prog) W 30 30 ty 97 4 g ((i + 1) * 4) (n - i) dc ⟨g, i * 4, none⟩ (n + 1 - i) sc cur 97 (cs.drop (i * 4)) Tryz.underlying30 sizeKPan (by rw [hW]; exact hh)
   (by rw [hdl]; simp only [Nat.min_def]; split <;> omega)
   (fun j v hj => by rw [Addr.add_lit, World.cell?_of_block (w := w) (by rw [hW])]; exact hcell _ v (by rwa [List.getElem?_drop] at hj)) (by rw [hdl, hcs]; omega) (fun v hv => h1c v (List.mem_of_mem_drop hv))
  rw [← hC1] at h
  rw [h]
  congr 2
  simp only [Nat.min_def]; split <;> omega
 have hcp2 : ∀ (W : World), W.heap[g]? = some (.cells C1 97 (0, 0)) → W.heap[vb]? = w.heap[vb]? → ∀ ty dc, (Builtin.copy_ #[30, 30] ty #[.slice (some ⟨g, i * 4, none⟩) (n + 1 - i) dc, .slice (some ⟨vb, 0, none⟩) 1 1]).run Tryz.prog W = .ok (goInt 1) (W.setRow g C2) := fun W hWg hWv ty dc => by
  have h := run_copy_rowk (P := Tryz.prog) W 30 30 ty 97 4 g (i * 4) (n + 1 - i) dc ⟨vb, 0, none⟩ 1 1 C1 97 vs Tryz.underlying30 sizeKPan hWg
   (by rw [hvl]; simp only [Nat.min_def]; split <;> omega)
   (fun j v hj => by rw [Addr.add_lit, Nat.zero_add, cell_of_row W vb j _ tA (0, 0) (hWv.trans hv)]; simpa using hj) (by rw [hvl, hC1s]; omega) h1v
  rw [← hC2] at h
  rw [h]
  congr 2
  simp only [Nat.min_def]; split <;> omega
 have hfin : C2.toList.take ((n + 1) * 4) = (zs.take (i * 4) ++ news ++ zs.drop (i * 4)).map (Value.int .i64) := by
  have h := list_shift cur.toList cs vs (i * 4) (n * 4) htake.symm (by omega) (by rw [hvl, hcl]; omega)
  rw [hC2, hC1, List.map_append, List.map_append, List.map_take, List.map_drop, ← hcsd, ← hvsd, ← h, hvl]
  simp only [Nat.succ_mul]
 have hpost : ∀ W : World, w.grownBy W (some g) → W.heap[g]? = some (.cells C2 97 (0, 0)) → InsPostPan base n w (.slice (some ⟨g, 0, none⟩) n cap) (zs.take (i * 4) ++ news ++ zs.drop (i * 4)) (.returned (.slice (some ⟨g, 0, none⟩) (n + 1) cap)) W := fun W hg hW => by
  refine ⟨_, rfl, ⟨?_, .inr ⟨g, cap, C2, rfl, hbg, hW, hroom, hcap, hC2s, hfin⟩⟩, hg⟩
  simp only [List.length_map, List.length_append, List.length_take, List.length_drop, hzl, hnl]; omega
 have hgv : ∀ W : World, (W.setRow g C1).heap[vb]? = W.heap[vb]? := fun W => setRow_other W g vb C1 hne
 have hgs : ∀ W : World, W.heap[g]? = some (.cells cur 97 (0, 0)) → (W.setRow g C1).heap[g]? = some (.cells C1 97 (0, 0)) := fun W h => setRow_heap W g cur C1 _ _ h
 unfold maxLen at hcap
 refine z227 ?_
 intro hcap63 hw1 hwn
 have hz2 : ¬ ((i : Int) = (n : Int)) := by omega
 have hb1 : (0 : Int) ≤ (i : Int) + 1 := by omega
 have htn : ((i : Int) + 1).toNat = i + 1 := by omega
 have hin : i ≤ n := by omega
 have hci : ¬ (cap = i) := by omega
 have hci1 : ¬ (cap = i + 1) := by omega
 have hb3 : (i : Int) ≤ (n : Int) + 1 := by omega
 have hcpX := hcp1 w.drew (fun _ => rfl)
 have hcpY := hcp2 (w.drew.setRow g C1) (hgs w.drew hh) (hgv _)
 have HPO : Hid (∀ W : World, w.grownBy W (some g) → W.heap[g]? = some (.cells C2 97 (0, 0)) → InsPostPan base n w (.slice (some ⟨g, 0, none⟩) n cap) (zs.take (i * 4) ++ news ++ zs.drop (i * 4)) (.returned (.slice (some ⟨g, 0, none⟩) (n + 1) cap)) W) := hpost
 have HH : Hid (w.heap[g]? = some (.cells cur 97 (0, 0))) := hh
 clear hcp1 hcp2 hpost hgs hgv hh hfin hcell hC1 hC2 hC1s hC2s hdl hcl hcs htake hsa hsb hfa h1c h1v hl2 hzl hcsd hvsd hnl hv hvl
 go_enter Tryz.func167, Tryz.ntmps167
 go_wp2_with (simp only [hov])
 go_region_law_o (refine step_copy_runW rfl _ _ 30 30 rfl _ _ (by simp [Act.eval, Act.put]) (by simp [Act.eval, Act.put]) (hcpX _ _ _) ?_)
 go_wp2_with (at_builtin; refine wpList_copy_runW _ rfl _ _ 30 30 rfl _ _ rfl rfl (hcpY _ _) ?_)
 exact z228
theorem InsertPan_grow (base n i vb g cap : Nat) (tA : TypeId) (cur : Array Value) (zs news : List Int) (w : World) (hi : i < n) (hn : n ≤ 1000) (hnc : n ≤ cap) (hroom : cap < n + 1) (hbase : base ≤ w.heap.size) (hbg : base ≤ g)
  (hh : w.heap[g]? = some (.cells cur 97 (0, 0))) (hcs : cur.size = cap * 4) (htake : cur.toList.take (n * 4) = zs.map (Value.int .i64))
  (hnl : news.length = 4) (hv : w.heap[vb]? = some (.cells (news.map (Value.int .i64)).toArray tA (0, 0))) :
  Calls Tryz.prog 167 #[.slice (some ⟨g, 0, none⟩) n cap, .int .i64 i, .slice (some ⟨vb, 0, none⟩) 1 1] w (InsPostPan base n w (.slice (some ⟨g, 0, none⟩) n cap) (zs.take (i * 4) ++ news ++ zs.drop (i * 4))) := by
 have hzl : zs.length = n * 4 := by
  have h := congrArg List.length htake
  simp only [List.length_take, List.length_map, Array.length_toList] at h
  omega
 have mixed : Tryz.prog.follows .mixedOrders = true := by kernel_rfl
 have hgw : g < w.heap.size := (gL hh)
 have hvw : vb < w.heap.size := (gL hv)
 revert htake hv
 refine z225 ?_
 intro hcl cs htake hcsd vs hv hvsd hvl hl2 h1c h1v hcell
 obtain ⟨i0, hi0, hz0, hzs, hzb⟩ := info_parts infoKPan
 obtain ⟨G, hG⟩ : ∃ G, G = grownCap w (n + 1) cap 97 := ⟨_, rfl⟩
 have hGn : n + 1 ≤ G := by rw [hG]; exact grownCap_ge w _ _ _
 have hGm : G ≤ maxLen := by rw [hG]; exact grownCap_le_maxLen w _ _ _ (by unfold maxLen; omega)
 obtain ⟨ROW, hROW⟩ : ∃ ROW : Array Value, ROW = (cs.take (i * 4)).toArray ++ Builtin.zeroCells ((.agg (iV 0 0 0 0) : Value)).cells (n + 1 - i) ++ Builtin.zeroCells ((.agg (iV 0 0 0 0) : Value)).cells (G - (n + 1)) := ⟨_, rfl⟩
 have hRs : ROW.size = G * 4 := by
  have e : ((.agg (iV 0 0 0 0) : Value)).cells.size = 4 := rfl
  rw [hROW, Array.size_append, Array.size_append, size_zeroCells, size_zeroCells, e, List.size_toArray, List.length_take, hl2]
  omega
 have hpre : ROW.toList.take (i * 4) = cs.take (i * 4) := by
  rw [hROW]
  simp only [Array.toList_append, List.append_assoc]
  rw [List.take_append_of_le_length (by simp; omega)]
  exact List.take_of_length_le (by simp; omega)
 have hold : (Builtin.firstCells i0.size i (.slice (some ⟨g, 0, none⟩) i cap)).run Tryz.prog w.drew = .ok (cs.take (i * 4)).toArray w.drew := by
  rw [hzs]
  exact run_firstCells_some w.drew 4 i ⟨g, 0, none⟩ i cap (cs.take (i * 4)) (by rw [List.length_take, hl2]; omega) (fun j v hj => by
   rw [Addr.add_lit, Nat.zero_add]
   rw [List.getElem?_take] at hj
   split at hj
   ·exact hcell j v hj
   ·cases hj)
 have hkk : (n : Int) + 1 - (i : Int) = ((n + 1 - i : Nat) : Int) := by omega
 have hik : i + (n + 1 - i) = n + 1 := by omega
 have hrz : ∀ ty, (Builtin.append_ #[30, 3] ty #[.slice (some ⟨g, 0, none⟩) i cap, .int .i64 ((n : Int) + 1 - (i : Int))]).run Tryz.prog w = .ok (.slice (some ⟨w.heap.size, 0, none⟩) (n + 1) G) (w.drew.alloc (.cells ROW 97)) := fun ty => by
  have h := Lib.run_append_grow_zeros (P := Tryz.prog) (ty := ty) w 30 3 97 i0 _ .i64 .i64 Tryz.underlying30 Tryz.underlying3 hi0 hz0 (some ⟨g, 0, none⟩) i cap (cs.take (i * 4)) hold (n + 1 - i) (by omega) (by omega) (by omega) (by omega) (by rw [hzb]; omega) (by rw [hzb, hik]; exact growslice_fits hroom (by omega))
  rw [hik, ← hG, ← hROW] at h
  rw [hkk]
  exact h
 have hdl : (cs.drop (i * 4)).length = (n - i) * 4 := by rw [List.length_drop, hl2]; omega
 obtain ⟨C1, hC1⟩ : ∃ C1 : Array Value, C1 = (ROW.toList.take (i * 4) ++ vs ++ ROW.toList.drop (i * 4 + vs.length)).toArray := ⟨_, rfl⟩
 have hC1s : C1.size = G * 4 := by rw [hC1]; simp only [List.size_toArray, List.length_append, List.length_take, List.length_drop, Array.length_toList, hRs, hvl]; omega
 obtain ⟨C2, hC2⟩ : ∃ C2 : Array Value, C2 = (C1.toList.take ((i + 1) * 4) ++ cs.drop (i * 4) ++ C1.toList.drop ((i + 1) * 4 + (cs.drop (i * 4)).length)).toArray := ⟨_, rfl⟩
 have hC2s : C2.size = G * 4 := by rw [hC2]; simp only [List.size_toArray, List.length_append, List.length_take, List.length_drop, Array.length_toList, hC1s, hdl]; omega
 have hcpA : ∀ (W : World), W.heap[w.heap.size]? = some (.cells ROW 97 (0, 0)) → W.heap[vb]? = w.heap[vb]? → ∀ ty dc, (Builtin.copy_ #[30, 30] ty #[.slice (some ⟨w.heap.size, i * 4, none⟩) (n + 1 - i) dc, .slice (some ⟨vb, 0, none⟩) 1 1]).run Tryz.prog W = .ok (goInt 1) (W.setRow w.heap.size C1) := fun W hWg hWv ty dc => by
  have h := run_copy_rowk (P := Tryz.prog) W 30 30 ty 97 4 w.heap.size (i * 4) (n + 1 - i) dc ⟨vb, 0, none⟩ 1 1 ROW 97 vs Tryz.underlying30 sizeKPan hWg
   (by rw [hvl]; simp only [Nat.min_def]; split <;> omega)
   (fun j v hj => by rw [Addr.add_lit, Nat.zero_add, cell_of_row W vb j _ tA (0, 0) (hWv.trans hv)]; simpa using hj) (by rw [hvl, hRs]; omega) h1v
  rw [← hC1] at h
  rw [h]
  congr 2
  simp only [Nat.min_def]; split <;> omega
 have hcpB : ∀ (W : World), W.heap[w.heap.size]? = some (.cells C1 97 (0, 0)) → W.heap[g]? = w.heap[g]? → ∀ ty dc sc, (Builtin.copy_ #[30, 30] ty #[.slice (some ⟨w.heap.size, (i + 1) * 4, none⟩) (n - i) dc, .slice (some ⟨g, i * 4, none⟩) (n - i) sc]).run Tryz.prog W = .ok (goInt (n - i)) (W.setRow w.heap.size C2) := fun W hWg hWv ty dc sc => by
  have h := run_copy_rowk (P := Tryz.prog) W 30 30 ty 97 4 w.heap.size ((i + 1) * 4) (n - i) dc ⟨g, i * 4, none⟩ (n - i) sc C1 97 (cs.drop (i * 4)) Tryz.underlying30 sizeKPan hWg
   (by rw [hdl]; simp only [Nat.min_def]; split <;> omega)
   (fun j v hj => by rw [Addr.add_lit, World.cell?_of_block (w := w) (by rw [hWv])]; exact hcell _ v (by rwa [List.getElem?_drop] at hj)) (by rw [hdl, hC1s]; omega) (fun v hv => h1c v (List.mem_of_mem_drop hv))
  rw [← hC2] at h
  rw [h]
  congr 2
  simp only [Nat.min_def]; split <;> omega
 have hfin : C2.toList.take ((n + 1) * 4) = (zs.take (i * 4) ++ news ++ zs.drop (i * 4)).map (Value.int .i64) := by
  have h := list_grow ROW.toList cs vs (i * 4) (n * 4) hl2 hpre (by omega) (by rw [hvl]; simp only [Array.length_toList, hRs]; omega)
  rw [hC2, hC1, List.map_append, List.map_append, List.map_take, List.map_drop, ← hcsd, ← hvsd, ← h, hvl]
  simp only [Nat.succ_mul]
 have hpost : ∀ W : World, w.grownBy W (some w.heap.size) → W.heap[w.heap.size]? = some (.cells C2 97 (0, 0)) → InsPostPan base n w (.slice (some ⟨g, 0, none⟩) n cap) (zs.take (i * 4) ++ news ++ zs.drop (i * 4)) (.returned (.slice (some ⟨w.heap.size, 0, none⟩) (n + 1) G)) W := fun W hg hW => by
  refine ⟨_, rfl, ⟨?_, .inr ⟨w.heap.size, G, C2, rfl, hbase, hW, hGn, hGm, hC2s, hfin⟩⟩, ⟨hg.os, hg.tape, hg.output, hg.size, fun k hk _ => hg.block k hk (by simp; omega)⟩⟩
  simp only [List.length_map, List.length_append, List.length_take, List.length_drop, hzl, hnl]; omega
 obtain ⟨N, hN⟩ : ∃ N, N = w.heap.size := ⟨_, rfl⟩
 have hgA : ∀ W : World, W.heap[N]? = some (.cells ROW 97 (0, 0)) → (W.setRow N C1).heap[N]? = some (.cells C1 97 (0, 0)) := fun W h => setRow_heap W N ROW C1 _ _ h
 have hoA : ∀ (W : World) k, k ≠ N → (W.setRow N C1).heap[k]? = W.heap[k]? := fun W k hk => setRow_other W N k C1 hk
 have hA0 : (w.drew.alloc (.cells ROW 97)).heap[N]? = some (.cells ROW 97 (0, 0)) := by rw [hN]; exact heap_alloc_new w.drew _
 have hA1 : ∀ k, k < w.heap.size → (w.drew.alloc (.cells ROW 97)).heap[k]? = w.heap[k]? := fun k hk => ((Below.refl w.drew.heap.size w.drew).alloc nL _).block k hk
 have hgN : g ≠ N := by omega
 have hvN : vb ≠ N := by omega
 have hGr0 : w.grownBy (w.drew.alloc (.cells ROW 97)) (some N) := by
  have h := World.grownBy_alloc w.drew (.cells ROW 97) (some N)
  exact ⟨h.os, h.tape, h.output, h.size, h.block⟩
 rw [← hN] at hrz hcpA hcpB hpost
 unfold maxLen at hGm
 have hG63 : (G : Int) ≤ 9223372036854775807 := by omega
 refine z227 ?_
 intro hcap63 hw1 hwn
 have hwm : IntKind.i64.wrap ((n : Int) + 1 - (i : Int)) = (n : Int) + 1 - (i : Int) := by rw [IntKind.wrap_i64]; omega
 have hz2 : ¬ ((i : Int) = (n : Int)) := by omega
 have hz3 : (cap : Int) < (n : Int) + 1 := by omega
 have hb1 : (0 : Int) ≤ (i : Int) + 1 := by omega
 have htn : ((i : Int) + 1).toNat = i + 1 := by omega
 have hin : i ≤ n := by omega
 have hci : ¬ (cap = i) := by omega
 have hGi : ¬ (G = i) := by omega
 have hGi1 : ¬ (G = i + 1) := by omega
 have hb3 : (i : Int) ≤ (n : Int) := by omega
 have HRZ : Hid (∀ ty, (Builtin.append_ #[30, 3] ty #[.slice (some ⟨g, 0, none⟩) i cap, .int .i64 ((n : Int) + 1 - (i : Int))]).run Tryz.prog w = .ok (.slice (some ⟨N, 0, none⟩) (n + 1) G) (w.drew.alloc (.cells ROW 97))) := hrz
 have hcpX := hcpA (w.alloc (.cells ROW 97)).drew hA0 (hA1 _ hvw)
 have hcpY := hcpB (((w.alloc (.cells ROW 97)).drew).setRow N C1) (hgA _ hA0) ((hoA _ _ hgN).trans (hA1 _ hgw))
 have hcpZ := hcpB (((w.alloc (.cells ROW 97)).drew).setRow N C1).drew (hgA _ hA0) ((hoA _ _ hgN).trans (hA1 _ hgw))
 have HPO : Hid (∀ W : World, w.grownBy W (some N) → W.heap[N]? = some (.cells C2 97 (0, 0)) → InsPostPan base n w (.slice (some ⟨g, 0, none⟩) n cap) (zs.take (i * 4) ++ news ++ zs.drop (i * 4)) (.returned (.slice (some ⟨N, 0, none⟩) (n + 1) G)) W) := hpost
 have HA0 : Hid ((w.drew.alloc (.cells ROW 97)).heap[N]? = some (.cells ROW 97 (0, 0))) := hA0
 have HA1 : Hid (∀ k, k < w.heap.size → (w.drew.alloc (.cells ROW 97)).heap[k]? = w.heap[k]?) := hA1
 have HN : Hid (N = w.heap.size) := hN
 have HGR : Hid (w.grownBy (w.drew.alloc (.cells ROW 97)) (some N)) := hGr0
 clear hrz hcpA hcpB hpost hA0 hA1 hN hGr0 hh hfin hcell hC1 hC2 hC1s hC2s hdl hcl hcs htake h1c h1v hl2 hzl hcsd hvsd hnl hv hvl hROW hRs hpre hold hG i0 hi0 hz0 hzs hzb hkk hik
 go_enter Tryz.func167, Tryz.ntmps167
 go_wp2_with (first
  | (at_builtin; refine Lib.wpList_append_run _ rfl _ _ _ _ rfl _ _ rfl rfl _ _ (HRZ.out _) ?_)
  | (at_builtin; refine wpList_copy_runW _ rfl _ _ 30 30 rfl _ _ rfl rfl (hcpX _ _) ?_))
 go_region_law_o (first | refine step_copy_runW rfl _ _ 30 30 rfl _ _ (by simp [Act.eval, Act.put]) (by simp [Act.eval, Act.put]) (hcpX _ _) ?_ | refine step_copy_runW rfl _ _ 30 30 rfl _ _ (by simp [Act.eval, Act.put]) (by simp [Act.eval, Act.put]) (hcpY _ _ _) ?_ | refine step_copy_runW rfl _ _ 30 30 rfl _ _ (by simp [Act.eval, Act.put]) (by simp [Act.eval, Act.put]) (hcpZ _ _ _) ?_)
 go_wp2_with (first
  | (at_builtin; refine wpList_copy_runW _ rfl _ _ 30 30 rfl _ _ rfl rfl (hcpY _ _ _) ?_)
  | (at_builtin; refine wpList_copy_runW _ rfl _ _ 30 30 rfl _ _ rfl rfl (hcpZ _ _ _) ?_))
 go_ret
 refine HPO.out _ ?_ ?_
 ·have h0 : w.grownBy (w.alloc (.cells ROW 97)) (some N) := ⟨HGR.out.os, HGR.out.tape, HGR.out.output, HGR.out.size, HGR.out.block⟩
  exact growI_trans h0 (growI_trans (setRow_drew_grown _ N C1) (setRow_drew_grown _ N C2))
 ·exact setRow_heap _ N C1 C2 _ _ (setRow_heap _ N ROW C1 _ _ HA0.out)
theorem InsertPan_any (base n i vb : Nat) (tA : TypeId) (v : Value) (zs news : List Int) (w : World) (hown : w.ownsRow base 97 4 v n (zs.map (Value.int .i64))) (hi : i ≤ n) (hn : n ≤ 1000) (hbase : base ≤ w.heap.size)
  (hnl : news.length = 4) (hv : w.heap[vb]? = some (.cells (news.map (Value.int .i64)).toArray tA (0, 0))) (hne : some vb ≠ v.ownBlock) :
  Calls Tryz.prog 167 #[v, .int .i64 i, .slice (some ⟨vb, 0, none⟩) 1 1] w (InsPostPan base n w v (zs.take (i * 4) ++ news ++ zs.drop (i * 4))) := by
 have hzl : zs.length = n * 4 := by simpa using hown.1
 rcases Nat.lt_or_ge i n with hlt | hge
 ·obtain ⟨g, cap, cur, rfl, hbg, hh, hnc, hcm, hcs, ht, _⟩ := ownsRow_open hown (by omega)
  have hne' : vb ≠ g := fun e => hne (by rw [e]; rfl)
  rcases Nat.lt_or_ge n cap with hr | hr
  ·exact InsertPan_shift base n i vb g cap tA cur zs news w hlt (by omega) hcm hbg hh hcs ht hnl hv hne'
  ·exact InsertPan_grow base n i vb g cap tA cur zs news w hlt hn hnc (by omega) hbase hbg hh hcs ht hnl hv
 ·obtain rfl : i = n := by omega
  rw [List.take_of_length_le (by omega), List.drop_of_length_le (by omega), List.append_nil]
  exact InsertPan_end base i vb tA v zs news w hown hn hbase hnl hv
theorem step_append_runW {P : Program} {ops : Array Oper} {o : Oper} {a : Act} {w : World} {K : Act → World → Prop} {Q : Exit → Act → World → Prop} {E : Prop}
  (hg : o.guard = none) (d x : Operand) (t : TypeId) (hop : o.op = Op.call { callee := Callee.builtin Builtin.append, args := #[d, x], argTypes := #[t, t] })
  (v u : Value) (hd : a.eval d = v) (hx : a.eval x = u) {v' : Value} {w' : World} (hr : (Builtin.append_ #[t, t] o.type #[v, u]).run P w = .ok v' w') (hK : K (a.put o.dst v') w') :
  if Region.wanted o (yielded ops a.tmps) = true then Oper.wp P o a w K Q else E := by
 exact z224
theorem run_clear_one {P : Program} (w : World) (t ty e : TypeId) (z : Value) (ht : P.underlying t = some (.slice e)) (hz : ∀ w, (zeroValue e).run P w = .ok z w) (g o c : Nat) (cur : Array Value) (T : TypeId)
  (hg : w.heap[g]? = some (.cells cur T (0, 0))) (hfit : o + z.cells.size ≤ cur.size) (h1 : ∀ v ∈ z.cells.toList, v.oneCell' = true) :
  (Builtin.clear_ #[t] ty #[.slice (some ⟨g, o, none⟩) 1 c]).run P w = .ok (.tuple #[]) (w.setRow g (cur.toList.take o ++ z.cells.toList ++ cur.toList.drop (o + z.cells.toList.length)).toArray) := by
 have hzc : (Builtin.zeroCells z.cells 1).toList = z.cells.toList := by
  apply List.ext_getElem
  ·simp [Builtin.zeroCells]
  ·intro j h2 h3
   have h4 : j < z.cells.size := by simpa using h3
   simp [Builtin.zeroCells, Nat.mod_eq_of_lt h4, getElem!_pos z.cells j h4]
 have hst := run_storeCells_at (P := P) g o T z.cells.toList 0 cur w hg (by simpa using hfit) h1
 simp only [Nat.add_zero] at hst
 simp [Builtin.clear_, run_underlying ht, hz, hzc, hst]
def DelPostPan (base n : Nat) (w : World) (v : Value) (ls : List Int) (e : Ending) (w' : World) : Prop :=
 ∃ v', e = .returned v' ∧ w'.ownsRow base 97 4 v' (n - 1) (ls.map (Value.int .i64)) ∧ w.grownBy w' v.ownBlock
theorem DeletePan_any (base n i q : Nat) (v : Value) (zs : List Int) (w : World) (hown : w.ownsRow base 97 4 v n (zs.map (Value.int .i64))) (hi : i < n) (hn : n ≤ 1000) (hq : q = i + 1) :
  Calls Tryz.prog 168 #[v, .int .i64 i, .int .i64 q] w (DelPostPan base n w v (zs.take (i * 4) ++ zs.drop (q * 4))) := by
 have hzl : zs.length = n * 4 := by simpa using hown.1
 rcases hown.2 with ⟨rfl, h0⟩ | ⟨g, cap, cur, rfl, hbg, hh, hnc, hcm, hcs, htake⟩
 ·exfalso; omega
 have mixed : Tryz.prog.follows .mixedOrders = true := by kernel_rfl
 obtain ⟨i0, hi0, hz0, hz1, hz2⟩ := info_parts infoKPan
 have hcl : cur.toList.length = cap * 4 := by simpa using hcs
 obtain ⟨cs, hcsd⟩ : ∃ cs, cs = zs.map (Value.int .i64) := ⟨_, rfl⟩
 have hl2 : cs.length = n * 4 := by rw [hcsd]; simpa using hzl
 have h1c : ∀ v ∈ cs, v.oneCell' = true := fun v hv => by rw [hcsd] at hv; obtain ⟨q, _, rfl⟩ := List.mem_map.1 hv; rfl
 rw [← hcsd] at htake
 refine z226 ?_
 intro hcell
 obtain ⟨news, hnews⟩ : ∃ news, news = cs.drop (q * 4) := ⟨_, rfl⟩
 have hnl : news.length = (n - q) * 4 := by rw [hnews, List.length_drop, hl2]; omega
 have h1n : ∀ v ∈ news, v.oneCell' = true := fun v hv => h1c v (List.mem_of_mem_drop (by rw [← hnews]; exact hv))
 have hcellN : ∀ j u, news[j]? = some u → cE w g (q * 4 + j) u := fun j u hj => by
  rw [hnews, List.getElem?_drop] at hj
  exact hcell _ _ hj
 obtain ⟨C1, hC1⟩ : ∃ C1 : Array Value, C1 = (cur.toList.take (i * 4) ++ news ++ cur.toList.drop (i * 4 + news.length)).toArray := ⟨_, rfl⟩
 have hC1s : C1.size = cap * 4 := by rw [hC1]; simp only [List.size_toArray, List.length_append, List.length_take, List.length_drop, hnl, hcl]; omega
 obtain ⟨C2, hC2⟩ : ∃ C2 : Array Value, C2 = (C1.toList.take ((n - 1) * 4) ++ [Value.int .i64 0, Value.int .i64 0, Value.int .i64 0, Value.int .i64 0] ++ C1.toList.drop ((n - 1) * 4 + 4)).toArray := ⟨_, rfl⟩
 have hC2s : C2.size = cap * 4 := by rw [hC2]; simp only [List.size_toArray, List.length_append, List.length_take, List.length_drop, Array.length_toList, hC1s, List.length_cons, List.length_nil]; omega
 have hfin : C2.toList.take ((n - 1) * 4) = (zs.take (i * 4) ++ zs.drop (q * 4)).map (Value.int .i64) := by
  rw [hC2, List.map_append, List.map_take, List.map_drop, ← hcsd, ← hnews, List.toList_toArray, List.append_assoc, List.take_append_of_le_length (by rw [List.length_take, Array.length_toList, hC1s]; omega), List.take_take, Nat.min_self, hC1, List.toList_toArray]
  rw [List.take_append_of_le_length (by rw [List.length_append, List.length_take, hnl, hcl]; omega), List.take_of_length_le (by rw [List.length_append, List.length_take, hnl, hcl]; omega)]
  congr 1
  rw [← htake, List.take_take]
  congr 1
  omega
 have HPO : Hid (∀ W : World, w.grownBy W (some g) → W.heap[g]? = some (.cells C2 97 (0, 0)) → DelPostPan base n w (.slice (some ⟨g, 0, none⟩) n cap) (zs.take (i * 4) ++ zs.drop (q * 4)) (.returned (.slice (some ⟨g, 0, none⟩) (n - 1) cap)) W) := fun W hg hW => by
  refine ⟨_, rfl, ⟨?_, .inr ⟨g, cap, C2, rfl, hbg, hW, by omega, hcm, hC2s, hfin⟩⟩, hg⟩
  simp only [List.length_map, List.length_append, List.length_take, List.length_drop, hzl]; omega
 have hzv : ∀ w, (zeroValue 97).run Tryz.prog w = .ok (.agg (iV 0 0 0 0)) w := fun w => by simp [zeroValue, typeInfo, hi0, hz0]
 have HCL : Hid (∀ W : World, W.heap[g]? = some (.cells C1 97 (0, 0)) → ∀ ty c, (Builtin.clear_ #[30] ty #[.slice (some ⟨g, (n - 1) * 4, none⟩) 1 c]).run Tryz.prog W = .ok (.tuple #[]) (W.setRow g C2)) := fun W hW ty c => by
  have h := run_clear_one (P := Tryz.prog) W 30 ty 97 (.agg (iV 0 0 0 0)) Tryz.underlying30 hzv g ((n - 1) * 4) c C1 97 hW (by rw [hC1s]; show _ + 4 ≤ _; omega) (by intro v hv; simp [Value.cells] at hv; rw [hv]; rfl)
  rw [h, hC2]
  try rfl
 unfold maxLen at hcm
 have hcap63 : (cap : Int) ≤ 9223372036854775807 := by omega
 have hq0 : (0 : Int) ≤ (q : Int) := by omega
 have hi0' : (0 : Int) ≤ (i : Int) := by omega
 have hiq : (i : Int) ≤ (q : Int) := by omega
 have hiqn : i ≤ q := by omega
 have hqn : (q : Int) ≤ (n : Int) := by omega
 have hqnn : q ≤ n := by omega
 have hncI : (n : Int) ≤ (cap : Int) := by omega
 have hqc : (q : Int) ≤ (cap : Int) := by omega
 have hqcn : q ≤ cap := by omega
 have hic : (i : Int) ≤ (cap : Int) := by omega
 have hicn : i ≤ cap := by omega
 have hine : ¬ ((i : Int) = (q : Int)) := by omega
 have hneb : ((i : Int) == (q : Int)) = false := by simp [hine]
 have hn1 : ((n - 1 : Nat) : Int) ≤ (n : Int) := by omega
 have hn10 : (0 : Int) ≤ ((n - 1 : Nat) : Int) := by omega
 have hn1n : n - 1 ≤ n := by omega
 have hcn1 : ¬ cap = n - 1 := by omega
 have hd1 : n - (n - 1) = 1 := by omega
 clear hfin hC2 hC2s hC1s hcell htake hcl hl2 h1c hcsd hzl hown hzv hnews
 have hqa : q ≤ i + 1 := by omega
 have hqb : i + 1 ≤ q := by omega
 clear hq
 by_cases hck : cap = q
 ·have hnq : n - q = 0 := by omega
  have hcellA : ∀ j u, news[j]? = some u → w.cell? ((⟨g, 0, none⟩ : Addr).add j) = some u := fun j u hj => by
   have : news = [] := List.eq_nil_of_length_eq_zero (by rw [hnl, hnq]; all_goals simp)
   rw [this] at hj; simp at hj
  clear hcellN
  subst hck
  have hnq' : n ≤ cap := by omega
  have hnq2 : cap ≤ n := by omega
  have happ : ∀ (W : World), W.heap[g]? = some (.cells cur 97 (0, 0)) → (∀ j u, news[j]? = some u → W.cell? ((⟨g, 0, none⟩ : Addr).add j) = some u) → ∀ ty, (Builtin.append_ #[30, 30] ty #[.slice (some ⟨g, 0, none⟩) i cap, .slice (some ⟨g, 0, none⟩) (0) (0)]).run Tryz.prog W = .ok (.slice (some ⟨g, 0, none⟩) (n - 1) cap) (W.setRow g C1) := by
   intro W hW hn ty
   have h := run_append_room (P := Tryz.prog) W 30 ty 97 i0 Tryz.underlying30 hi0 g i cap cur hW ⟨g, 0, none⟩ (0) (0) news (by rw [hz1, hnl]; all_goals omega) hn h1n (by omega) (by rw [hz1, hcs, hnl]; omega)
   rw [hz1, ← hC1] at h
   rw [h]
   congr 2
   first | rfl | (congr 1; omega) | omega
  exact z229
 ·have hcellA : ∀ j u, news[j]? = some u → w.cell? ((⟨g, q * 4, none⟩ : Addr).add j) = some u := fun j u hj => by rw [Addr.add_lit]; exact hcellN j u hj
  clear hcellN
  have happ : ∀ (W : World), W.heap[g]? = some (.cells cur 97 (0, 0)) → (∀ j u, news[j]? = some u → W.cell? ((⟨g, q * 4, none⟩ : Addr).add j) = some u) → ∀ ty, (Builtin.append_ #[30, 30] ty #[.slice (some ⟨g, 0, none⟩) i cap, .slice (some ⟨g, q * 4, none⟩) (n - q) (cap - q)]).run Tryz.prog W = .ok (.slice (some ⟨g, 0, none⟩) (n - 1) cap) (W.setRow g C1) := by
   intro W hW hn ty
   have h := run_append_room (P := Tryz.prog) W 30 ty 97 i0 Tryz.underlying30 hi0 g i cap cur hW ⟨g, q * 4, none⟩ (n - q) (cap - q) news (by rw [hz1, hnl]; all_goals omega) hn h1n (by omega) (by rw [hz1, hcs, hnl]; omega)
   rw [hz1, ← hC1] at h
   rw [h]
   congr 2
   first | rfl | (congr 1; omega) | omega
  exact z229
end Go.Proofs.YtpndjhelpoenpaaGreatDoor
