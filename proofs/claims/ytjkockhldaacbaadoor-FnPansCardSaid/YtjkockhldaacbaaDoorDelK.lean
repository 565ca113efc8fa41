/-
  slices.Delete of one Pan: the row without the element at its place; a row of the call's own.
-/
import Derived.Test.YtjkockhldaacbaaDoorInsK
import Derived.Lib.Hide
namespace Go.Proofs.YtjkockhldaacbaaDoor
open Go.RowKit
set_option linter.unusedVariables false
set_option linter.unusedSimpArgs false
theorem step_append_runW {P : Program} {ops : Array Oper} {o : Oper} {a : Act} {w : World} {K : Act → World → Prop} {Q : Exit → Act → World → Prop} {E : Prop}
    (hg : o.guard = none) (d x : Operand) (t : TypeId) (hop : o.op = Op.call { callee := Callee.builtin Builtin.append, args := #[d, x], argTypes := #[t, t] })
    (v u : Value) (hd : a.eval d = v) (hx : a.eval x = u) {v' : Value} {w' : World} (hr : (Builtin.append_ #[t, t] o.type #[v, u]).run P w = .ok v' w') (hK : K (a.put o.dst v') w') :
    if Region.wanted o (yielded ops a.tmps) = true then Oper.wp P o a w K Q else E := by
  have hw : Region.wanted o (yielded ops a.tmps) = true := by simp [Region.wanted, hg]
  rw [if_pos hw]
  unfold Oper.wp
  simp [execOp, hop, resolve, invoke, builtin, hd, hx, hr, Result.andThen]
  exact hK
theorem wpList_clear_runW {P : Program} (w : World) {ops : Array Oper} {rest : List Oper} {o : Oper} {a : Act} {Q : Exit → Act → World → Prop} (hgd : o.guard = none) (d : Operand) (t : TypeId)
    (ho : o.op = .call { callee := .builtin .clear, args := #[d], argTypes := #[t] }) (v : Value) (hd : a.eval d = v) {v' : Value} {w' : World}
    (hr : (Builtin.clear_ #[t] o.type #[v]).run P w = .ok v' w') (h : wpList P ops Q rest (a.put o.dst v') w') : wpList P ops Q (o :: rest) a w :=
  wpList_plain hgd fun _ hK => by
    unfold Oper.wp execOp
    simp only [ho, resolve, invoke, builtin, Sem.run_bind, Sem.run_pure, Result.andThen_ok, List.map_toArray, List.map_cons, List.map_nil, hd, hr]
    exact hK _ _ h
/-- 'clear' of one element of the row in block g. -/
theorem run_clear_one {P : Program} (w : World) (t ty e : TypeId) (z : Value) (ht : P.underlying t = some (.slice e)) (hz : ∀ w, (zeroValue e).run P w = .ok z w) (g o c : Nat) (cur : Array Value) (T : TypeId)
    (hg : w.heap[g]? = some (.cells cur T (0, 0))) (hfit : o + z.cells.size ≤ cur.size) (h1 : ∀ v ∈ z.cells.toList, v.oneCell' = true) :
    (Builtin.clear_ #[t] ty #[.slice (some ⟨g, o, none⟩) 1 c]).run P w = .ok (.tuple #[]) (w.setRow g (cur.toList.take o ++ z.cells.toList ++ cur.toList.drop (o + z.cells.toList.length)).toArray) := by
  have hzc : (Builtin.zeroCells z.cells 1).toList = z.cells.toList := by
    apply List.ext_getElem
    · simp [Builtin.zeroCells]
    · intro j h2 h3
      have h4 : j < z.cells.size := by simpa using h3
      simp [Builtin.zeroCells, Nat.mod_eq_of_lt h4, getElem!_pos z.cells j h4]
  have hst := run_storeCells_at (P := P) g o T z.cells.toList 0 cur w hg (by simpa using hfit) h1
  simp only [Nat.add_zero] at hst
  simp [Builtin.clear_, run_underlying ht, hz, hzc, hst]
/-- What the call leaves: an own row of one element less, the cells ls. -/
def DelPostPan (base n : Nat) (w : World) (v : Value) (ls : List Int) (e : Ending) (w' : World) : Prop :=
  ∃ v', e = .returned v' ∧ w'.ownsRow base 48 4 v' (n - 1) (ls.map (Value.int .i64)) ∧ w.grownBy w' v.ownBlock
set_option maxRecDepth 100000 in
set_option maxHeartbeats 4000000 in
theorem DeletePan_any (base n i q : Nat) (v : Value) (zs : List Int) (w : World) (hown : w.ownsRow base 48 4 v n (zs.map (Value.int .i64))) (hi : i < n) (hn : n ≤ 1000) (hq : q = i + 1) :
    Calls Tryd.prog 58 #[v, .int .i64 i, .int .i64 q] w (DelPostPan base n w v (zs.take (i * 4) ++ zs.drop (q * 4))) := by
  have hzl : zs.length = n * 4 := by simpa using hown.1
  rcases hown.2 with ⟨rfl, h0⟩ | ⟨g, cap, cur, rfl, hbg, hh, hnc, hcm, hcs, htake⟩
  · exfalso; omega
  have mixed : Tryd.prog.follows .mixedOrders = true := by kernel_rfl
  obtain ⟨i0, hi0, hz0, hz1, hz2⟩ := info_parts infoKPan
  have hcl : cur.toList.length = cap * 4 := by simpa using hcs
  obtain ⟨cs, hcsd⟩ : ∃ cs, cs = zs.map (Value.int .i64) := ⟨_, rfl⟩
  have hl2 : cs.length = n * 4 := by rw [hcsd]; simpa using hzl
  have h1c : ∀ v ∈ cs, v.oneCell' = true := fun v hv => by rw [hcsd] at hv; obtain ⟨q, _, rfl⟩ := List.mem_map.1 hv; rfl
  rw [← hcsd] at htake
  have hcell : ∀ j v, cs[j]? = some v → w.cell? ⟨g, j, none⟩ = some v := fun j v hj => by
    rw [cell_of_row w g j cur _ (0, 0) hh]
    rw [← htake, List.getElem?_take] at hj
    split at hj
    · simpa using hj
    · cases hj
  obtain ⟨news, hnews⟩ : ∃ news, news = cs.drop (q * 4) := ⟨_, rfl⟩
  have hnl : news.length = (n - q) * 4 := by rw [hnews, List.length_drop, hl2]; omega
  have h1n : ∀ v ∈ news, v.oneCell' = true := fun v hv => h1c v (List.mem_of_mem_drop (by rw [← hnews]; exact hv))
  have hcellN : ∀ j u, news[j]? = some u → w.cell? ⟨g, q * 4 + j, none⟩ = some u := fun j u hj => by
    rw [hnews, List.getElem?_drop] at hj
    exact hcell _ _ hj
  obtain ⟨C1, hC1⟩ : ∃ C1 : Array Value, C1 = (cur.toList.take (i * 4) ++ news ++ cur.toList.drop (i * 4 + news.length)).toArray := ⟨_, rfl⟩
  have hC1s : C1.size = cap * 4 := by rw [hC1]; simp only [List.size_toArray, List.length_append, List.length_take, List.length_drop, hnl, hcl]; omega
  obtain ⟨C2, hC2⟩ : ∃ C2 : Array Value, C2 = (C1.toList.take ((n - 1) * 4) ++ [Value.int .i64 0, Value.int .i64 0, Value.int .i64 0, Value.int .i64 0] ++ C1.toList.drop ((n - 1) * 4 + 4)).toArray := ⟨_, rfl⟩
  have hC2s : C2.size = cap * 4 := by rw [hC2]; simp only [List.size_toArray, List.length_append, List.length_take, List.length_drop, Array.length_toList, hC1s, List.length_cons, List.length_nil]; omega
  have hfin : C2.toList.take ((n - 1) * 4) = (zs.take (i * 4) ++ zs.drop (q * 4)).map (Value.int .i64) := by
    rw [hC2, List.map_append, List.map_take, List.map_drop, ← hcsd, ← hnews, List.toList_toArray, List.append_assoc, List.take_append_of_le_length (by rw [List.length_take, Array.length_toList, hC1s]; omega), List.take_take, Nat.min_self, hC1, List.toList_toArray]
    rw [List.take_append_of_le_length (by rw [List.length_append, List.length_take, hnl, hcl]; omega), List.take_of_length_le (by rw [List.length_append, List.length_take, hnl, hcl]; omega)]
    congr 1
    rw [← htake, List.take_take]
    congr 1
    omega
  have HPO : Hid (∀ W : World, w.grownBy W (some g) → W.heap[g]? = some (.cells C2 48 (0, 0)) → DelPostPan base n w (.slice (some ⟨g, 0, none⟩) n cap) (zs.take (i * 4) ++ zs.drop (q * 4)) (.returned (.slice (some ⟨g, 0, none⟩) (n - 1) cap)) W) := fun W hg hW => by
    refine ⟨_, rfl, ⟨?_, .inr ⟨g, cap, C2, rfl, hbg, hW, by omega, hcm, hC2s, hfin⟩⟩, hg⟩
    simp only [List.length_map, List.length_append, List.length_take, List.length_drop, hzl]; omega
  have hzv : ∀ w, (zeroValue 48).run Tryd.prog w = .ok (.agg #[.int .i64 0, .int .i64 0, .int .i64 0, .int .i64 0]) w := fun w => by simp [zeroValue, typeInfo, hi0, hz0]
  have HCL : Hid (∀ W : World, W.heap[g]? = some (.cells C1 48 (0, 0)) → ∀ ty c, (Builtin.clear_ #[24] ty #[.slice (some ⟨g, (n - 1) * 4, none⟩) 1 c]).run Tryd.prog W = .ok (.tuple #[]) (W.setRow g C2)) := fun W hW ty c => by
    have h := run_clear_one (P := Tryd.prog) W 24 ty 48 (.agg #[.int .i64 0, .int .i64 0, .int .i64 0, .int .i64 0]) Tryd.underlying24 hzv g ((n - 1) * 4) c C1 48 hW (by rw [hC1s]; show _ + 4 ≤ _; omega) (by intro v hv; simp [Value.cells] at hv; rw [hv]; rfl)
    rw [h, hC2]
    try rfl
  unfold maxLen at hcm
  have hcap63 : (cap : Int) ≤ 9223372036854775807 := by omega
  have hq0 : (0 : Int) ≤ (q : Int) := by omega
  have hi0' : (0 : Int) ≤ (i : Int) := by omega
  have hiq : (i : Int) ≤ (q : Int) := by omega
  have hiqn : i ≤ q := by omega
  have hqn : (q : Int) ≤ (n : Int) := by omega
  have hqnn : q ≤ n := by omega
  have hncI : (n : Int) ≤ (cap : Int) := by omega
  have hqc : (q : Int) ≤ (cap : Int) := by omega
  have hqcn : q ≤ cap := by omega
  have hic : (i : Int) ≤ (cap : Int) := by omega
  have hicn : i ≤ cap := by omega
  have hine : ¬ ((i : Int) = (q : Int)) := by omega
  have hneb : ((i : Int) == (q : Int)) = false := by simp [hine]
  have hn1 : ((n - 1 : Nat) : Int) ≤ (n : Int) := by omega
  have hn10 : (0 : Int) ≤ ((n - 1 : Nat) : Int) := by omega
  have hn1n : n - 1 ≤ n := by omega
  have hcn1 : ¬ cap = n - 1 := by omega
  have hd1 : n - (n - 1) = 1 := by omega
  clear hfin hC2 hC2s hC1s hcell htake hcl hl2 h1c hcsd hzl hown hzv hnews
  have hqa : q ≤ i + 1 := by omega
  have hqb : i + 1 ≤ q := by omega
  clear hq
  by_cases hck : cap = q
  · have hnq : n - q = 0 := by omega
    have hcellA : ∀ j u, news[j]? = some u → w.cell? ((⟨g, 0, none⟩ : Addr).add j) = some u := fun j u hj => by
      have : news = [] := List.eq_nil_of_length_eq_zero (by rw [hnl, hnq]; all_goals simp)
      rw [this] at hj; simp at hj
    clear hcellN
    subst hck
    have hnq' : n ≤ cap := by omega
    have hnq2 : cap ≤ n := by omega
    have happ : ∀ (W : World), W.heap[g]? = some (.cells cur 48 (0, 0)) → (∀ j u, news[j]? = some u → W.cell? ((⟨g, 0, none⟩ : Addr).add j) = some u) → ∀ ty, (Builtin.append_ #[24, 24] ty #[.slice (some ⟨g, 0, none⟩) i cap, .slice (some ⟨g, 0, none⟩) (0) (0)]).run Tryd.prog W = .ok (.slice (some ⟨g, 0, none⟩) (n - 1) cap) (W.setRow g C1) := by
      intro W hW hn ty
      have h := run_append_room (P := Tryd.prog) W 24 ty 48 i0 Tryd.underlying24 hi0 g i cap cur hW ⟨g, 0, none⟩ (0) (0) news (by rw [hz1, hnl]; all_goals omega) hn h1n (by omega) (by rw [hz1, hcs, hnl]; omega)
      rw [hz1, ← hC1] at h
      rw [h]
      congr 2
      first | rfl | (congr 1; omega) | omega
    have happX := happ w.drew hh (fun j u hj => hcellA j u hj)
    clear happ hcellA h1n hnl hz1 hi0 hC1
    have HH := Lib.hid hh
    clear hh hcs
    go_enter Tryd.func58, Tryd.ntmps58
    go_wp2_with fail
    go_region_law_o (refine step_append_runW rfl _ _ 24 rfl _ _ (by simp [Act.eval, Act.put]) (by simp [Act.eval, Act.put]) (happX _) ?_)
    have hclx := HCL.out (w.drew.setRow g C1) (setRow_heap w.drew g cur C1 _ _ HH.out)
    go_wp2
    go_ret
    refine HPO.out _ ?_ ?_
    · exact growI_trans (setRow_drew_grown w g C1) (setRow_grown _ g C2)
    · exact setRow_heap _ g C1 C2 _ _ (setRow_heap w.drew g cur C1 _ _ HH.out)
  · have hcellA : ∀ j u, news[j]? = some u → w.cell? ((⟨g, q * 4, none⟩ : Addr).add j) = some u := fun j u hj => by rw [Addr.add_lit]; exact hcellN j u hj
    clear hcellN
    have happ : ∀ (W : World), W.heap[g]? = some (.cells cur 48 (0, 0)) → (∀ j u, news[j]? = some u → W.cell? ((⟨g, q * 4, none⟩ : Addr).add j) = some u) → ∀ ty, (Builtin.append_ #[24, 24] ty #[.slice (some ⟨g, 0, none⟩) i cap, .slice (some ⟨g, q * 4, none⟩) (n - q) (cap - q)]).run Tryd.prog W = .ok (.slice (some ⟨g, 0, none⟩) (n - 1) cap) (W.setRow g C1) := by
      intro W hW hn ty
      have h := run_append_room (P := Tryd.prog) W 24 ty 48 i0 Tryd.underlying24 hi0 g i cap cur hW ⟨g, q * 4, none⟩ (n - q) (cap - q) news (by rw [hz1, hnl]; all_goals omega) hn h1n (by omega) (by rw [hz1, hcs, hnl]; omega)
      rw [hz1, ← hC1] at h
      rw [h]
      congr 2
      first | rfl | (congr 1; omega) | omega
    have happX := happ w.drew hh (fun j u hj => hcellA j u hj)
    clear happ hcellA h1n hnl hz1 hi0 hC1
    have HH := Lib.hid hh
    clear hh hcs
    go_enter Tryd.func58, Tryd.ntmps58
    go_wp2_with fail
    go_region_law_o (refine step_append_runW rfl _ _ 24 rfl _ _ (by simp [Act.eval, Act.put]) (by simp [Act.eval, Act.put]) (happX _) ?_)
    have hclx := HCL.out (w.drew.setRow g C1) (setRow_heap w.drew g cur C1 _ _ HH.out)
    go_wp2
    go_ret
    refine HPO.out _ ?_ ?_
    · exact growI_trans (setRow_drew_grown w g C1) (setRow_grown _ g C2)
    · exact setRow_heap _ g C1 C2 _ _ (setRow_heap w.drew g cur C1 _ _ HH.out)
end Go.Proofs.YtjkockhldaacbaaDoor
