/-
  A slice of pairs of ints that the call itself makes (each pair a row of two ints in a block of its own): made, appended to, written.
-/
import Derived.Test.YtcecpioiagfoiaaDoorApp
import Derived.Deep.RegionLaw
namespace Go.Proofs.YtcecpioiagfoiaaDoor
open Go.RowKit
set_option linter.unusedVariables false
set_option linter.unusedSimpArgs false

theorem infoIntS : (Tryd.prog.info? 37).map (fun i => (i.zero, i.size, i.bytes)) = some (some (.slice none 0 0), 1, 24) := by kernel_rfl
def cellOf (x : Nat × Int × Int) : Value := .slice (some ⟨x.1, 0, none⟩) 2 2
/-- v is a row of the call's own (from block lo on) whose cells are slices of two ints; the pairs are L; their blocks lie from lo on, below hi, all apart. -/
def PRs (w : World) (lo hi : Nat) (v : Value) (L : List (Int × Int)) : Prop :=
  ∃ l : List (Nat × Int × Int), l.map (·.2) = L ∧ w.ownsRow lo 37 1 v l.length (l.map cellOf) ∧ (∀ x ∈ l, lo ≤ x.1 ∧ x.1 < hi ∧ w.heap[x.1]? = some (.cells #[.int .i64 x.2.1, .int .i64 x.2.2] 3 (0, 0))) ∧ (l.map (·.1)).Nodup
theorem PRs.nil (w : World) (lo hi : Nat) : PRs w lo hi (.slice none 0 0) [] := ⟨[], rfl, World.ownsRow_nil _ _ _ _, by simp, by simp⟩
theorem PRs.made (w : World) (lo hi : Nat) (h : lo ≤ w.heap.size) : PRs (w.alloc (.cells #[] 37)) lo hi (.slice (some ⟨w.heap.size, 0, none⟩) 0 0) [] :=
  ⟨[], rfl, World.ownsRow_made w #[] 0 h (by unfold maxLen; omega) rfl, by simp, by simp⟩
theorem PRs.hi {w : World} {lo hi hi' : Nat} {v : Value} {L : List (Int × Int)} (h : PRs w lo hi v L) (hh : hi ≤ hi') : PRs w lo hi' v L := by
  obtain ⟨l, h1, h2, h3, h4⟩ := h
  exact ⟨l, h1, h2, fun x hx => ⟨(h3 x hx).1, Nat.lt_of_lt_of_le (h3 x hx).2.1 hh, (h3 x hx).2.2⟩, h4⟩
theorem PRs.below {w w' : World} {lo hi : Nat} {v : Value} {L : List (Int × Int)} (h : PRs w lo hi v L) (hb : Below w.heap.size w w') : PRs w' lo hi v L := by
  obtain ⟨l, h1, h2, h3, h4⟩ := h
  exact ⟨l, h1, ownsRow_below h2 hb, fun x hx => ⟨(h3 x hx).1, (h3 x hx).2.1, (hb.block _ (Array.getElem?_eq_some_iff.1 (h3 x hx).2.2).1).trans (h3 x hx).2.2⟩, h4⟩
theorem own_ne {w : World} {lo n k : Nat} {v : Value} {xs : List Value} {cur : Array Value} (hown : w.ownsRow lo 37 1 v n xs) (h : w.heap[k]? = some (.cells cur 3 (0, 0))) : some k ≠ v.ownBlock := by
  intro he
  rcases hown.2 with ⟨rfl, _⟩ | ⟨G, cap, cur', rfl, _, hG, _⟩
  · simp [Value.ownBlock] at he
  · simp [Value.ownBlock] at he
    subst he
    rw [h] at hG
    simp at hG
theorem PRs.app {W w w' : World} {v : Value} {hi : Nat} {L : List (Int × Int)} (h : Below W.heap.size W w) (hown : PRs w W.heap.size hi v L) (hg : w.grownBy w' v.ownBlock) : Below W.heap.size W w' := by
  obtain ⟨l, _, h2, _⟩ := hown
  exact below_app h h2 hg

theorem run_append_pair (w : World) (t ty : TypeId) (lo hi : Nat) (ht : Tryd.prog.underlying t = some (.slice 37))
    (v : Value) (L : List (Int × Int)) (H : PRs w lo hi v L) (g : Nat) (p q : Int) (hgh : hi ≤ g) (hgl : lo ≤ g) (hgc : w.heap[g]? = some (.cells #[.int .i64 p, .int .i64 q] 3 (0, 0)))
    (b : Nat) (hc : w.cell? ⟨b, 0, none⟩ = some (.slice (some ⟨g, 0, none⟩) 2 2)) (hlen : L.length ≤ 100000000) (hbase : lo ≤ w.heap.size) :
    ∃ v' w', (Builtin.append_ #[t, t] ty #[v, .slice (some ⟨b, 0, none⟩) 1 1]).run Tryd.prog w = .ok v' w' ∧ PRs w' lo w'.heap.size v' (L ++ [(p, q)]) ∧ w.grownBy w' v.ownBlock := by
  obtain ⟨l, rfl, hown, hrow, hnd⟩ := H
  simp only [List.length_map] at hlen
  obtain ⟨i, hi0, hz0, hz1, hz2⟩ := info_parts infoIntS
  obtain ⟨v', w', hr, hown', hgrow, _⟩ := run_append_own (P := Tryd.prog) w lo t ty 37 i (.slice none 0 0) 1 24 ht hi0 hz0 hz1 hz2 rfl (by decide) v l.length (l.map cellOf) hown ⟨b, 0, none⟩ 1 1 [cellOf (g, p, q)] rfl
    (fun j u hj => by
      match j, hj with
      | 0, hj => simp at hj; subst hj; simpa [Addr.add, cellOf] using hc) (fun u hu => by simp at hu; subst hu; rfl) (by unfold maxLen; omega) (by omega) hbase
  refine ⟨v', w', hr, ⟨l ++ [(g, p, q)], by simp, by simpa using hown', fun x hx => ?_, ?_⟩, hgrow⟩
  · rcases List.mem_append.1 hx with hx | hx
    · obtain ⟨h1, h2, h3⟩ := hrow x hx
      have hlt := (Array.getElem?_eq_some_iff.1 h3).1
      exact ⟨h1, Nat.lt_of_lt_of_le hlt hgrow.size, (hgrow.block _ hlt (own_ne hown h3)).trans h3⟩
    · simp at hx
      subst hx
      have hlt := (Array.getElem?_eq_some_iff.1 hgc).1
      exact ⟨hgl, Nat.lt_of_lt_of_le hlt hgrow.size, (hgrow.block _ hlt (own_ne hown hgc)).trans hgc⟩
  · rw [List.map_append, List.nodup_append]
    refine ⟨hnd, by simp, fun y hy z hz => ?_⟩
    simp at hz
    subst hz
    obtain ⟨x, hx, rfl⟩ := List.mem_map.1 hy
    have := (hrow x hx).2.1
    omega
theorem wp_append_pair (w : World) {o : Oper} {a : Act} {K : Act → World → Prop} {Q : Exit → Act → World → Prop} (s x : Operand) (t : TypeId)
    (ho : o.op = .call { callee := .builtin .append, args := #[s, x], argTypes := #[t, t] }) (lo hi : Nat) (ht : Tryd.prog.underlying t = some (.slice 37))
    (v : Value) (L : List (Int × Int)) (hs : a.eval s = v) (H : PRs w lo hi v L) (g : Nat) (p q : Int) (hgh : hi ≤ g) (hgl : lo ≤ g) (hgc : w.heap[g]? = some (.cells #[.int .i64 p, .int .i64 q] 3 (0, 0)))
    (b : Nat) (hx : a.eval x = .slice (some ⟨b, 0, none⟩) 1 1) (hc : w.cell? ⟨b, 0, none⟩ = some (.slice (some ⟨g, 0, none⟩) 2 2)) (hlen : L.length ≤ 100000000) (hbase : lo ≤ w.heap.size)
    (h : ∀ v' w', PRs w' lo w'.heap.size v' (L ++ [(p, q)]) → w.grownBy w' v.ownBlock → K (a.put o.dst v') w') : o.wp Tryd.prog a w K Q := by
  obtain ⟨v', w', hr, h1, h2⟩ := run_append_pair w t o.type lo hi ht v L H g p q hgh hgl hgc b hc hlen hbase
  unfold Oper.wp execOp
  simp only [ho, resolve, invoke, builtin, Sem.run_bind, Sem.run_pure, Result.andThen_ok, List.map_toArray, List.map_cons, List.map_nil, hs, hx, hr]
  exact h v' w' h1 h2
/-- At a step of a region that draws its order. -/
theorem step_append_pair (w : World) {ops : Array Oper} {o : Oper} {a : Act} {K : Act → World → Prop} {Q : Exit → Act → World → Prop} {E : Prop} (hgd : o.guard = none) (s x : Operand) (t : TypeId)
    (ho : o.op = .call { callee := .builtin .append, args := #[s, x], argTypes := #[t, t] }) (lo hi : Nat) (ht : Tryd.prog.underlying t = some (.slice 37))
    (v : Value) (L : List (Int × Int)) (hs : a.eval s = v) (H : PRs w lo hi v L) (g : Nat) (p q : Int) (hgh : hi ≤ g) (hgl : lo ≤ g) (hgc : w.heap[g]? = some (.cells #[.int .i64 p, .int .i64 q] 3 (0, 0)))
    (b : Nat) (hx : a.eval x = .slice (some ⟨b, 0, none⟩) 1 1) (hc : w.cell? ⟨b, 0, none⟩ = some (.slice (some ⟨g, 0, none⟩) 2 2)) (hlen : L.length ≤ 100000000) (hbase : lo ≤ w.heap.size)
    (h : ∀ v' w', PRs w' lo w'.heap.size v' (L ++ [(p, q)]) → w.grownBy w' v.ownBlock → K (a.put o.dst v') w') :
    if Region.wanted o (yielded ops a.tmps) = true then Oper.wp Tryd.prog o a w K Q else E := by
  have hw : Region.wanted o (yielded ops a.tmps) = true := by simp [Region.wanted, hgd]
  rw [if_pos hw]
  exact wp_append_pair w s x t ho lo hi ht v L hs H g p q hgh hgl hgc b hx hc hlen hbase h
theorem wpList_append_pair {ops : Array Oper} {rest : List Oper} {o : Oper} {a : Act} {Q : Exit → Act → World → Prop} (w : World) (hgd : o.guard = none) (s x : Operand) (t : TypeId)
    (hop : o.op = Op.call { callee := Callee.builtin Builtin.append, args := #[s, x], argTypes := #[t, t] }) (lo hi : Nat) (ht : Tryd.prog.underlying t = some (.slice 37))
    (v : Value) (L : List (Int × Int)) (hs : a.eval s = v) (H : PRs w lo hi v L) (g : Nat) (p q : Int) (hgh : hi ≤ g) (hgl : lo ≤ g) (hgc : w.heap[g]? = some (.cells #[.int .i64 p, .int .i64 q] 3 (0, 0)))
    (b : Nat) (hx : a.eval x = .slice (some ⟨b, 0, none⟩) 1 1) (hc : w.cell? ⟨b, 0, none⟩ = some (.slice (some ⟨g, 0, none⟩) 2 2)) (hlen : L.length ≤ 100000000) (hbase : lo ≤ w.heap.size)
    (h : ∀ v' w', PRs w' lo w'.heap.size v' (L ++ [(p, q)]) → w.grownBy w' v.ownBlock → wpList Tryd.prog ops Q rest (a.put o.dst v') w') :
    wpList Tryd.prog ops Q (o :: rest) a w :=
  wpList_plain hgd fun _ hK => wp_append_pair w s x t hop lo hi ht v L hs H g p q hgh hgl hgc b hx hc hlen hbase fun v' w' h2 h3 => hK _ _ (h v' w' h2 h3)
theorem heap_alloc2 (w : World) (o1 o2 : Obj) : ((w.alloc o1).alloc o2).heap[w.heap.size]? = some o1 :=
  (((Below.refl (w.alloc o1).heap.size (w.alloc o1)).alloc (Nat.le_refl _) o2).block w.heap.size (by simp)).trans (heap_alloc_new w o1)

theorem grown_set (w : World) (p : Addr) (u : Value) : w.grownBy (w.setCell p u) (some p.block) :=
  ⟨rfl, rfl, rfl, by simp [World.setCell], fun k _ hk => Below.heap_setCell _ _ _ _ (fun e => hk (by rw [e]))⟩

/-- The last pair: where it lies; written in place; another row put in its place. -/
theorem PRs.last {w : World} {lo hi : Nat} {v : Value} {M : List (Int × Int)} {p q : Int} (h : PRs w lo hi v (M ++ [(p, q)])) :
    ∃ G c gl, v = .slice (some ⟨G, 0, none⟩) (M.length + 1) c ∧ lo ≤ G ∧ G < w.heap.size ∧ lo ≤ gl ∧ gl < w.heap.size ∧
      w.cell? ⟨G, M.length, none⟩ = some (.slice (some ⟨gl, 0, none⟩) 2 2) ∧ w.frozen? ⟨G, M.length, none⟩ = false ∧
      w.cell? ⟨gl, 0, none⟩ = some (.int .i64 p) ∧ w.cell? ⟨gl, 1, none⟩ = some (.int .i64 q) ∧ w.frozen? ⟨gl, 1, none⟩ = false ∧
      Hid (∀ w1 q', Below w.heap.size w w1 → PRs (w1.setCell ⟨gl, 1, none⟩ (.int .i64 q')) lo hi v (M ++ [(p, q')])) ∧
      Hid (∀ w1 g' p' q', Below w.heap.size w w1 → hi ≤ g' → lo ≤ g' → w1.heap[g']? = some (.cells #[.int .i64 p', .int .i64 q'] 3 (0, 0)) →
        PRs (w1.setCell ⟨G, M.length, none⟩ (.slice (some ⟨g', 0, none⟩) 2 2)) lo (g' + 1) v (M ++ [(p', q')])) := by
  obtain ⟨l, hl, hown, hrow, hnd⟩ := h
  obtain ⟨l1, l2, rfl, rfl, h2⟩ := List.map_eq_append_iff.1 hl
  obtain ⟨⟨gl, p', q'⟩, rfl, hx⟩ := List.map_eq_singleton_iff.1 h2
  obtain ⟨rfl, rfl⟩ := Prod.mk.inj hx
  have hr := hrow (gl, p', q') (by simp)
  obtain ⟨hr1, hr2, hr3⟩ := hr
  simp only at hr1 hr2 hr3
  have hlt := (Array.getElem?_eq_some_iff.1 hr3).1
  obtain ⟨hlen, ho⟩ := hown
  rcases ho with ⟨_, h0⟩ | ⟨G, cap, cur, rfl, hG0, hG, hnc, hcm, hcs, htake⟩
  · simp at h0
  have hGne : gl ≠ G := fun e => by subst e; rw [hr3] at hG; simp at hG
  have hGlt := (Array.getElem?_eq_some_iff.1 hG).1
  simp only [List.length_append, List.length_cons, List.length_nil, Nat.zero_add, Nat.mul_one, List.map_append, List.map_cons, List.map_nil, List.length_map] at hlen hnc hcs htake ⊢
  have hcell : cur[l1.length]? = some (cellOf (gl, p', q')) := by
    have : (l1.map cellOf ++ [cellOf (gl, p', q')])[l1.length]? = some (cellOf (gl, p', q')) := by simp
    rw [← htake, List.getElem?_take, if_pos (by omega)] at this
    simpa using this
  have hnd' : ∀ x ∈ l1, x.1 ≠ gl := by
    rw [List.map_append, List.nodup_append] at hnd
    intro x hx
    exact hnd.2.2 _ (List.mem_map.2 ⟨x, hx, rfl⟩) gl (by simp)
  have hOwn : ∀ w' : World, w'.heap[G]? = some (.cells cur 37 (0, 0)) → w'.ownsRow lo 37 1 (.slice (some ⟨G, 0, none⟩) (l1.length + 1) cap) (l1.length + 1) (l1.map cellOf ++ [cellOf (gl, p', q')]) :=
    fun w' h => ⟨by simp, .inr ⟨G, cap, cur, rfl, hG0, h, hnc, hcm, by simpa using hcs, by simpa using htake⟩⟩
  refine ⟨G, cap, gl, rfl, hG0, hGlt, hr1, hlt, by rw [cell_of_row w G _ cur _ (0, 0) hG, hcell]; rfl, by simp [World.frozen?, hG], by rw [cell_of_row w gl _ _ _ (0, 0) hr3]; rfl, by rw [cell_of_row w gl _ _ _ (0, 0) hr3]; rfl, by simp [World.frozen?, hr3], fun w1 z hb => ?_, fun w1 g' a b hb hg1 hg2 hg3 => ?_⟩
  · refine ⟨l1 ++ [(gl, p', z)], by simp, ?_, fun x hx => ?_, ?_⟩
    · have := hOwn (w1.setCell ⟨gl, 1, none⟩ (.int .i64 z)) ((Below.heap_setCell _ _ _ _ (by exact fun e => hGne e.symm)).trans ((hb.block _ hGlt).trans hG))
      simpa [cellOf] using this
    · rcases List.mem_append.1 hx with hx | hx
      · obtain ⟨a1, a2, a3⟩ := hrow x (by simp [hx])
        exact ⟨a1, a2, (Below.heap_setCell _ _ _ _ (by exact hnd' x hx)).trans ((hb.block _ (Array.getElem?_eq_some_iff.1 a3).1).trans a3)⟩
      · simp at hx
        subst hx
        have := (hb.block _ hlt).trans hr3
        exact ⟨hr1, hr2, by simp [World.setCell, Array.getElem?_modify, this]⟩
    · simpa using hnd
  · have hG1 : w1.heap[G]? = some (.cells cur 37 (0, 0)) := (hb.block _ hGlt).trans hG
    have hne : g' ≠ G := fun e => by subst e; rw [hg3] at hG1; simp at hG1
    refine ⟨l1 ++ [(g', a, b)], by simp, ?_, fun x hx => ?_, ?_⟩
    · refine ⟨by simp, .inr ⟨G, cap, cur.setIfInBounds l1.length (.slice (some ⟨g', 0, none⟩) 2 2), by simp, hG0, by simp [World.setCell, Array.getElem?_modify, hG1], by simpa using hnc, hcm, by simpa using hcs, ?_⟩⟩
      simp only [List.length_append, List.length_cons, List.length_nil, Nat.zero_add, Nat.mul_one, List.map_append, List.map_cons, List.map_nil, Array.toList_setIfInBounds, List.take_set, htake]
      rw [List.set_append_right _ _ (by simp)]
      simp [cellOf]
    · rcases List.mem_append.1 hx with hx | hx
      · obtain ⟨a1, a2, a3⟩ := hrow x (by simp [hx])
        have hxG : x.1 ≠ G := fun e => by rw [e, hG] at a3; simp at a3
        exact ⟨a1, by omega, (Below.heap_setCell _ _ _ _ (by exact hxG)).trans ((hb.block _ (Array.getElem?_eq_some_iff.1 a3).1).trans a3)⟩
      · simp at hx
        subst hx
        exact ⟨hg2, by simp, (Below.heap_setCell _ _ _ _ (by exact hne)).trans hg3⟩
    · rw [List.map_append, List.nodup_append] at hnd ⊢
      refine ⟨hnd.1, by simp, fun y hy z hz => ?_⟩
      simp at hz
      subst hz
      obtain ⟨x, hx, rfl⟩ := List.mem_map.1 hy
      have := (hrow x (by simp [hx])).2.1
      omega
theorem PRs.drew {w : World} {lo hi : Nat} {v : Value} {L : List (Int × Int)} (h : PRs w lo hi v L) : PRs w.drew lo hi v L := h
theorem PRs.val {w : World} {lo hi : Nat} {v : Value} {L : List (Int × Int)} (h : PRs w lo hi v L) : ∃ A c, v = .slice A L.length c ∧ L.length ≤ c ∧ c ≤ maxLen := by
  obtain ⟨l, rfl, hown, _⟩ := h
  rcases hown.2 with ⟨rfl, h0⟩ | ⟨G, cap, cur, rfl, _, _, hnc, hcm, _⟩
  · exact ⟨none, 0, by simp [h0], by simp [h0], by unfold maxLen; omega⟩
  · exact ⟨some ⟨G, 0, none⟩, cap, by simp, by simpa using hnc, hcm⟩

/-- A slice of rows of two ints, read as the numbers f (row by row); its blocks lie from lo on, below hi, all apart. -/
structure RwsG (w : World) (lo hi : Nat) (A : Option Addr) (n : Nat) (gs : Nat → Nat) (f : Nat → Int) : Prop where
  hi_le : hi ≤ w.heap.size
  out : 0 < n → ∃ g cur, A = some ⟨g, 0, none⟩ ∧ lo ≤ g ∧ g < hi ∧ w.heap[g]? = some (.cells cur 37 (0, 0)) ∧ ∀ j, j < n → cur[j]? = some (.slice (some ⟨gs j, 0, none⟩) 2 2)
  row : ∀ j, j < n → lo ≤ gs j ∧ gs j < hi ∧ Own w (gs j) (gs j + 1) 3 1 (some ⟨gs j, 0, none⟩) 2 (fun i => f (j * 2 + i))
  apart : ∀ i j, i < n → j < n → gs i = gs j → i = j
def Rws (w : World) (lo hi : Nat) (A : Option Addr) (n : Nat) (f : Nat → Int) : Prop := ∃ gs, RwsG w lo hi A n gs f
theorem Rws.sl {w : World} {lo hi n : Nat} {A : Option Addr} {f : Nat → Int} (h : Rws w lo hi A n f) : Rws w lo hi A n f := h
theorem Rws.below {w w' : World} {lo hi n : Nat} {A : Option Addr} {f : Nat → Int} (h : Rws w lo hi A n f) (hb : Below w.heap.size w w') : Rws w' lo hi A n f := by
  obtain ⟨gs, h1, h2, h3, h4⟩ := h
  refine ⟨gs, Nat.le_trans h1 hb.size, fun hn => ?_, fun j hj => ⟨(h3 j hj).1, (h3 j hj).2.1, (h3 j hj).2.2.below hb⟩, h4⟩
  obtain ⟨g, cur, e, a1, a2, a3, a4⟩ := h2 hn
  exact ⟨g, cur, e, a1, a2, (hb.block _ (by omega)).trans a3, a4⟩
theorem Rws.fr {w w' : World} {lo hi n lo' hi' : Nat} {A : Option Addr} {f : Nat → Int} (h : Rws w lo hi A n f) (hb : Fr lo' hi' w w') (hd : hi ≤ lo' ∨ hi' ≤ lo) : Rws w' lo hi A n f := by
  obtain ⟨gs, h1, h2, h3, h4⟩ := h
  refine ⟨gs, Nat.le_trans h1 hb.size, fun hn => ?_, fun j hj => ⟨(h3 j hj).1, (h3 j hj).2.1, (h3 j hj).2.2.fr hb ?_⟩, h4⟩
  · obtain ⟨g, cur, e, a1, a2, a3, a4⟩ := h2 hn
    exact ⟨g, cur, e, a1, a2, (hb.block _ (by omega) (by omega)).trans a3, a4⟩
  · have := (h3 j hj).1; have := (h3 j hj).2.1; omega
theorem Rws.congr {w : World} {lo hi n : Nat} {A : Option Addr} {f f' : Nat → Int} (h : Rws w lo hi A n f) (he : ∀ j, j < n * 2 → f j = f' j) : Rws w lo hi A n f' := by
  obtain ⟨gs, h1, h2, h3, h4⟩ := h
  exact ⟨gs, h1, h2, fun j hj => ⟨(h3 j hj).1, (h3 j hj).2.1, (h3 j hj).2.2.congr (fun i hi => he _ (by omega))⟩, h4⟩
theorem Rws.none_ {w : World} {lo hi : Nat} {A : Option Addr} {f : Nat → Int} (h : hi ≤ w.heap.size) : Rws w lo hi A 0 f :=
  ⟨fun _ => 0, h, fun hn => absurd hn (by omega), fun j hj => absurd hj (by omega), fun i j hi => absurd hi (by omega)⟩
def flat2 (L : List (Int × Int)) : Nat → Int := fun j => if j % 2 = 0 then (L.getD (j / 2) (0, 0)).1 else (L.getD (j / 2) (0, 0)).2
theorem PRs.rws {w : World} {lo hi : Nat} {v : Value} {L : List (Int × Int)} (h : PRs w lo hi v L) :
    ∃ A c, v = .slice A L.length c ∧ L.length ≤ c ∧ c ≤ maxLen ∧ Rws w lo w.heap.size A L.length (flat2 L) := by
  obtain ⟨l, rfl, hown, hrow, hnd⟩ := h
  have hget : ∀ j, (hj : j < l.length) → l.getD j (0, 0, 0) = l[j] := fun j hj => by simp [List.getD, hj]
  rcases hown with ⟨hl, ⟨rfl, h0⟩ | ⟨G, cap, cur, rfl, hG0, hG, hnc, hcm, hcs, htake⟩⟩
  · have : l = [] := List.length_eq_zero_iff.1 h0
    subst this
    exact ⟨none, 0, rfl, by simp, by unfold maxLen; omega, Rws.none_ (Nat.le_refl _)⟩
  · refine ⟨_, cap, by simp, by simpa using hnc, hcm, fun j => (l.getD j (0, 0, 0)).1, Nat.le_refl _, fun _ => ⟨G, cur, rfl, hG0, (Array.getElem?_eq_some_iff.1 hG).1, hG, fun j hj => ?_⟩, fun j hj => ?_, fun i j hi hj e => ?_⟩
    · simp only [List.length_map] at hj
      have h1 : (l.map cellOf)[j]? = some (cellOf l[j]) := by simp [hj]
      rw [← htake, List.getElem?_take, if_pos (by omega)] at h1
      rw [hget j hj]
      simpa [cellOf] using h1
    · simp only [List.length_map] at hj
      obtain ⟨h1, h2, h3⟩ := hrow l[j] (List.getElem_mem hj)
      have hlt := (Array.getElem?_eq_some_iff.1 h3).1
      simp only [hget j hj]
      refine ⟨h1, hlt, by omega, fun _ => ⟨l[j].1, _, rfl, Nat.le_refl _, by omega, h3, by simp, fun i hi => ?_⟩⟩
      have hm : (l.map (·.2)).getD j (0, 0) = l[j].2 := by simp [List.getD, hj]
      match i, hi with
      | 0, _ => simp only [flat2]; rw [if_pos (by omega), show (j * 2 + 0) / 2 = j by omega, hm]; rfl
      | 1, _ => simp only [flat2]; rw [if_neg (by omega), show (j * 2 + 1) / 2 = j by omega, hm]; rfl
    · simp only [List.length_map] at hi hj
      simp only [hget i hi, hget j hj] at e
      have h1 : (l.map (·.1))[i]'(by simpa using hi) = (l.map (·.1))[j]'(by simpa using hj) := by simpa using e
      exact (List.getElem_inj hnd).1 h1
/-- What a function that returns a slice of pairs and a bool leaves. -/
def PairsPost (w : World) (L : List (Int × Int)) (ok : Bool) (e : Ending) (w' : World) : Prop :=
  ∃ A c, e = .returned (.tuple #[.slice A L.length c, .bool ok]) ∧ L.length ≤ c ∧ c ≤ maxLen ∧ Rws w' w.heap.size w'.heap.size A L.length (flat2 L) ∧ Below w.heap.size w w'
theorem PairsPost.mk_ {w w' : World} {L : List (Int × Int)} {ok : Bool} {v : Value} {hi : Nat} (h : PRs w' w.heap.size hi v L) (hb : Below w.heap.size w w') : PairsPost w L ok (.returned (.tuple #[v, .bool ok])) w' := by
  obtain ⟨A, c, rfl, h1, h2, h3⟩ := h.rws
  exact ⟨A, c, rfl, h1, h2, h3, hb⟩
end Go.Proofs.YtcecpioiagfoiaaDoor
