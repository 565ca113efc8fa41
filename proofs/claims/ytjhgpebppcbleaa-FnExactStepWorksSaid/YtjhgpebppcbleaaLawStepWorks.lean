/-
  The walk of the law FnExactStepWorks.
-/
import Derived.Test.YtjhgpebppcbleaaStepF
import Derived.Test.YtjhgpebppcbleaaMarkW
import Derived.Deep.DeepCutAuto
namespace Go.Proofs.Ytjhgpebppcbleaa
open Go.RowKit
set_option linter.unusedVariables false
set_option linter.unusedSimpArgs false
theorem own_tight {w : World} {base n c B : Nat} {A' : Option Addr} {zs : List Int} (h : w.ownsRow base 87 4 (.slice A' n c) n (zs.map (Value.int .i64))) (hB : B ≤ base) (hb : base ≤ w.heap.size) :
    ∃ lo hi, Own w lo hi 87 4 A' n (lf zs) ∧ B ≤ lo := by
  obtain ⟨A2, c2, e, _, _, ho⟩ := own_of_row h
  cases e
  by_cases hn : 0 < n
  · obtain ⟨g, cur, e1, h1, h2, h3, h4, h5⟩ := ho.here hn
    exact ⟨g, g + 1, ⟨(Array.getElem?_eq_some_iff.1 h3).1, fun _ => ⟨g, cur, e1, Nat.le_refl _, Nat.lt_succ_self _, h3, h4, h5⟩⟩, by omega⟩
  · have h0 : n = 0 := by omega
    subst h0
    exact ⟨base, base, Own.none_ hb, hB⟩
theorem own_but {w w' : World} {lo hi n g : Nat} {A' : Option Addr} {f : Nat → Int} (h : Own w lo hi 87 4 A' n f) (hg : w.grownBy w' (some g)) (hd : g < lo ∨ hi ≤ g) : Own w' lo hi 87 4 A' n f :=
  ⟨Nat.le_trans h.hi_le hg.size, fun hn => by
    obtain ⟨q, cur, e1, h1, h2, h3, h4⟩ := h.here hn
    have := h.hi_le
    exact ⟨q, cur, e1, h1, h2, (hg.block q (by omega) (by simp; omega)).trans h3, h4⟩⟩
theorem rowF {w w' : World} {lo hi g : Nat} {o : Obj} (h : w.heap[g]? = some o) (hf : Fr lo hi w w') (hd : g < lo ∨ hi ≤ g) : w'.heap[g]? = some o := (hf.block g (Array.getElem?_eq_some_iff.1 h).1 hd).trans h
theorem rowB {X w' : World} {g : Nat} {o : Obj} (hX : X.heap[g]? = some o) (h : Below X.heap.size X w') : w'.heap[g]? = some o :=
  (h.block g (Array.getElem?_eq_some_iff.1 hX).1).trans hX
theorem rowLt {w : World} {r : Nat} {o : Obj} (h : w.heap[r]? = some o) : r < w.heap.size := (Array.getElem?_eq_some_iff.1 h).1
set_option maxHeartbeats 1600000 in
theorem toWorksStep_any (k i t z : Int) (w : World) :
    Calls Try.prog 25 #[.agg #[.int .i64 k, .int .i64 i, .int .i64 t, .int .i64 z]] w fun e w' => e = .returned (.agg #[.int .i64 k, .int .i64 i, .int .i64 t, .int .i64 z]) ∧ Below w.heap.size w w' := by
  go_enter Try.func25, Try.ntmps25
  go_wp2
  go_returns
  exact ⟨rfl, by go_grown⟩
theorem heldWorks_any (A' : Option Addr) (n c lo hi : Nat) (k0 : Int) (I H S P : Int) (w : World) (hs : Sl w lo hi 4 A' n (fun j => k0 + j)) (hn : n ≤ 1048576) (hnc : n ≤ c) (h0 : 0 ≤ k0) (h1 : k0 ≤ 1000000) :
    Calls Try.prog 28 #[.agg #[.slice A' n c, .int .i64 I, .int .i64 H, .int .i64 S, .int .i64 P], .int .i64 k0] w fun e w' => e = .returned (.int .i64 (k0 + (n : Int) * 4)) ∧ Below w.heap.size w w' := by
  have hal := (Below.refl _ w).alloc (Nat.le_refl _) (.cells #[.slice A' n c, .int .i64 I, .int .i64 H, .int .i64 S, .int .i64 P] 26)
  have HS := Lib.hid (hs.below hal)
  have HA := Lib.hid hal
  clear hs hal
  have hnn : ¬ (k0 + (n : Int) * 4 < 0) := by omega
  go_enter Try.func28, Try.ntmps28
  go_wp2_with fail
  refine (heldPanS_any A' n c lo hi k0 _ HS.out hn hnc h0 (by omega)).mono ?_
  rintro e w2 ⟨rfl, rfl⟩
  go_wp2
  go_ret
  exact ⟨rfl, HA.out⟩
theorem stOk_len (f : Nat → Int) (n : Nat) (I H S P kd id t0 z : Int) (h : n ≤ 1048576) : (if stOk f n I H S P kd id t0 z then stN n kd else 0) ≤ 1048576 := by
  split
  · rename_i hk
    have hg : goodWorks f n I H S P = true := by
      cases hg : goodWorks f n I H S P with
      | true => rfl
      | false => simp [stOk, hg] at hk
    have hn := good_len hg
    unfold stN
    split
    · omega
    · split <;> omega
  · omega
theorem stN_le {n : Nat} {kd : Int} {b : Bool} (h : n ≤ 1048575) : (if b then stN n kd else 0) ≤ 1048576 := by
  split
  · unfold stN
    split
    · omega
    · split <;> omega
  · omega
set_option maxRecDepth 100000 in
set_option maxHeartbeats 4000000 in
theorem FnExactStepWorks_walk (A0 : Option Addr) (n0 c0 : Nat) (f0 : Nat → Int) (I0 H0 S0 P0 : Int) (f1 : Nat → Int) (w : World) (hnc0 : n0 ≤ c0) (hcm0 : c0 ≤ maxLen) (hs0 : Sl w 0 w.heap.size 4 A0 n0 f0) (hf1 : ∀ j, j < 4 → I64 (f1 j)) :
    Calls Try.prog 4 #[.agg #[.slice A0 n0 c0, .int .i64 I0, .int .i64 H0, .int .i64 S0, .int .i64 P0], .agg #[.int .i64 (f1 0), .int .i64 (f1 1), .int .i64 (f1 2), .int .i64 (f1 3)]] w fun e w' => e = .returned (.bool true) ∧ Below w.heap.size w w' := by
  have hm0 : (n0 : Int) ≤ 9223372036854775807 := by unfold maxLen at hcm0; omega
  have AL1 : Below w.heap.size w (w.alloc (.cells #[.slice A0 n0 c0, .int .i64 I0, .int .i64 H0, .int .i64 S0, .int .i64 P0] 50)) := (Below.refl _ w).alloc (Nat.le_refl _) _
  have HAL : Below w.heap.size w ((w.alloc (.cells #[.slice A0 n0 c0, .int .i64 I0, .int .i64 H0, .int .i64 S0, .int .i64 P0] 50)).alloc (.cells #[.int .i64 (f1 0), .int .i64 (f1 1), .int .i64 (f1 2), .int .i64 (f1 3)] 51)) := AL1.alloc AL1.size _
  have hA : ((w.alloc (.cells #[.slice A0 n0 c0, .int .i64 I0, .int .i64 H0, .int .i64 S0, .int .i64 P0] 50)).alloc (.cells #[.int .i64 (f1 0), .int .i64 (f1 1), .int .i64 (f1 2), .int .i64 (f1 3)] 51)).heap[w.heap.size]? = some (.cells #[.slice A0 n0 c0, .int .i64 I0, .int .i64 H0, .int .i64 S0, .int .i64 P0] 50 (0, 0)) := by
    rw [heap_alloc_old _ _ (by simp)]
    exact heap_alloc_new w _
  have hB : ((w.alloc (.cells #[.slice A0 n0 c0, .int .i64 I0, .int .i64 H0, .int .i64 S0, .int .i64 P0] 50)).alloc (.cells #[.int .i64 (f1 0), .int .i64 (f1 1), .int .i64 (f1 2), .int .i64 (f1 3)] 51)).heap[w.heap.size + 1]? = some (.cells #[.int .i64 (f1 0), .int .i64 (f1 1), .int .i64 (f1 2), .int .i64 (f1 3)] 51 (0, 0)) := by
    have h := heap_alloc_new (w.alloc (.cells #[.slice A0 n0 c0, .int .i64 I0, .int .i64 H0, .int .i64 S0, .int .i64 P0] 50)) (.cells #[.int .i64 (f1 0), .int .i64 (f1 1), .int .i64 (f1 2), .int .i64 (f1 3)] 51)
    simpa using h
  have HF0 : Hid (∀ w', Below ((w.alloc (.cells #[.slice A0 n0 c0, .int .i64 I0, .int .i64 H0, .int .i64 S0, .int .i64 P0] 50)).alloc (.cells #[.int .i64 (f1 0), .int .i64 (f1 1), .int .i64 (f1 2), .int .i64 (f1 3)] 51)).heap.size ((w.alloc (.cells #[.slice A0 n0 c0, .int .i64 I0, .int .i64 H0, .int .i64 S0, .int .i64 P0] 50)).alloc (.cells #[.int .i64 (f1 0), .int .i64 (f1 1), .int .i64 (f1 2), .int .i64 (f1 3)] 51)) w' → w'.cell? ⟨w.heap.size, 0, none⟩ = some (.slice A0 n0 c0) ∧ w'.cell? ⟨w.heap.size, 1, none⟩ = some (.int .i64 I0) ∧ w'.cell? ⟨w.heap.size, 2, none⟩ = some (.int .i64 H0) ∧ w'.cell? ⟨w.heap.size, 3, none⟩ = some (.int .i64 S0) ∧ w'.cell? ⟨w.heap.size, 4, none⟩ = some (.int .i64 P0) ∧ w'.cell? ⟨w.heap.size + 1, 0, none⟩ = some (.int .i64 (f1 0)) ∧ w'.cell? ⟨w.heap.size + 1, 1, none⟩ = some (.int .i64 (f1 1)) ∧ w'.cell? ⟨w.heap.size + 1, 2, none⟩ = some (.int .i64 (f1 2)) ∧ w'.cell? ⟨w.heap.size + 1, 3, none⟩ = some (.int .i64 (f1 3))) := by
    intro w' hq
    have h1 := rowB hA hq
    have h2 := rowB hB hq
    exact ⟨by rw [cell_of_row w' w.heap.size 0 _ _ (0, 0) h1]; rfl, by rw [cell_of_row w' w.heap.size 1 _ _ (0, 0) h1]; rfl, by rw [cell_of_row w' w.heap.size 2 _ _ (0, 0) h1]; rfl, by rw [cell_of_row w' w.heap.size 3 _ _ (0, 0) h1]; rfl, by rw [cell_of_row w' w.heap.size 4 _ _ (0, 0) h1]; rfl, by rw [cell_of_row w' (w.heap.size + 1) 0 _ _ (0, 0) h2]; rfl, by rw [cell_of_row w' (w.heap.size + 1) 1 _ _ (0, 0) h2]; rfl, by rw [cell_of_row w' (w.heap.size + 1) 2 _ _ (0, 0) h2]; rfl, by rw [cell_of_row w' (w.heap.size + 1) 3 _ _ (0, 0) h2]; rfl⟩
  have HSL : Hid (∀ w', Below ((w.alloc (.cells #[.slice A0 n0 c0, .int .i64 I0, .int .i64 H0, .int .i64 S0, .int .i64 P0] 50)).alloc (.cells #[.int .i64 (f1 0), .int .i64 (f1 1), .int .i64 (f1 2), .int .i64 (f1 3)] 51)).heap.size ((w.alloc (.cells #[.slice A0 n0 c0, .int .i64 I0, .int .i64 H0, .int .i64 S0, .int .i64 P0] 50)).alloc (.cells #[.int .i64 (f1 0), .int .i64 (f1 1), .int .i64 (f1 2), .int .i64 (f1 3)] 51)) w' → Sl w' 0 w.heap.size 4 A0 n0 f0) := fun w' hq => hs0.below (HAL.trans (hq.mono HAL.size))
  clear hA hB AL1 hs0
  by_cases hbig : n0 ≤ 1048576
  · obtain ⟨L, m, I', H', S', P', ok, hm7, HSP, HIP⟩ : ∃ (L : List Int) (m : Nat) (I' H' S' P' : Int) (ok : Bool), m ≤ 1048576 ∧ Hid (∀ (Aq : Option Addr) (cq lo hi : Nat) (W : World), Sl W lo hi 4 Aq n0 f0 → (Aq = none → n0 = 0 ∧ cq = 0) → (∀ ad, Aq = some ad → ∃ b off, ad = ⟨b, off, none⟩) → n0 ≤ cq → Calls Try.prog 10 #[.agg #[.slice Aq n0 cq, .int .i64 I0, .int .i64 H0, .int .i64 S0, .int .i64 P0], .agg #[.int .i64 (f1 0), .int .i64 (f1 1), .int .i64 (f1 2), .int .i64 (f1 3)]] W (panPostL W L m I' H' S' P' ok)) ∧ Hid (∀ (Aq : Option Addr) (cq lo hi : Nat) (W : World), Sl W lo hi 4 Aq n0 f0 → (Aq = none → n0 = 0 ∧ cq = 0) → (∀ ad, Aq = some ad → ∃ b off, ad = ⟨b, off, none⟩) → n0 ≤ cq → Calls Try.prog 9 #[.agg #[.slice Aq n0 cq, .int .i64 I0, .int .i64 H0, .int .i64 S0, .int .i64 P0], .agg #[.int .i64 (f1 0), .int .i64 (f1 1), .int .i64 (f1 2), .int .i64 (f1 3)]] W (panPostL W L m I' H' S' P' ok)) := by
      refine ⟨_, _, _, _, _, _, stOk f0 n0 I0 H0 S0 P0 (f1 0) (f1 1) (f1 2) (f1 3), stOk_len f0 n0 I0 H0 S0 P0 (f1 0) (f1 1) (f1 2) (f1 3) hbig, fun Aq cq lo hi W hs h1 h2 h3 => sStepWorks_any Aq n0 cq lo hi f0 I0 H0 S0 P0 (f1 0) (f1 1) (f1 2) (f1 3) W hs hbig h3 h1 h2, fun Aq cq lo hi W hs h1 h2 h3 => StepWorks_any Aq n0 cq lo hi f0 I0 H0 S0 P0 (f1 0) (f1 1) (f1 2) (f1 3) W hs hbig h3 h1⟩
    go_enter Try.func4, Try.ntmps4
    go_wp2_with fail
    refine (szWorks_ok A0 n0 c0 I0 H0 S0 P0 1048576 _ (by omega) (by omega) (by omega)).mono ?_
    rintro e w2 ⟨rfl, BX⟩
    have sX2 := BX.size
    have HF : Hid (∀ w', Below w2.heap.size w2 w' → w'.cell? ⟨w.heap.size, 0, none⟩ = some (.slice A0 n0 c0) ∧ w'.cell? ⟨w.heap.size, 1, none⟩ = some (.int .i64 I0) ∧ w'.cell? ⟨w.heap.size, 2, none⟩ = some (.int .i64 H0) ∧ w'.cell? ⟨w.heap.size, 3, none⟩ = some (.int .i64 S0) ∧ w'.cell? ⟨w.heap.size, 4, none⟩ = some (.int .i64 P0) ∧ w'.cell? ⟨w.heap.size + 1, 0, none⟩ = some (.int .i64 (f1 0)) ∧ w'.cell? ⟨w.heap.size + 1, 1, none⟩ = some (.int .i64 (f1 1)) ∧ w'.cell? ⟨w.heap.size + 1, 2, none⟩ = some (.int .i64 (f1 2)) ∧ w'.cell? ⟨w.heap.size + 1, 3, none⟩ = some (.int .i64 (f1 3))) := fun w' hq => HF0.out w' (BX.trans (hq.mono BX.size))
    go_upto_region 5 with fail
    go_cut [6, 7] (fun sa sb wx => ∃ (g lo hi c' : Nat) (A' : Option Addr), sa = .pointer (some ⟨g, 0, none⟩) ∧ sb = .bool ok ∧ w2.heap.size ≤ g ∧ w2.heap.size ≤ lo ∧ (g < lo ∨ hi ≤ g) ∧ m ≤ c' ∧ wx.heap[g]? = some (.cells #[.slice A' m c', .int .i64 I', .int .i64 H', .int .i64 S', .int .i64 P'] 26 (0, 0)) ∧ Own wx lo hi 87 4 A' m (lf L) ∧ Below w2.heap.size w2 wx)
    case first =>
      refine wp_region_held_drew (S := fun w' => Below w2.heap.size w2 w') (by kernel_rfl) ((Below.refl _ _).drew) (fun hHeld => ?_)
      obtain ⟨v0, hv0⟩ : ∃ v, w2.drew = v := ⟨_, rfl⟩
      rw [hv0] at hHeld ⊢
      clear hv0
      refine wpAnyH_takeD (i := 0) (d := 22) (v := ?_) rfl (by kernel_rfl) (by kernel_rfl) (by kernel_rfl) (fun _ _ _ h => h) (by rfl) ?_ hHeld ?_
      rotate_left
      · intro wS hS
        have eF := HF.out wS hS
        go_simp
        try with_reducible rfl
      simp only [Act.put, List.setIfInBounds_toArray, List.set_cons_zero, List.set_cons_succ]
      refine wpAnyH_takeD (i := 2) (d := 24) (v := ?_) rfl (by kernel_rfl) (by kernel_rfl) (by kernel_rfl) (fun _ _ _ h => h) (by rfl) ?_ hHeld ?_
      rotate_left
      · intro wS hS
        have eF := HF.out wS hS
        go_simp
        try with_reducible rfl
      simp only [Act.put, List.setIfInBounds_toArray, List.set_cons_zero, List.set_cons_succ]
      refine wpAnyH_ready (rs := [1, 8]) (by kernel_rfl) (by simp) ?_
      refine (AllReadyH.cons rfl (fun K hK => ?_) (AllReadyH.cons rfl (fun K hK => ?_) AllReadyH.nil))
      · go_simp
        refine (toWorks_any A0 n0 c0 0 w.heap.size f0 I0 H0 S0 P0 _ (HSL.out _ (BX.trans (hHeld.mono BX.size))) hbig hnc0).mono ?_
        rintro e v1 ⟨gt, rfl, lt2, kt2, hot, hbn⟩
        refine hK.out _ _ (hHeld.trans (hbn.mono hHeld.size)) (fun hHeld => ?_)
        clear hK K hbn
        refine wpAnyH_ready (rs := [3, 8]) (by kernel_rfl) (by simp) ?_
        refine (AllReadyH.cons rfl (fun K hK => ?_) (AllReadyH.cons rfl (fun K hK => ?_) AllReadyH.nil))
        · go_simp
          refine (toWorksStep_any _ _ _ _ _).mono ?_
          rintro e v2 ⟨rfl, hbn⟩
          have hot := hot.below hbn
          refine hK.out _ _ (hHeld.trans (hbn.mono hHeld.size)) (fun hHeld => ?_)
          clear hK K hbn
          refine wpAnyH_ready (rs := [4, 8]) (by kernel_rfl) (by simp) ?_
          refine (AllReadyH.cons rfl (fun K hK => ?_) (AllReadyH.cons rfl (fun K hK => ?_) AllReadyH.nil))
          · go_simp
            refine (HSP.out _ _ _ _ _ hot.sl (fun h => by cases h) (fun ad h => ⟨_, _, (Option.some.inj h).symm⟩) (Nat.le_refl _)).mono ?_
            rintro e v3 ⟨Ar, cr, rfl, hmc, hcm, hown, hbn⟩
            obtain ⟨lo, hi, hOw, hlo⟩ := own_tight hown (Nat.le_refl _) hbn.size
            have hlY := Nat.le_trans hHeld.size hlo
            clear hown hlo
            refine hK.out _ _ (hHeld.trans (hbn.mono hHeld.size)) (fun hHeld => ?_)
            clear hK K hbn
            refine wpAnyH_takeD (i := 5) (d := 21) (v := ?_) rfl (by kernel_rfl) (by kernel_rfl) (by kernel_rfl) (fun _ _ _ h => h) (by rfl) ?_ hHeld ?_
            rotate_left
            · intro wS hS
              have eF := HF.out wS hS
              go_simp
              try with_reducible rfl
            simp only [Act.put, List.setIfInBounds_toArray, List.set_cons_zero, List.set_cons_succ]
            refine wpAnyH_takeD (i := 6) (d := 27) (v := ?_) rfl (by kernel_rfl) (by kernel_rfl) (by kernel_rfl) (fun _ _ _ h => h) (by rfl) ?_ hHeld ?_
            rotate_left
            · intro wS hS
              have eF := HF.out wS hS
              go_simp
              try with_reducible rfl
            simp only [Act.put, List.setIfInBounds_toArray, List.set_cons_zero, List.set_cons_succ]
            refine wpAnyH_takeD (i := 7) (d := 28) (v := ?_) rfl (by kernel_rfl) (by kernel_rfl) (by kernel_rfl) (fun _ _ _ h => h) (by rfl) ?_ hHeld ?_
            rotate_left
            · intro wS hS
              have eF := HF.out wS hS
              go_simp
              try with_reducible rfl
            simp only [Act.put, List.setIfInBounds_toArray, List.set_cons_zero, List.set_cons_succ]
            refine wpAnyH_ready (rs := [8]) (by kernel_rfl) (by simp) ?_
            refine (AllReadyH.cons rfl (fun K hK => ?_) AllReadyH.nil)
            go_simp
            have hg := heap_alloc_new v3 (.cells #[.slice none 0 0, .int .i64 0, .int .i64 0, .int .i64 0, .int .i64 0] 26)
            have hS2 := hHeld.alloc hHeld.size (.cells #[.slice none 0 0, .int .i64 0, .int .i64 0, .int .i64 0, .int .i64 0] 26)
            have hgle := hHeld.size
            have hgd : v3.heap.size < lo ∨ hi ≤ v3.heap.size := Or.inr hOw.hi_le
            have hOw := hOw.below ((Below.refl _ v3).alloc (Nat.le_refl _) (.cells #[.slice none 0 0, .int .i64 0, .int .i64 0, .int .i64 0, .int .i64 0] 26))
            obtain ⟨g, hge⟩ : ∃ g, v3.heap.size = g := ⟨_, rfl⟩
            rw [hge] at hg hgle hgd
            try rw [hge]
            obtain ⟨v4, hve⟩ : ∃ v, v3.alloc (.cells #[.slice none 0 0, .int .i64 0, .int .i64 0, .int .i64 0, .int .i64 0] 26) = v := ⟨_, rfl⟩
            rw [hve] at hg hS2 hOw
            rw [hve]
            refine hK.out _ _ hS2 (fun hHeld => ?_)
            clear hK K hve hge
            refine wpAnyH_store (fuel := 1) (i := 9) rfl (by kernel_rfl) g 0 (.agg #[.slice Ar m cr, .int .i64 I', .int .i64 H', .int .i64 S', .int .i64 P']) 26 #[.slice none 0 0, .int .i64 0, .int .i64 0, .int .i64 0, .int .i64 0] rfl rfl infoWorks hg (Nat.le_refl 5) (by simp [Value.cells, Value.oneCell']) (fun w' hg' => hHeld.grown hg' hHeld.size (fun k hk => by cases hk; exact hgle)) ?ksa1
            case ksa1 =>
              intro v5 hh hgw hS3
              clear hHeld
              have hHeld := hS3
              have hOw := own_but hOw hgw hgd
              refine wpAnyH_takeD (i := 10) (d := 7) (v := ?_) rfl (by kernel_rfl) (by kernel_rfl) (by kernel_rfl) (fun _ _ _ h => h) (by rfl) ?_ hHeld ?_
              rotate_left
              · intro wS hS
                have eF := HF.out wS hS
                go_simp
                try with_reducible rfl
              simp only [Act.put, List.setIfInBounds_toArray, List.set_cons_zero, List.set_cons_succ]
              refine wpAnyH_done (by kernel_rfl) ?_ _
              go_wp2_with fail
              go_meet
              case rel => exact ⟨g, lo, hi, cr, Ar, rfl, rfl, hgle, hlY, hgd, hmc, hh, hOw, hHeld⟩
          · go_simp
            have hg := heap_alloc_new v2 (.cells #[.slice none 0 0, .int .i64 0, .int .i64 0, .int .i64 0, .int .i64 0] 26)
            have hS2 := hHeld.alloc hHeld.size (.cells #[.slice none 0 0, .int .i64 0, .int .i64 0, .int .i64 0, .int .i64 0] 26)
            have hgle := hHeld.size
            have hot := hot.below ((Below.refl _ v2).alloc (Nat.le_refl _) (.cells #[.slice none 0 0, .int .i64 0, .int .i64 0, .int .i64 0, .int .i64 0] 26))
            obtain ⟨g, hge⟩ : ∃ g, v2.heap.size = g := ⟨_, rfl⟩
            rw [hge] at hg hgle
            try rw [hge]
            obtain ⟨v6, hve⟩ : ∃ v, v2.alloc (.cells #[.slice none 0 0, .int .i64 0, .int .i64 0, .int .i64 0, .int .i64 0] 26) = v := ⟨_, rfl⟩
            rw [hve] at hg hS2 hot
            rw [hve]
            refine hK.out _ _ hS2 (fun hHeld => ?_)
            clear hK K hve hge
            refine wpAnyH_ready (rs := [4]) (by kernel_rfl) (by simp) ?_
            refine (AllReadyH.cons rfl (fun K hK => ?_) AllReadyH.nil)
            have hgl := rowLt hg
            go_simp
            refine (HSP.out _ _ _ _ _ hot.sl (fun h => by cases h) (fun ad h => ⟨_, _, (Option.some.inj h).symm⟩) (Nat.le_refl _)).mono ?_
            rintro e v7 ⟨Ar, cr, rfl, hmc, hcm, hown, hbn⟩
            have hg := rowB hg hbn
            obtain ⟨lo, hi, hOw, hlo⟩ := own_tight hown (Nat.le_refl _) hbn.size
            have hlY := Nat.le_trans hHeld.size hlo
            have hgd : g < lo ∨ hi ≤ g := Or.inl (by omega)
            clear hown hlo
            refine hK.out _ _ (hHeld.trans (hbn.mono hHeld.size)) (fun hHeld => ?_)
            clear hK K hbn
            refine wpAnyH_takeD (i := 5) (d := 21) (v := ?_) rfl (by kernel_rfl) (by kernel_rfl) (by kernel_rfl) (fun _ _ _ h => h) (by rfl) ?_ hHeld ?_
            rotate_left
            · intro wS hS
              have eF := HF.out wS hS
              go_simp
              try with_reducible rfl
            simp only [Act.put, List.setIfInBounds_toArray, List.set_cons_zero, List.set_cons_succ]
            refine wpAnyH_takeD (i := 6) (d := 27) (v := ?_) rfl (by kernel_rfl) (by kernel_rfl) (by kernel_rfl) (fun _ _ _ h => h) (by rfl) ?_ hHeld ?_
            rotate_left
            · intro wS hS
              have eF := HF.out wS hS
              go_simp
              try with_reducible rfl
            simp only [Act.put, List.setIfInBounds_toArray, List.set_cons_zero, List.set_cons_succ]
            refine wpAnyH_takeD (i := 7) (d := 28) (v := ?_) rfl (by kernel_rfl) (by kernel_rfl) (by kernel_rfl) (fun _ _ _ h => h) (by rfl) ?_ hHeld ?_
            rotate_left
            · intro wS hS
              have eF := HF.out wS hS
              go_simp
              try with_reducible rfl
            simp only [Act.put, List.setIfInBounds_toArray, List.set_cons_zero, List.set_cons_succ]
            refine wpAnyH_store (fuel := 1) (i := 9) rfl (by kernel_rfl) g 0 (.agg #[.slice Ar m cr, .int .i64 I', .int .i64 H', .int .i64 S', .int .i64 P']) 26 #[.slice none 0 0, .int .i64 0, .int .i64 0, .int .i64 0, .int .i64 0] rfl rfl infoWorks hg (Nat.le_refl 5) (by simp [Value.cells, Value.oneCell']) (fun w' hg' => hHeld.grown hg' hHeld.size (fun k hk => by cases hk; exact hgle)) ?ksa2
            case ksa2 =>
              intro v8 hh hgw hS3
              clear hHeld
              have hHeld := hS3
              have hOw := own_but hOw hgw hgd
              refine wpAnyH_takeD (i := 10) (d := 7) (v := ?_) rfl (by kernel_rfl) (by kernel_rfl) (by kernel_rfl) (fun _ _ _ h => h) (by rfl) ?_ hHeld ?_
              rotate_left
              · intro wS hS
                have eF := HF.out wS hS
                go_simp
                try with_reducible rfl
              simp only [Act.put, List.setIfInBounds_toArray, List.set_cons_zero, List.set_cons_succ]
              refine wpAnyH_done (by kernel_rfl) ?_ _
              go_wp2_with fail
              go_meet
              case rel => exact ⟨g, lo, hi, cr, Ar, rfl, rfl, hgle, hlY, hgd, hmc, hh, hOw, hHeld⟩
        · go_simp
          have hg := heap_alloc_new v1 (.cells #[.slice none 0 0, .int .i64 0, .int .i64 0, .int .i64 0, .int .i64 0] 26)
          have hS2 := hHeld.alloc hHeld.size (.cells #[.slice none 0 0, .int .i64 0, .int .i64 0, .int .i64 0, .int .i64 0] 26)
          have hgle := hHeld.size
          have hot := hot.below ((Below.refl _ v1).alloc (Nat.le_refl _) (.cells #[.slice none 0 0, .int .i64 0, .int .i64 0, .int .i64 0, .int .i64 0] 26))
          obtain ⟨g, hge⟩ : ∃ g, v1.heap.size = g := ⟨_, rfl⟩
          rw [hge] at hg hgle
          try rw [hge]
          obtain ⟨v9, hve⟩ : ∃ v, v1.alloc (.cells #[.slice none 0 0, .int .i64 0, .int .i64 0, .int .i64 0, .int .i64 0] 26) = v := ⟨_, rfl⟩
          rw [hve] at hg hS2 hot
          rw [hve]
          refine hK.out _ _ hS2 (fun hHeld => ?_)
          clear hK K hve hge
          refine wpAnyH_ready (rs := [3]) (by kernel_rfl) (by simp) ?_
          refine (AllReadyH.cons rfl (fun K hK => ?_) AllReadyH.nil)
          go_simp
          refine (toWorksStep_any _ _ _ _ _).mono ?_
          rintro e v10 ⟨rfl, hbn⟩
          have hg := rowB hg hbn
          have hot := hot.below hbn
          refine hK.out _ _ (hHeld.trans (hbn.mono hHeld.size)) (fun hHeld => ?_)
          clear hK K hbn
          refine wpAnyH_ready (rs := [4]) (by kernel_rfl) (by simp) ?_
          refine (AllReadyH.cons rfl (fun K hK => ?_) AllReadyH.nil)
          have hgl := rowLt hg
          go_simp
          refine (HSP.out _ _ _ _ _ hot.sl (fun h => by cases h) (fun ad h => ⟨_, _, (Option.some.inj h).symm⟩) (Nat.le_refl _)).mono ?_
          rintro e v11 ⟨Ar, cr, rfl, hmc, hcm, hown, hbn⟩
          have hg := rowB hg hbn
          obtain ⟨lo, hi, hOw, hlo⟩ := own_tight hown (Nat.le_refl _) hbn.size
          have hlY := Nat.le_trans hHeld.size hlo
          have hgd : g < lo ∨ hi ≤ g := Or.inl (by omega)
          clear hown hlo
          refine hK.out _ _ (hHeld.trans (hbn.mono hHeld.size)) (fun hHeld => ?_)
          clear hK K hbn
          refine wpAnyH_takeD (i := 5) (d := 21) (v := ?_) rfl (by kernel_rfl) (by kernel_rfl) (by kernel_rfl) (fun _ _ _ h => h) (by rfl) ?_ hHeld ?_
          rotate_left
          · intro wS hS
            have eF := HF.out wS hS
            go_simp
            try with_reducible rfl
          simp only [Act.put, List.setIfInBounds_toArray, List.set_cons_zero, List.set_cons_succ]
          refine wpAnyH_takeD (i := 6) (d := 27) (v := ?_) rfl (by kernel_rfl) (by kernel_rfl) (by kernel_rfl) (fun _ _ _ h => h) (by rfl) ?_ hHeld ?_
          rotate_left
          · intro wS hS
            have eF := HF.out wS hS
            go_simp
            try with_reducible rfl
          simp only [Act.put, List.setIfInBounds_toArray, List.set_cons_zero, List.set_cons_succ]
          refine wpAnyH_takeD (i := 7) (d := 28) (v := ?_) rfl (by kernel_rfl) (by kernel_rfl) (by kernel_rfl) (fun _ _ _ h => h) (by rfl) ?_ hHeld ?_
          rotate_left
          · intro wS hS
            have eF := HF.out wS hS
            go_simp
            try with_reducible rfl
          simp only [Act.put, List.setIfInBounds_toArray, List.set_cons_zero, List.set_cons_succ]
          refine wpAnyH_store (fuel := 1) (i := 9) rfl (by kernel_rfl) g 0 (.agg #[.slice Ar m cr, .int .i64 I', .int .i64 H', .int .i64 S', .int .i64 P']) 26 #[.slice none 0 0, .int .i64 0, .int .i64 0, .int .i64 0, .int .i64 0] rfl rfl infoWorks hg (Nat.le_refl 5) (by simp [Value.cells, Value.oneCell']) (fun w' hg' => hHeld.grown hg' hHeld.size (fun k hk => by cases hk; exact hgle)) ?ksa3
          case ksa3 =>
            intro v12 hh hgw hS3
            clear hHeld
            have hHeld := hS3
            have hOw := own_but hOw hgw hgd
            refine wpAnyH_takeD (i := 10) (d := 7) (v := ?_) rfl (by kernel_rfl) (by kernel_rfl) (by kernel_rfl) (fun _ _ _ h => h) (by rfl) ?_ hHeld ?_
            rotate_left
            · intro wS hS
              have eF := HF.out wS hS
              go_simp
              try with_reducible rfl
            simp only [Act.put, List.setIfInBounds_toArray, List.set_cons_zero, List.set_cons_succ]
            refine wpAnyH_done (by kernel_rfl) ?_ _
            go_wp2_with fail
            go_meet
            case rel => exact ⟨g, lo, hi, cr, Ar, rfl, rfl, hgle, hlY, hgd, hmc, hh, hOw, hHeld⟩
      · go_simp
        have hg := heap_alloc_new v0 (.cells #[.slice none 0 0, .int .i64 0, .int .i64 0, .int .i64 0, .int .i64 0] 26)
        have hS2 := hHeld.alloc hHeld.size (.cells #[.slice none 0 0, .int .i64 0, .int .i64 0, .int .i64 0, .int .i64 0] 26)
        have hgle := hHeld.size
        obtain ⟨g, hge⟩ : ∃ g, v0.heap.size = g := ⟨_, rfl⟩
        rw [hge] at hg hgle
        try rw [hge]
        obtain ⟨v13, hve⟩ : ∃ v, v0.alloc (.cells #[.slice none 0 0, .int .i64 0, .int .i64 0, .int .i64 0, .int .i64 0] 26) = v := ⟨_, rfl⟩
        rw [hve] at hg hS2
        rw [hve]
        refine hK.out _ _ hS2 (fun hHeld => ?_)
        clear hK K hve hge
        refine wpAnyH_ready (rs := [1]) (by kernel_rfl) (by simp) ?_
        refine (AllReadyH.cons rfl (fun K hK => ?_) AllReadyH.nil)
        go_simp
        refine (toWorks_any A0 n0 c0 0 w.heap.size f0 I0 H0 S0 P0 _ (HSL.out _ (BX.trans (hHeld.mono BX.size))) hbig hnc0).mono ?_
        rintro e v14 ⟨gt, rfl, lt2, kt2, hot, hbn⟩
        have hg := rowB hg hbn
        refine hK.out _ _ (hHeld.trans (hbn.mono hHeld.size)) (fun hHeld => ?_)
        clear hK K hbn
        refine wpAnyH_ready (rs := [3]) (by kernel_rfl) (by simp) ?_
        refine (AllReadyH.cons rfl (fun K hK => ?_) AllReadyH.nil)
        go_simp
        refine (toWorksStep_any _ _ _ _ _).mono ?_
        rintro e v15 ⟨rfl, hbn⟩
        have hg := rowB hg hbn
        have hot := hot.below hbn
        refine hK.out _ _ (hHeld.trans (hbn.mono hHeld.size)) (fun hHeld => ?_)
        clear hK K hbn
        refine wpAnyH_ready (rs := [4]) (by kernel_rfl) (by simp) ?_
        refine (AllReadyH.cons rfl (fun K hK => ?_) AllReadyH.nil)
        have hgl := rowLt hg
        go_simp
        refine (HSP.out _ _ _ _ _ hot.sl (fun h => by cases h) (fun ad h => ⟨_, _, (Option.some.inj h).symm⟩) (Nat.le_refl _)).mono ?_
        rintro e v16 ⟨Ar, cr, rfl, hmc, hcm, hown, hbn⟩
        have hg := rowB hg hbn
        obtain ⟨lo, hi, hOw, hlo⟩ := own_tight hown (Nat.le_refl _) hbn.size
        have hlY := Nat.le_trans hHeld.size hlo
        have hgd : g < lo ∨ hi ≤ g := Or.inl (by omega)
        clear hown hlo
        refine hK.out _ _ (hHeld.trans (hbn.mono hHeld.size)) (fun hHeld => ?_)
        clear hK K hbn
        refine wpAnyH_takeD (i := 5) (d := 21) (v := ?_) rfl (by kernel_rfl) (by kernel_rfl) (by kernel_rfl) (fun _ _ _ h => h) (by rfl) ?_ hHeld ?_
        rotate_left
        · intro wS hS
          have eF := HF.out wS hS
          go_simp
          try with_reducible rfl
        simp only [Act.put, List.setIfInBounds_toArray, List.set_cons_zero, List.set_cons_succ]
        refine wpAnyH_takeD (i := 6) (d := 27) (v := ?_) rfl (by kernel_rfl) (by kernel_rfl) (by kernel_rfl) (fun _ _ _ h => h) (by rfl) ?_ hHeld ?_
        rotate_left
        · intro wS hS
          have eF := HF.out wS hS
          go_simp
          try with_reducible rfl
        simp only [Act.put, List.setIfInBounds_toArray, List.set_cons_zero, List.set_cons_succ]
        refine wpAnyH_takeD (i := 7) (d := 28) (v := ?_) rfl (by kernel_rfl) (by kernel_rfl) (by kernel_rfl) (fun _ _ _ h => h) (by rfl) ?_ hHeld ?_
        rotate_left
        · intro wS hS
          have eF := HF.out wS hS
          go_simp
          try with_reducible rfl
        simp only [Act.put, List.setIfInBounds_toArray, List.set_cons_zero, List.set_cons_succ]
        refine wpAnyH_store (fuel := 1) (i := 9) rfl (by kernel_rfl) g 0 (.agg #[.slice Ar m cr, .int .i64 I', .int .i64 H', .int .i64 S', .int .i64 P']) 26 #[.slice none 0 0, .int .i64 0, .int .i64 0, .int .i64 0, .int .i64 0] rfl rfl infoWorks hg (Nat.le_refl 5) (by simp [Value.cells, Value.oneCell']) (fun w' hg' => hHeld.grown hg' hHeld.size (fun k hk => by cases hk; exact hgle)) ?ksa4
        case ksa4 =>
          intro v17 hh hgw hS3
          clear hHeld
          have hHeld := hS3
          have hOw := own_but hOw hgw hgd
          refine wpAnyH_takeD (i := 10) (d := 7) (v := ?_) rfl (by kernel_rfl) (by kernel_rfl) (by kernel_rfl) (fun _ _ _ h => h) (by rfl) ?_ hHeld ?_
          rotate_left
          · intro wS hS
            have eF := HF.out wS hS
            go_simp
            try with_reducible rfl
          simp only [Act.put, List.setIfInBounds_toArray, List.set_cons_zero, List.set_cons_succ]
          refine wpAnyH_done (by kernel_rfl) ?_ _
          go_wp2_with fail
          go_meet
          case rel => exact ⟨g, lo, hi, cr, Ar, rfl, rfl, hgle, hlY, hgd, hmc, hh, hOw, hHeld⟩
    case rest =>
      obtain ⟨ga, la, ha, ca, Aa, rfl, rfl, g1a, l1a, d1a, m1a, hra, hoa, hba⟩ := hcut
      obtain ⟨wy, hwy⟩ : ∃ v, wc = v := ⟨_, rfl⟩
      rw [hwy] at hra hoa hba
      try rw [hwy]
      clear hwy wc
      have s2y := hba.size
      have BX := below_of BX hba BX.size
      have hla := rowLt hra
      have hha := hoa.hi_le
      clear HF hba
      obtain ⟨b0, b1, b2, b3, b4, s0, s1, s2, s3⟩ := HF0.out wy BX
      go_wp2_with fail
      refine (toWorks_any A0 n0 c0 0 w.heap.size f0 I0 H0 S0 P0 wy (HSL.out _ BX) hbig hnc0).mono ?_
      rintro e w4 ⟨g4, rfl, l4, k4, hox, hb4⟩
      clear b0 b1 b2 b3 b4 s0 s1 s2 s3
      go_upto_region 7 with fail
      refine name_wp ?_
      intro w5 hw5
      have hb45 : Below w4.heap.size w4 w5 := by rw [hw5]; exact (Below.refl _ _).alloc (Nat.le_refl _) _
      have hrx : w5.heap[w4.heap.size]? = some (.cells #[.slice (some ⟨g4, 0, none⟩) n0 n0, .int .i64 I0, .int .i64 H0, .int .i64 S0, .int .i64 P0] 26 (0, 0)) := by rw [hw5]; exact heap_alloc_new w4 _
      have hb5 := hb4.trans (hb45.mono hb4.size)
      have BX := below_of BX hb5 BX.size
      have hra := rowB hra hb5
      have hoa := hoa.below hb5
      have hox := hox.below hb45
      have hlx := rowLt hrx
      clear hw5 hb4 hb45
      generalize hgx : w4.heap.size = gx at *
      have HF : Hid (∀ w', Below w5.heap.size w5 w' → (w'.cell? ⟨w.heap.size, 0, none⟩ = some (.slice A0 n0 c0) ∧ w'.cell? ⟨w.heap.size, 1, none⟩ = some (.int .i64 I0) ∧ w'.cell? ⟨w.heap.size, 2, none⟩ = some (.int .i64 H0) ∧ w'.cell? ⟨w.heap.size, 3, none⟩ = some (.int .i64 S0) ∧ w'.cell? ⟨w.heap.size, 4, none⟩ = some (.int .i64 P0) ∧ w'.cell? ⟨w.heap.size + 1, 0, none⟩ = some (.int .i64 (f1 0)) ∧ w'.cell? ⟨w.heap.size + 1, 1, none⟩ = some (.int .i64 (f1 1)) ∧ w'.cell? ⟨w.heap.size + 1, 2, none⟩ = some (.int .i64 (f1 2)) ∧ w'.cell? ⟨w.heap.size + 1, 3, none⟩ = some (.int .i64 (f1 3))) ∧ w'.cell? ⟨gx, 0, none⟩ = some (.slice (some ⟨g4, 0, none⟩) n0 n0) ∧ w'.cell? ⟨gx, 1, none⟩ = some (.int .i64 I0) ∧ w'.cell? ⟨gx, 2, none⟩ = some (.int .i64 H0) ∧ w'.cell? ⟨gx, 3, none⟩ = some (.int .i64 S0) ∧ w'.cell? ⟨gx, 4, none⟩ = some (.int .i64 P0)) := by
        intro w' hq
        have hx := rowB hrx hq
        exact ⟨HF0.out w' (BX.trans (hq.mono BX.size)), by rw [cell_of_row w' gx 0 _ _ (0, 0) hx]; rfl, by rw [cell_of_row w' gx 1 _ _ (0, 0) hx]; rfl, by rw [cell_of_row w' gx 2 _ _ (0, 0) hx]; rfl, by rw [cell_of_row w' gx 3 _ _ (0, 0) hx]; rfl, by rw [cell_of_row w' gx 4 _ _ (0, 0) hx]; rfl⟩
      have HSX : Hid (∀ w', Below w5.heap.size w5 w' → Sl w' g4 (g4 + 1) 4 (some ⟨g4, 0, none⟩) n0 f0) := fun w' hq => (hox.below hq).sl
      go_cut [9, 10] (fun sa sb wx => ∃ (g lo hi c' : Nat) (A' : Option Addr), sa = .pointer (some ⟨g, 0, none⟩) ∧ sb = .bool ok ∧ w5.heap.size ≤ g ∧ w5.heap.size ≤ lo ∧ (g < lo ∨ hi ≤ g) ∧ m ≤ c' ∧ wx.heap[g]? = some (.cells #[.slice A' m c', .int .i64 I', .int .i64 H', .int .i64 S', .int .i64 P'] 26 (0, 0)) ∧ Own wx lo hi 87 4 A' m (lf L) ∧ Below w5.heap.size w5 wx)
      case first =>
        refine wp_region_held_drew (S := fun w' => Below w5.heap.size w5 w') (by kernel_rfl) ((Below.refl _ _).drew) (fun hHeld => ?_)
        obtain ⟨v0, hv0⟩ : ∃ v, w5.drew = v := ⟨_, rfl⟩
        rw [hv0] at hHeld ⊢
        clear hv0
        refine wpAnyH_takeD (i := 0) (d := 32) (v := ?_) rfl (by kernel_rfl) (by kernel_rfl) (by kernel_rfl) (fun _ _ _ h => h) (by rfl) ?_ hHeld ?_
        rotate_left
        · intro wS hS
          have eF := HF.out wS hS
          go_simp
          try with_reducible rfl
        simp only [Act.put, List.setIfInBounds_toArray, List.set_cons_zero, List.set_cons_succ]
        refine wpAnyH_takeD (i := 1) (d := 33) (v := ?_) rfl (by kernel_rfl) (by kernel_rfl) (by kernel_rfl) (fun _ _ _ h => h) (by rfl) ?_ hHeld ?_
        rotate_left
        · intro wS hS
          have eF := HF.out wS hS
          go_simp
          try with_reducible rfl
        simp only [Act.put, List.setIfInBounds_toArray, List.set_cons_zero, List.set_cons_succ]
        refine wpAnyH_ready (rs := [2, 7]) (by kernel_rfl) (by simp) ?_
        refine (AllReadyH.cons rfl (fun K hK => ?_) (AllReadyH.cons rfl (fun K hK => ?_) AllReadyH.nil))
        · go_simp
          refine (toWorksStep_any _ _ _ _ _).mono ?_
          rintro e v1 ⟨rfl, hbn⟩
          refine hK.out _ _ (hHeld.trans (hbn.mono hHeld.size)) (fun hHeld => ?_)
          clear hK K hbn
          refine wpAnyH_ready (rs := [3, 7]) (by kernel_rfl) (by simp) ?_
          refine (AllReadyH.cons rfl (fun K hK => ?_) (AllReadyH.cons rfl (fun K hK => ?_) AllReadyH.nil))
          · go_simp
            refine (HIP.out _ _ _ _ _ (HSX.out _ hHeld) (fun h => by cases h) (fun ad h => ⟨_, _, (Option.some.inj h).symm⟩) (Nat.le_refl _)).mono ?_
            rintro e v2 ⟨Ar, cr, rfl, hmc, hcm, hown, hbn⟩
            obtain ⟨lo, hi, hOw, hlo⟩ := own_tight hown (Nat.le_refl _) hbn.size
            have hlY := Nat.le_trans hHeld.size hlo
            clear hown hlo
            refine hK.out _ _ (hHeld.trans (hbn.mono hHeld.size)) (fun hHeld => ?_)
            clear hK K hbn
            refine wpAnyH_takeD (i := 4) (d := 31) (v := ?_) rfl (by kernel_rfl) (by kernel_rfl) (by kernel_rfl) (fun _ _ _ h => h) (by rfl) ?_ hHeld ?_
            rotate_left
            · intro wS hS
              have eF := HF.out wS hS
              go_simp
              try with_reducible rfl
            simp only [Act.put, List.setIfInBounds_toArray, List.set_cons_zero, List.set_cons_succ]
            refine wpAnyH_takeD (i := 5) (d := 36) (v := ?_) rfl (by kernel_rfl) (by kernel_rfl) (by kernel_rfl) (fun _ _ _ h => h) (by rfl) ?_ hHeld ?_
            rotate_left
            · intro wS hS
              have eF := HF.out wS hS
              go_simp
              try with_reducible rfl
            simp only [Act.put, List.setIfInBounds_toArray, List.set_cons_zero, List.set_cons_succ]
            refine wpAnyH_takeD (i := 6) (d := 37) (v := ?_) rfl (by kernel_rfl) (by kernel_rfl) (by kernel_rfl) (fun _ _ _ h => h) (by rfl) ?_ hHeld ?_
            rotate_left
            · intro wS hS
              have eF := HF.out wS hS
              go_simp
              try with_reducible rfl
            simp only [Act.put, List.setIfInBounds_toArray, List.set_cons_zero, List.set_cons_succ]
            refine wpAnyH_ready (rs := [7]) (by kernel_rfl) (by simp) ?_
            refine (AllReadyH.cons rfl (fun K hK => ?_) AllReadyH.nil)
            go_simp
            have hg := heap_alloc_new v2 (.cells #[.slice none 0 0, .int .i64 0, .int .i64 0, .int .i64 0, .int .i64 0] 26)
            have hS2 := hHeld.alloc hHeld.size (.cells #[.slice none 0 0, .int .i64 0, .int .i64 0, .int .i64 0, .int .i64 0] 26)
            have hgle := hHeld.size
            have hgd : v2.heap.size < lo ∨ hi ≤ v2.heap.size := Or.inr hOw.hi_le
            have hOw := hOw.below ((Below.refl _ v2).alloc (Nat.le_refl _) (.cells #[.slice none 0 0, .int .i64 0, .int .i64 0, .int .i64 0, .int .i64 0] 26))
            obtain ⟨g, hge⟩ : ∃ g, v2.heap.size = g := ⟨_, rfl⟩
            rw [hge] at hg hgle hgd
            try rw [hge]
            obtain ⟨v3, hve⟩ : ∃ v, v2.alloc (.cells #[.slice none 0 0, .int .i64 0, .int .i64 0, .int .i64 0, .int .i64 0] 26) = v := ⟨_, rfl⟩
            rw [hve] at hg hS2 hOw
            rw [hve]
            refine hK.out _ _ hS2 (fun hHeld => ?_)
            clear hK K hve hge
            refine wpAnyH_store (fuel := 1) (i := 8) rfl (by kernel_rfl) g 0 (.agg #[.slice Ar m cr, .int .i64 I', .int .i64 H', .int .i64 S', .int .i64 P']) 26 #[.slice none 0 0, .int .i64 0, .int .i64 0, .int .i64 0, .int .i64 0] rfl rfl infoWorks hg (Nat.le_refl 5) (by simp [Value.cells, Value.oneCell']) (fun w' hg' => hHeld.grown hg' hHeld.size (fun k hk => by cases hk; exact hgle)) ?ksb1
            case ksb1 =>
              intro v4 hh hgw hS3
              clear hHeld
              have hHeld := hS3
              have hOw := own_but hOw hgw hgd
              refine wpAnyH_takeD (i := 9) (d := 10) (v := ?_) rfl (by kernel_rfl) (by kernel_rfl) (by kernel_rfl) (fun _ _ _ h => h) (by rfl) ?_ hHeld ?_
              rotate_left
              · intro wS hS
                have eF := HF.out wS hS
                go_simp
                try with_reducible rfl
              simp only [Act.put, List.setIfInBounds_toArray, List.set_cons_zero, List.set_cons_succ]
              refine wpAnyH_done (by kernel_rfl) ?_ _
              go_wp2_with fail
              go_meet
              case rel => exact ⟨g, lo, hi, cr, Ar, rfl, rfl, hgle, hlY, hgd, hmc, hh, hOw, hHeld⟩
          · go_simp
            have hg := heap_alloc_new v1 (.cells #[.slice none 0 0, .int .i64 0, .int .i64 0, .int .i64 0, .int .i64 0] 26)
            have hS2 := hHeld.alloc hHeld.size (.cells #[.slice none 0 0, .int .i64 0, .int .i64 0, .int .i64 0, .int .i64 0] 26)
            have hgle := hHeld.size
            obtain ⟨g, hge⟩ : ∃ g, v1.heap.size = g := ⟨_, rfl⟩
            rw [hge] at hg hgle
            try rw [hge]
            obtain ⟨v5, hve⟩ : ∃ v, v1.alloc (.cells #[.slice none 0 0, .int .i64 0, .int .i64 0, .int .i64 0, .int .i64 0] 26) = v := ⟨_, rfl⟩
            rw [hve] at hg hS2
            rw [hve]
            refine hK.out _ _ hS2 (fun hHeld => ?_)
            clear hK K hve hge
            refine wpAnyH_ready (rs := [3]) (by kernel_rfl) (by simp) ?_
            refine (AllReadyH.cons rfl (fun K hK => ?_) AllReadyH.nil)
            have hgl := rowLt hg
            go_simp
            refine (HIP.out _ _ _ _ _ (HSX.out _ hHeld) (fun h => by cases h) (fun ad h => ⟨_, _, (Option.some.inj h).symm⟩) (Nat.le_refl _)).mono ?_
            rintro e v6 ⟨Ar, cr, rfl, hmc, hcm, hown, hbn⟩
            have hg := rowB hg hbn
            obtain ⟨lo, hi, hOw, hlo⟩ := own_tight hown (Nat.le_refl _) hbn.size
            have hlY := Nat.le_trans hHeld.size hlo
            have hgd : g < lo ∨ hi ≤ g := Or.inl (by omega)
            clear hown hlo
            refine hK.out _ _ (hHeld.trans (hbn.mono hHeld.size)) (fun hHeld => ?_)
            clear hK K hbn
            refine wpAnyH_takeD (i := 4) (d := 31) (v := ?_) rfl (by kernel_rfl) (by kernel_rfl) (by kernel_rfl) (fun _ _ _ h => h) (by rfl) ?_ hHeld ?_
            rotate_left
            · intro wS hS
              have eF := HF.out wS hS
              go_simp
              try with_reducible rfl
            simp only [Act.put, List.setIfInBounds_toArray, List.set_cons_zero, List.set_cons_succ]
            refine wpAnyH_takeD (i := 5) (d := 36) (v := ?_) rfl (by kernel_rfl) (by kernel_rfl) (by kernel_rfl) (fun _ _ _ h => h) (by rfl) ?_ hHeld ?_
            rotate_left
            · intro wS hS
              have eF := HF.out wS hS
              go_simp
              try with_reducible rfl
            simp only [Act.put, List.setIfInBounds_toArray, List.set_cons_zero, List.set_cons_succ]
            refine wpAnyH_takeD (i := 6) (d := 37) (v := ?_) rfl (by kernel_rfl) (by kernel_rfl) (by kernel_rfl) (fun _ _ _ h => h) (by rfl) ?_ hHeld ?_
            rotate_left
            · intro wS hS
              have eF := HF.out wS hS
              go_simp
              try with_reducible rfl
            simp only [Act.put, List.setIfInBounds_toArray, List.set_cons_zero, List.set_cons_succ]
            refine wpAnyH_store (fuel := 1) (i := 8) rfl (by kernel_rfl) g 0 (.agg #[.slice Ar m cr, .int .i64 I', .int .i64 H', .int .i64 S', .int .i64 P']) 26 #[.slice none 0 0, .int .i64 0, .int .i64 0, .int .i64 0, .int .i64 0] rfl rfl infoWorks hg (Nat.le_refl 5) (by simp [Value.cells, Value.oneCell']) (fun w' hg' => hHeld.grown hg' hHeld.size (fun k hk => by cases hk; exact hgle)) ?ksb2
            case ksb2 =>
              intro v7 hh hgw hS3
              clear hHeld
              have hHeld := hS3
              have hOw := own_but hOw hgw hgd
              refine wpAnyH_takeD (i := 9) (d := 10) (v := ?_) rfl (by kernel_rfl) (by kernel_rfl) (by kernel_rfl) (fun _ _ _ h => h) (by rfl) ?_ hHeld ?_
              rotate_left
              · intro wS hS
                have eF := HF.out wS hS
                go_simp
                try with_reducible rfl
              simp only [Act.put, List.setIfInBounds_toArray, List.set_cons_zero, List.set_cons_succ]
              refine wpAnyH_done (by kernel_rfl) ?_ _
              go_wp2_with fail
              go_meet
              case rel => exact ⟨g, lo, hi, cr, Ar, rfl, rfl, hgle, hlY, hgd, hmc, hh, hOw, hHeld⟩
        · go_simp
          have hg := heap_alloc_new v0 (.cells #[.slice none 0 0, .int .i64 0, .int .i64 0, .int .i64 0, .int .i64 0] 26)
          have hS2 := hHeld.alloc hHeld.size (.cells #[.slice none 0 0, .int .i64 0, .int .i64 0, .int .i64 0, .int .i64 0] 26)
          have hgle := hHeld.size
          obtain ⟨g, hge⟩ : ∃ g, v0.heap.size = g := ⟨_, rfl⟩
          rw [hge] at hg hgle
          try rw [hge]
          obtain ⟨v8, hve⟩ : ∃ v, v0.alloc (.cells #[.slice none 0 0, .int .i64 0, .int .i64 0, .int .i64 0, .int .i64 0] 26) = v := ⟨_, rfl⟩
          rw [hve] at hg hS2
          rw [hve]
          refine hK.out _ _ hS2 (fun hHeld => ?_)
          clear hK K hve hge
          refine wpAnyH_ready (rs := [2]) (by kernel_rfl) (by simp) ?_
          refine (AllReadyH.cons rfl (fun K hK => ?_) AllReadyH.nil)
          go_simp
          refine (toWorksStep_any _ _ _ _ _).mono ?_
          rintro e v9 ⟨rfl, hbn⟩
          have hg := rowB hg hbn
          refine hK.out _ _ (hHeld.trans (hbn.mono hHeld.size)) (fun hHeld => ?_)
          clear hK K hbn
          refine wpAnyH_ready (rs := [3]) (by kernel_rfl) (by simp) ?_
          refine (AllReadyH.cons rfl (fun K hK => ?_) AllReadyH.nil)
          have hgl := rowLt hg
          go_simp
          refine (HIP.out _ _ _ _ _ (HSX.out _ hHeld) (fun h => by cases h) (fun ad h => ⟨_, _, (Option.some.inj h).symm⟩) (Nat.le_refl _)).mono ?_
          rintro e v10 ⟨Ar, cr, rfl, hmc, hcm, hown, hbn⟩
          have hg := rowB hg hbn
          obtain ⟨lo, hi, hOw, hlo⟩ := own_tight hown (Nat.le_refl _) hbn.size
          have hlY := Nat.le_trans hHeld.size hlo
          have hgd : g < lo ∨ hi ≤ g := Or.inl (by omega)
          clear hown hlo
          refine hK.out _ _ (hHeld.trans (hbn.mono hHeld.size)) (fun hHeld => ?_)
          clear hK K hbn
          refine wpAnyH_takeD (i := 4) (d := 31) (v := ?_) rfl (by kernel_rfl) (by kernel_rfl) (by kernel_rfl) (fun _ _ _ h => h) (by rfl) ?_ hHeld ?_
          rotate_left
          · intro wS hS
            have eF := HF.out wS hS
            go_simp
            try with_reducible rfl
          simp only [Act.put, List.setIfInBounds_toArray, List.set_cons_zero, List.set_cons_succ]
          refine wpAnyH_takeD (i := 5) (d := 36) (v := ?_) rfl (by kernel_rfl) (by kernel_rfl) (by kernel_rfl) (fun _ _ _ h => h) (by rfl) ?_ hHeld ?_
          rotate_left
          · intro wS hS
            have eF := HF.out wS hS
            go_simp
            try with_reducible rfl
          simp only [Act.put, List.setIfInBounds_toArray, List.set_cons_zero, List.set_cons_succ]
          refine wpAnyH_takeD (i := 6) (d := 37) (v := ?_) rfl (by kernel_rfl) (by kernel_rfl) (by kernel_rfl) (fun _ _ _ h => h) (by rfl) ?_ hHeld ?_
          rotate_left
          · intro wS hS
            have eF := HF.out wS hS
            go_simp
            try with_reducible rfl
          simp only [Act.put, List.setIfInBounds_toArray, List.set_cons_zero, List.set_cons_succ]
          refine wpAnyH_store (fuel := 1) (i := 8) rfl (by kernel_rfl) g 0 (.agg #[.slice Ar m cr, .int .i64 I', .int .i64 H', .int .i64 S', .int .i64 P']) 26 #[.slice none 0 0, .int .i64 0, .int .i64 0, .int .i64 0, .int .i64 0] rfl rfl infoWorks hg (Nat.le_refl 5) (by simp [Value.cells, Value.oneCell']) (fun w' hg' => hHeld.grown hg' hHeld.size (fun k hk => by cases hk; exact hgle)) ?ksb3
          case ksb3 =>
            intro v11 hh hgw hS3
            clear hHeld
            have hHeld := hS3
            have hOw := own_but hOw hgw hgd
            refine wpAnyH_takeD (i := 9) (d := 10) (v := ?_) rfl (by kernel_rfl) (by kernel_rfl) (by kernel_rfl) (fun _ _ _ h => h) (by rfl) ?_ hHeld ?_
            rotate_left
            · intro wS hS
              have eF := HF.out wS hS
              go_simp
              try with_reducible rfl
            simp only [Act.put, List.setIfInBounds_toArray, List.set_cons_zero, List.set_cons_succ]
            refine wpAnyH_done (by kernel_rfl) ?_ _
            go_wp2_with fail
            go_meet
            case rel => exact ⟨g, lo, hi, cr, Ar, rfl, rfl, hgle, hlY, hgd, hmc, hh, hOw, hHeld⟩
      case rest =>
        obtain ⟨gb, lb, hb, cb, Ab, rfl, rfl, g1b, l1b, d1b, m1b, hrb, hob, hbb⟩ := hcut
        obtain ⟨w6, hwy⟩ : ∃ v, wc = v := ⟨_, rfl⟩
        rw [hwy] at hrb hob hbb
        try rw [hwy]
        clear hwy wc
        have BX := below_of BX hbb BX.size
        have hra := rowB hra hbb
        have hoa := hoa.below hbb
        have hrx := rowB hrx hbb
        have hox := hox.below hbb
        have hlb := rowLt hrb
        have hhb := hob.hi_le
        clear HF hbb HSX
        have e0 : w6.cell? ⟨gb, 0, none⟩ = some (.slice Ab m cb) := by rw [cell_of_row w6 (gb) 0 _ _ (0, 0) hrb]; rfl
        have e1 : w6.cell? ⟨gb, 1, none⟩ = some (.int .i64 I') := by rw [cell_of_row w6 (gb) 1 _ _ (0, 0) hrb]; rfl
        have e2 : w6.cell? ⟨gb, 2, none⟩ = some (.int .i64 H') := by rw [cell_of_row w6 (gb) 2 _ _ (0, 0) hrb]; rfl
        have e3 : w6.cell? ⟨gb, 3, none⟩ = some (.int .i64 S') := by rw [cell_of_row w6 (gb) 3 _ _ (0, 0) hrb]; rfl
        have e4 : w6.cell? ⟨gb, 4, none⟩ = some (.int .i64 P') := by rw [cell_of_row w6 (gb) 4 _ _ (0, 0) hrb]; rfl
        have y0 : w6.cell? ⟨ga, 0, none⟩ = some (.slice Aa m ca) := by rw [cell_of_row w6 (ga) 0 _ _ (0, 0) hra]; rfl
        have y1 : w6.cell? ⟨ga, 1, none⟩ = some (.int .i64 I') := by rw [cell_of_row w6 (ga) 1 _ _ (0, 0) hra]; rfl
        have y2 : w6.cell? ⟨ga, 2, none⟩ = some (.int .i64 H') := by rw [cell_of_row w6 (ga) 2 _ _ (0, 0) hra]; rfl
        have y3 : w6.cell? ⟨ga, 3, none⟩ = some (.int .i64 S') := by rw [cell_of_row w6 (ga) 3 _ _ (0, 0) hra]; rfl
        have y4 : w6.cell? ⟨ga, 4, none⟩ = some (.int .i64 P') := by rw [cell_of_row w6 (ga) 4 _ _ (0, 0) hra]; rfl
        go_wp2_with fail
        refine (eqWorks_same Ab Aa m cb ca lb hb la ha (lf L) I' H' S' P' w6 hob.sl hoa.sl hm7 m1b m1a).mono ?_
        rintro e w7 ⟨rfl, hbq⟩
        have BX := below_of BX hbq BX.size
        have hra := rowB hra hbq
        have hrb := rowB hrb hbq
        have hrx := rowB hrx hbq
        have hoa := hoa.below hbq
        have hob := hob.below hbq
        have hox := hox.below hbq
        clear hbq e0 e1 e2 e3 e4 y0 y1 y2 y3 y4
        have HF : Hid (∀ w', Below w7.heap.size w7 w' → (w'.cell? ⟨w.heap.size, 0, none⟩ = some (.slice A0 n0 c0) ∧ w'.cell? ⟨w.heap.size, 1, none⟩ = some (.int .i64 I0) ∧ w'.cell? ⟨w.heap.size, 2, none⟩ = some (.int .i64 H0) ∧ w'.cell? ⟨w.heap.size, 3, none⟩ = some (.int .i64 S0) ∧ w'.cell? ⟨w.heap.size, 4, none⟩ = some (.int .i64 P0) ∧ w'.cell? ⟨w.heap.size + 1, 0, none⟩ = some (.int .i64 (f1 0)) ∧ w'.cell? ⟨w.heap.size + 1, 1, none⟩ = some (.int .i64 (f1 1)) ∧ w'.cell? ⟨w.heap.size + 1, 2, none⟩ = some (.int .i64 (f1 2)) ∧ w'.cell? ⟨w.heap.size + 1, 3, none⟩ = some (.int .i64 (f1 3))) ∧ w'.cell? ⟨gx, 0, none⟩ = some (.slice (some ⟨g4, 0, none⟩) n0 n0) ∧ w'.cell? ⟨gx, 1, none⟩ = some (.int .i64 I0) ∧ w'.cell? ⟨gx, 2, none⟩ = some (.int .i64 H0) ∧ w'.cell? ⟨gx, 3, none⟩ = some (.int .i64 S0) ∧ w'.cell? ⟨gx, 4, none⟩ = some (.int .i64 P0)) := by
          intro w' hq
          have hx := rowB hrx hq
          exact ⟨HF0.out w' (BX.trans (hq.mono BX.size)), by rw [cell_of_row w' gx 0 _ _ (0, 0) hx]; rfl, by rw [cell_of_row w' gx 1 _ _ (0, 0) hx]; rfl, by rw [cell_of_row w' gx 2 _ _ (0, 0) hx]; rfl, by rw [cell_of_row w' gx 3 _ _ (0, 0) hx]; rfl, by rw [cell_of_row w' gx 4 _ _ (0, 0) hx]; rfl⟩
        have HSX : Hid (∀ w', Below w7.heap.size w7 w' → Sl w' g4 (g4 + 1) 4 (some ⟨g4, 0, none⟩) n0 f0) := fun w' hq => (hox.below hq).sl
        go_wp2_with fail
        refine wp_region_held_drew (S := fun w' => Below (w7).heap.size (w7) w') (by kernel_rfl) ((Below.refl _ _).drew) (fun hHeld => ?_)
        refine wpAnyH_takeD (i := 0) (d := 47) (v := ?_) rfl (by kernel_rfl) (by kernel_rfl) (by kernel_rfl) (fun _ _ _ h => h) (by rfl) ?_ hHeld ?_
        rotate_left
        · intro wS hS
          have eF := HF.out wS hS
          go_simp
          try with_reducible rfl
        simp only [Act.put, List.setIfInBounds_toArray, List.set_cons_zero, List.set_cons_succ]
        refine wpAnyH_takeD (i := 1) (d := 48) (v := ?_) rfl (by kernel_rfl) (by kernel_rfl) (by kernel_rfl) (fun _ _ _ h => h) (by rfl) ?_ hHeld ?_
        rotate_left
        · intro wS hS
          have eF := HF.out wS hS
          go_simp
          try with_reducible rfl
        simp only [Act.put, List.setIfInBounds_toArray, List.set_cons_zero, List.set_cons_succ]
        refine wpAnyH_ready (rs := [2]) (by kernel_rfl) (by simp) ?_
        refine AllReadyH.cons rfl (fun K hK => ?_) AllReadyH.nil
        go_simp
        (go_at_call 24; refine (toWorks_any A0 n0 c0 0 w.heap.size f0 I0 H0 S0 P0 _ (HSL.out _ (BX.trans (hHeld.mono BX.size))) hbig hnc0).mono ?_; rintro e wt ⟨gt, rfl, lt2, kt2, hot, hb2⟩)
        refine hK.out _ _ (hHeld.trans (hb2.mono hHeld.size)) (fun hHeld => ?_)
        clear hK K hb2
        refine wpAnyH_ready (rs := [3]) (by kernel_rfl) (by simp) ?_
        refine AllReadyH.cons rfl (fun K hK => ?_) AllReadyH.nil
        go_simp
        (go_at_call 26; refine (eqWorks_same _ _ n0 n0 n0 _ _ _ _ f0 I0 H0 S0 P0 wt (HSX.out _ hHeld) hot.sl hbig (Nat.le_refl _) (Nat.le_refl _)).mono ?_; rintro e w8 ⟨rfl, hb2⟩)
        refine hK.out _ _ (hHeld.trans (hb2.mono hHeld.size)) (fun hHeld => ?_)
        clear hK K hb2
        refine wpAnyH_takeD (i := 4) (d := 51) (v := ?_) rfl (by kernel_rfl) (by kernel_rfl) (by kernel_rfl) (fun _ _ _ h => h) (by rfl) ?_ hHeld ?_
        rotate_left
        · intro wS hS
          have eF := HF.out wS hS
          go_simp
          try with_reducible rfl
        simp only [Act.put, List.setIfInBounds_toArray, List.set_cons_zero, List.set_cons_succ]
        refine wpAnyH_done (by kernel_rfl) ?_ _
        have BX := below_of BX hHeld BX.size
        have hra := rowB hra hHeld
        have hrb := rowB hrb hHeld
        have hrx := rowB hrx hHeld
        have hoa := hoa.below hHeld
        have hob := hob.below hHeld
        have hox := hox.below hHeld
        clear HF HSX hHeld hot
        have x0 : w8.cell? ⟨gx, 0, none⟩ = some (.slice (some ⟨g4, 0, none⟩) n0 n0) := by rw [cell_of_row w8 (gx) 0 _ _ (0, 0) hrx]; rfl
        have x1 : w8.cell? ⟨gx, 1, none⟩ = some (.int .i64 I0) := by rw [cell_of_row w8 (gx) 1 _ _ (0, 0) hrx]; rfl
        have x2 : w8.cell? ⟨gx, 2, none⟩ = some (.int .i64 H0) := by rw [cell_of_row w8 (gx) 2 _ _ (0, 0) hrx]; rfl
        have x3 : w8.cell? ⟨gx, 3, none⟩ = some (.int .i64 S0) := by rw [cell_of_row w8 (gx) 3 _ _ (0, 0) hrx]; rfl
        have x4 : w8.cell? ⟨gx, 4, none⟩ = some (.int .i64 P0) := by rw [cell_of_row w8 (gx) 4 _ _ (0, 0) hrx]; rfl
        go_wp2_with fail
        refine (markWorks_any _ n0 n0 g4 (g4 + 1) 1 f0 I0 H0 S0 P0 w8 hox hbig (Nat.le_refl _) (by omega) (by omega)).mono ?_
        rintro e w9 ⟨rfl, _, hfr⟩
        have BX : Below ((w.alloc (.cells #[.slice A0 n0 c0, .int .i64 I0, .int .i64 H0, .int .i64 S0, .int .i64 P0] 50)).alloc (.cells #[.int .i64 (f1 0), .int .i64 (f1 1), .int .i64 (f1 2), .int .i64 (f1 3)] 51)).heap.size ((w.alloc (.cells #[.slice A0 n0 c0, .int .i64 I0, .int .i64 H0, .int .i64 S0, .int .i64 P0] 50)).alloc (.cells #[.int .i64 (f1 0), .int .i64 (f1 1), .int .i64 (f1 2), .int .i64 (f1 3)] 51)) w9 := BX.trans (hfr.below (by omega) BX.size)
        have hra := rowF hra hfr (by omega)
        have hrb := rowF hrb hfr (by omega)
        have hoa := hoa.fr hfr (by omega)
        have hob := hob.fr hfr (by omega)
        clear hfr hox hrx x0 x1 x2 x3 x4
        have e0 : w9.cell? ⟨gb, 0, none⟩ = some (.slice Ab m cb) := by rw [cell_of_row w9 (gb) 0 _ _ (0, 0) hrb]; rfl
        have e1 : w9.cell? ⟨gb, 1, none⟩ = some (.int .i64 I') := by rw [cell_of_row w9 (gb) 1 _ _ (0, 0) hrb]; rfl
        have e2 : w9.cell? ⟨gb, 2, none⟩ = some (.int .i64 H') := by rw [cell_of_row w9 (gb) 2 _ _ (0, 0) hrb]; rfl
        have e3 : w9.cell? ⟨gb, 3, none⟩ = some (.int .i64 S') := by rw [cell_of_row w9 (gb) 3 _ _ (0, 0) hrb]; rfl
        have e4 : w9.cell? ⟨gb, 4, none⟩ = some (.int .i64 P') := by rw [cell_of_row w9 (gb) 4 _ _ (0, 0) hrb]; rfl
        have y0 : w9.cell? ⟨ga, 0, none⟩ = some (.slice Aa m ca) := by rw [cell_of_row w9 (ga) 0 _ _ (0, 0) hra]; rfl
        have y1 : w9.cell? ⟨ga, 1, none⟩ = some (.int .i64 I') := by rw [cell_of_row w9 (ga) 1 _ _ (0, 0) hra]; rfl
        have y2 : w9.cell? ⟨ga, 2, none⟩ = some (.int .i64 H') := by rw [cell_of_row w9 (ga) 2 _ _ (0, 0) hra]; rfl
        have y3 : w9.cell? ⟨ga, 3, none⟩ = some (.int .i64 S') := by rw [cell_of_row w9 (ga) 3 _ _ (0, 0) hra]; rfl
        have y4 : w9.cell? ⟨ga, 4, none⟩ = some (.int .i64 P') := by rw [cell_of_row w9 (ga) 4 _ _ (0, 0) hra]; rfl
        have hn4 : ¬ ((1 : Int) + (n0 : Int) * 4 < 0) := by omega
        go_wp2_with fail
        refine (eqWorks_same Ab Aa m cb ca lb hb la ha (lf L) I' H' S' P' w9 hob.sl hoa.sl hm7 m1b m1a).mono ?_
        rintro e w10 ⟨rfl, hbq⟩
        have BX := below_of BX hbq BX.size
        have hra := rowB hra hbq
        have hrb := rowB hrb hbq
        have hoa := hoa.below hbq
        have hob := hob.below hbq
        clear hbq e0 e1 e2 e3 e4 y0 y1 y2 y3 y4
        have e0 : w10.cell? ⟨gb, 0, none⟩ = some (.slice Ab m cb) := by rw [cell_of_row w10 (gb) 0 _ _ (0, 0) hrb]; rfl
        have e1 : w10.cell? ⟨gb, 1, none⟩ = some (.int .i64 I') := by rw [cell_of_row w10 (gb) 1 _ _ (0, 0) hrb]; rfl
        have e2 : w10.cell? ⟨gb, 2, none⟩ = some (.int .i64 H') := by rw [cell_of_row w10 (gb) 2 _ _ (0, 0) hrb]; rfl
        have e3 : w10.cell? ⟨gb, 3, none⟩ = some (.int .i64 S') := by rw [cell_of_row w10 (gb) 3 _ _ (0, 0) hrb]; rfl
        have e4 : w10.cell? ⟨gb, 4, none⟩ = some (.int .i64 P') := by rw [cell_of_row w10 (gb) 4 _ _ (0, 0) hrb]; rfl
        go_wp2_with fail
        refine (markWorks_any Ab m cb lb hb 1 (lf L) I' H' S' P' w10 hob hm7 m1b (by omega) (by omega)).mono ?_
        rintro e w11 ⟨rfl, hob, hfr⟩
        have BX : Below ((w.alloc (.cells #[.slice A0 n0 c0, .int .i64 I0, .int .i64 H0, .int .i64 S0, .int .i64 P0] 50)).alloc (.cells #[.int .i64 (f1 0), .int .i64 (f1 1), .int .i64 (f1 2), .int .i64 (f1 3)] 51)).heap.size ((w.alloc (.cells #[.slice A0 n0 c0, .int .i64 I0, .int .i64 H0, .int .i64 S0, .int .i64 P0] 50)).alloc (.cells #[.int .i64 (f1 0), .int .i64 (f1 1), .int .i64 (f1 2), .int .i64 (f1 3)] 51)) w11 := BX.trans (hfr.below (by omega) BX.size)
        have hra := rowF hra hfr (by omega)
        have hrb := rowF hrb hfr (by omega)
        have hoa := hoa.fr hfr (by omega)
        clear hfr e0 e1 e2 e3 e4
        have e0 : w11.cell? ⟨gb, 0, none⟩ = some (.slice Ab m cb) := by rw [cell_of_row w11 (gb) 0 _ _ (0, 0) hrb]; rfl
        have e1 : w11.cell? ⟨gb, 1, none⟩ = some (.int .i64 I') := by rw [cell_of_row w11 (gb) 1 _ _ (0, 0) hrb]; rfl
        have e2 : w11.cell? ⟨gb, 2, none⟩ = some (.int .i64 H') := by rw [cell_of_row w11 (gb) 2 _ _ (0, 0) hrb]; rfl
        have e3 : w11.cell? ⟨gb, 3, none⟩ = some (.int .i64 S') := by rw [cell_of_row w11 (gb) 3 _ _ (0, 0) hrb]; rfl
        have e4 : w11.cell? ⟨gb, 4, none⟩ = some (.int .i64 P') := by rw [cell_of_row w11 (gb) 4 _ _ (0, 0) hrb]; rfl
        go_wp2_with fail
        refine (heldWorks_any Ab m cb lb hb 1 I' H' S' P' w11 hob.sl hm7 m1b (by omega) (by omega)).mono ?_
        rintro e w12 ⟨rfl, hbq⟩
        have BX := below_of BX hbq BX.size
        have hra := rowB hra hbq
        have hrb := rowB hrb hbq
        have hoa := hoa.below hbq
        have hob := hob.below hbq
        clear hbq e0 e1 e2 e3 e4
        have hm4 : ¬ ((1 : Int) + (m : Int) * 4 < 0) := by omega
        have HF : Hid (∀ w', Below w12.heap.size w12 w' → w'.cell? ⟨w.heap.size, 0, none⟩ = some (.slice A0 n0 c0) ∧ w'.cell? ⟨w.heap.size, 1, none⟩ = some (.int .i64 I0) ∧ w'.cell? ⟨w.heap.size, 2, none⟩ = some (.int .i64 H0) ∧ w'.cell? ⟨w.heap.size, 3, none⟩ = some (.int .i64 S0) ∧ w'.cell? ⟨w.heap.size, 4, none⟩ = some (.int .i64 P0) ∧ w'.cell? ⟨w.heap.size + 1, 0, none⟩ = some (.int .i64 (f1 0)) ∧ w'.cell? ⟨w.heap.size + 1, 1, none⟩ = some (.int .i64 (f1 1)) ∧ w'.cell? ⟨w.heap.size + 1, 2, none⟩ = some (.int .i64 (f1 2)) ∧ w'.cell? ⟨w.heap.size + 1, 3, none⟩ = some (.int .i64 (f1 3))) := fun w' hq => HF0.out w' (BX.trans (hq.mono BX.size))
        go_upto_region 24 with fail
        go_cut [14, 15] (fun sa sb wx => ∃ (g lo hi c' : Nat) (A' : Option Addr), sa = .pointer (some ⟨g, 0, none⟩) ∧ sb = .bool ok ∧ w12.heap.size ≤ g ∧ w12.heap.size ≤ lo ∧ (g < lo ∨ hi ≤ g) ∧ m ≤ c' ∧ wx.heap[g]? = some (.cells #[.slice A' m c', .int .i64 I', .int .i64 H', .int .i64 S', .int .i64 P'] 26 (0, 0)) ∧ Own wx lo hi 87 4 A' m (lf L) ∧ Below w12.heap.size w12 wx)
        case first =>
          refine wp_region_held_drew (S := fun w' => Below w12.heap.size w12 w') (by kernel_rfl) ((Below.refl _ _).drew) (fun hHeld => ?_)
          obtain ⟨v0, hv0⟩ : ∃ v, w12.drew = v := ⟨_, rfl⟩
          rw [hv0] at hHeld ⊢
          clear hv0
          refine wpAnyH_takeD (i := 0) (d := 80) (v := ?_) rfl (by kernel_rfl) (by kernel_rfl) (by kernel_rfl) (fun _ _ _ h => h) (by rfl) ?_ hHeld ?_
          rotate_left
          · intro wS hS
            have eF := HF.out wS hS
            go_simp
            try with_reducible rfl
          simp only [Act.put, List.setIfInBounds_toArray, List.set_cons_zero, List.set_cons_succ]
          refine wpAnyH_takeD (i := 2) (d := 82) (v := ?_) rfl (by kernel_rfl) (by kernel_rfl) (by kernel_rfl) (fun _ _ _ h => h) (by rfl) ?_ hHeld ?_
          rotate_left
          · intro wS hS
            have eF := HF.out wS hS
            go_simp
            try with_reducible rfl
          simp only [Act.put, List.setIfInBounds_toArray, List.set_cons_zero, List.set_cons_succ]
          refine wpAnyH_ready (rs := [1, 8]) (by kernel_rfl) (by simp) ?_
          refine (AllReadyH.cons rfl (fun K hK => ?_) (AllReadyH.cons rfl (fun K hK => ?_) AllReadyH.nil))
          · go_simp
            refine (toWorks_any A0 n0 c0 0 w.heap.size f0 I0 H0 S0 P0 _ (HSL.out _ (BX.trans (hHeld.mono BX.size))) hbig hnc0).mono ?_
            rintro e v1 ⟨gt, rfl, lt2, kt2, hot, hbn⟩
            refine hK.out _ _ (hHeld.trans (hbn.mono hHeld.size)) (fun hHeld => ?_)
            clear hK K hbn
            refine wpAnyH_ready (rs := [3, 8]) (by kernel_rfl) (by simp) ?_
            refine (AllReadyH.cons rfl (fun K hK => ?_) (AllReadyH.cons rfl (fun K hK => ?_) AllReadyH.nil))
            · go_simp
              refine (toWorksStep_any _ _ _ _ _).mono ?_
              rintro e v2 ⟨rfl, hbn⟩
              have hot := hot.below hbn
              refine hK.out _ _ (hHeld.trans (hbn.mono hHeld.size)) (fun hHeld => ?_)
              clear hK K hbn
              refine wpAnyH_ready (rs := [4, 8]) (by kernel_rfl) (by simp) ?_
              refine (AllReadyH.cons rfl (fun K hK => ?_) (AllReadyH.cons rfl (fun K hK => ?_) AllReadyH.nil))
              · go_simp
                refine (HIP.out _ _ _ _ _ hot.sl (fun h => by cases h) (fun ad h => ⟨_, _, (Option.some.inj h).symm⟩) (Nat.le_refl _)).mono ?_
                rintro e v3 ⟨Ar, cr, rfl, hmc, hcm, hown, hbn⟩
                obtain ⟨lo, hi, hOw, hlo⟩ := own_tight hown (Nat.le_refl _) hbn.size
                have hlY := Nat.le_trans hHeld.size hlo
                clear hown hlo
                refine hK.out _ _ (hHeld.trans (hbn.mono hHeld.size)) (fun hHeld => ?_)
                clear hK K hbn
                refine wpAnyH_takeD (i := 5) (d := 79) (v := ?_) rfl (by kernel_rfl) (by kernel_rfl) (by kernel_rfl) (fun _ _ _ h => h) (by rfl) ?_ hHeld ?_
                rotate_left
                · intro wS hS
                  have eF := HF.out wS hS
                  go_simp
                  try with_reducible rfl
                simp only [Act.put, List.setIfInBounds_toArray, List.set_cons_zero, List.set_cons_succ]
                refine wpAnyH_takeD (i := 6) (d := 85) (v := ?_) rfl (by kernel_rfl) (by kernel_rfl) (by kernel_rfl) (fun _ _ _ h => h) (by rfl) ?_ hHeld ?_
                rotate_left
                · intro wS hS
                  have eF := HF.out wS hS
                  go_simp
                  try with_reducible rfl
                simp only [Act.put, List.setIfInBounds_toArray, List.set_cons_zero, List.set_cons_succ]
                refine wpAnyH_takeD (i := 7) (d := 86) (v := ?_) rfl (by kernel_rfl) (by kernel_rfl) (by kernel_rfl) (fun _ _ _ h => h) (by rfl) ?_ hHeld ?_
                rotate_left
                · intro wS hS
                  have eF := HF.out wS hS
                  go_simp
                  try with_reducible rfl
                simp only [Act.put, List.setIfInBounds_toArray, List.set_cons_zero, List.set_cons_succ]
                refine wpAnyH_ready (rs := [8]) (by kernel_rfl) (by simp) ?_
                refine (AllReadyH.cons rfl (fun K hK => ?_) AllReadyH.nil)
                go_simp
                have hg := heap_alloc_new v3 (.cells #[.slice none 0 0, .int .i64 0, .int .i64 0, .int .i64 0, .int .i64 0] 26)
                have hS2 := hHeld.alloc hHeld.size (.cells #[.slice none 0 0, .int .i64 0, .int .i64 0, .int .i64 0, .int .i64 0] 26)
                have hgle := hHeld.size
                have hgd : v3.heap.size < lo ∨ hi ≤ v3.heap.size := Or.inr hOw.hi_le
                have hOw := hOw.below ((Below.refl _ v3).alloc (Nat.le_refl _) (.cells #[.slice none 0 0, .int .i64 0, .int .i64 0, .int .i64 0, .int .i64 0] 26))
                obtain ⟨g, hge⟩ : ∃ g, v3.heap.size = g := ⟨_, rfl⟩
                rw [hge] at hg hgle hgd
                try rw [hge]
                obtain ⟨v4, hve⟩ : ∃ v, v3.alloc (.cells #[.slice none 0 0, .int .i64 0, .int .i64 0, .int .i64 0, .int .i64 0] 26) = v := ⟨_, rfl⟩
                rw [hve] at hg hS2 hOw
                rw [hve]
                refine hK.out _ _ hS2 (fun hHeld => ?_)
                clear hK K hve hge
                refine wpAnyH_store (fuel := 1) (i := 9) rfl (by kernel_rfl) g 0 (.agg #[.slice Ar m cr, .int .i64 I', .int .i64 H', .int .i64 S', .int .i64 P']) 26 #[.slice none 0 0, .int .i64 0, .int .i64 0, .int .i64 0, .int .i64 0] rfl rfl infoWorks hg (Nat.le_refl 5) (by simp [Value.cells, Value.oneCell']) (fun w' hg' => hHeld.grown hg' hHeld.size (fun k hk => by cases hk; exact hgle)) ?ksc1
                case ksc1 =>
                  intro v5 hh hgw hS3
                  clear hHeld
                  have hHeld := hS3
                  have hOw := own_but hOw hgw hgd
                  refine wpAnyH_takeD (i := 10) (d := 15) (v := ?_) rfl (by kernel_rfl) (by kernel_rfl) (by kernel_rfl) (fun _ _ _ h => h) (by rfl) ?_ hHeld ?_
                  rotate_left
                  · intro wS hS
                    have eF := HF.out wS hS
                    go_simp
                    try with_reducible rfl
                  simp only [Act.put, List.setIfInBounds_toArray, List.set_cons_zero, List.set_cons_succ]
                  refine wpAnyH_done (by kernel_rfl) ?_ _
                  go_wp2_with fail
                  go_meet
                  case rel => exact ⟨g, lo, hi, cr, Ar, rfl, rfl, hgle, hlY, hgd, hmc, hh, hOw, hHeld⟩
              · go_simp
                have hg := heap_alloc_new v2 (.cells #[.slice none 0 0, .int .i64 0, .int .i64 0, .int .i64 0, .int .i64 0] 26)
                have hS2 := hHeld.alloc hHeld.size (.cells #[.slice none 0 0, .int .i64 0, .int .i64 0, .int .i64 0, .int .i64 0] 26)
                have hgle := hHeld.size
                have hot := hot.below ((Below.refl _ v2).alloc (Nat.le_refl _) (.cells #[.slice none 0 0, .int .i64 0, .int .i64 0, .int .i64 0, .int .i64 0] 26))
                obtain ⟨g, hge⟩ : ∃ g, v2.heap.size = g := ⟨_, rfl⟩
                rw [hge] at hg hgle
                try rw [hge]
                obtain ⟨v6, hve⟩ : ∃ v, v2.alloc (.cells #[.slice none 0 0, .int .i64 0, .int .i64 0, .int .i64 0, .int .i64 0] 26) = v := ⟨_, rfl⟩
                rw [hve] at hg hS2 hot
                rw [hve]
                refine hK.out _ _ hS2 (fun hHeld => ?_)
                clear hK K hve hge
                refine wpAnyH_ready (rs := [4]) (by kernel_rfl) (by simp) ?_
                refine (AllReadyH.cons rfl (fun K hK => ?_) AllReadyH.nil)
                have hgl := rowLt hg
                go_simp
                refine (HIP.out _ _ _ _ _ hot.sl (fun h => by cases h) (fun ad h => ⟨_, _, (Option.some.inj h).symm⟩) (Nat.le_refl _)).mono ?_
                rintro e v7 ⟨Ar, cr, rfl, hmc, hcm, hown, hbn⟩
                have hg := rowB hg hbn
                obtain ⟨lo, hi, hOw, hlo⟩ := own_tight hown (Nat.le_refl _) hbn.size
                have hlY := Nat.le_trans hHeld.size hlo
                have hgd : g < lo ∨ hi ≤ g := Or.inl (by omega)
                clear hown hlo
                refine hK.out _ _ (hHeld.trans (hbn.mono hHeld.size)) (fun hHeld => ?_)
                clear hK K hbn
                refine wpAnyH_takeD (i := 5) (d := 79) (v := ?_) rfl (by kernel_rfl) (by kernel_rfl) (by kernel_rfl) (fun _ _ _ h => h) (by rfl) ?_ hHeld ?_
                rotate_left
                · intro wS hS
                  have eF := HF.out wS hS
                  go_simp
                  try with_reducible rfl
                simp only [Act.put, List.setIfInBounds_toArray, List.set_cons_zero, List.set_cons_succ]
                refine wpAnyH_takeD (i := 6) (d := 85) (v := ?_) rfl (by kernel_rfl) (by kernel_rfl) (by kernel_rfl) (fun _ _ _ h => h) (by rfl) ?_ hHeld ?_
                rotate_left
                · intro wS hS
                  have eF := HF.out wS hS
                  go_simp
                  try with_reducible rfl
                simp only [Act.put, List.setIfInBounds_toArray, List.set_cons_zero, List.set_cons_succ]
                refine wpAnyH_takeD (i := 7) (d := 86) (v := ?_) rfl (by kernel_rfl) (by kernel_rfl) (by kernel_rfl) (fun _ _ _ h => h) (by rfl) ?_ hHeld ?_
                rotate_left
                · intro wS hS
                  have eF := HF.out wS hS
                  go_simp
                  try with_reducible rfl
                simp only [Act.put, List.setIfInBounds_toArray, List.set_cons_zero, List.set_cons_succ]
                refine wpAnyH_store (fuel := 1) (i := 9) rfl (by kernel_rfl) g 0 (.agg #[.slice Ar m cr, .int .i64 I', .int .i64 H', .int .i64 S', .int .i64 P']) 26 #[.slice none 0 0, .int .i64 0, .int .i64 0, .int .i64 0, .int .i64 0] rfl rfl infoWorks hg (Nat.le_refl 5) (by simp [Value.cells, Value.oneCell']) (fun w' hg' => hHeld.grown hg' hHeld.size (fun k hk => by cases hk; exact hgle)) ?ksc2
                case ksc2 =>
                  intro v8 hh hgw hS3
                  clear hHeld
                  have hHeld := hS3
                  have hOw := own_but hOw hgw hgd
                  refine wpAnyH_takeD (i := 10) (d := 15) (v := ?_) rfl (by kernel_rfl) (by kernel_rfl) (by kernel_rfl) (fun _ _ _ h => h) (by rfl) ?_ hHeld ?_
                  rotate_left
                  · intro wS hS
                    have eF := HF.out wS hS
                    go_simp
                    try with_reducible rfl
                  simp only [Act.put, List.setIfInBounds_toArray, List.set_cons_zero, List.set_cons_succ]
                  refine wpAnyH_done (by kernel_rfl) ?_ _
                  go_wp2_with fail
                  go_meet
                  case rel => exact ⟨g, lo, hi, cr, Ar, rfl, rfl, hgle, hlY, hgd, hmc, hh, hOw, hHeld⟩
            · go_simp
              have hg := heap_alloc_new v1 (.cells #[.slice none 0 0, .int .i64 0, .int .i64 0, .int .i64 0, .int .i64 0] 26)
              have hS2 := hHeld.alloc hHeld.size (.cells #[.slice none 0 0, .int .i64 0, .int .i64 0, .int .i64 0, .int .i64 0] 26)
              have hgle := hHeld.size
              have hot := hot.below ((Below.refl _ v1).alloc (Nat.le_refl _) (.cells #[.slice none 0 0, .int .i64 0, .int .i64 0, .int .i64 0, .int .i64 0] 26))
              obtain ⟨g, hge⟩ : ∃ g, v1.heap.size = g := ⟨_, rfl⟩
              rw [hge] at hg hgle
              try rw [hge]
              obtain ⟨v9, hve⟩ : ∃ v, v1.alloc (.cells #[.slice none 0 0, .int .i64 0, .int .i64 0, .int .i64 0, .int .i64 0] 26) = v := ⟨_, rfl⟩
              rw [hve] at hg hS2 hot
              rw [hve]
              refine hK.out _ _ hS2 (fun hHeld => ?_)
              clear hK K hve hge
              refine wpAnyH_ready (rs := [3]) (by kernel_rfl) (by simp) ?_
              refine (AllReadyH.cons rfl (fun K hK => ?_) AllReadyH.nil)
              go_simp
              refine (toWorksStep_any _ _ _ _ _).mono ?_
              rintro e v10 ⟨rfl, hbn⟩
              have hg := rowB hg hbn
              have hot := hot.below hbn
              refine hK.out _ _ (hHeld.trans (hbn.mono hHeld.size)) (fun hHeld => ?_)
              clear hK K hbn
              refine wpAnyH_ready (rs := [4]) (by kernel_rfl) (by simp) ?_
              refine (AllReadyH.cons rfl (fun K hK => ?_) AllReadyH.nil)
              have hgl := rowLt hg
              go_simp
              refine (HIP.out _ _ _ _ _ hot.sl (fun h => by cases h) (fun ad h => ⟨_, _, (Option.some.inj h).symm⟩) (Nat.le_refl _)).mono ?_
              rintro e v11 ⟨Ar, cr, rfl, hmc, hcm, hown, hbn⟩
              have hg := rowB hg hbn
              obtain ⟨lo, hi, hOw, hlo⟩ := own_tight hown (Nat.le_refl _) hbn.size
              have hlY := Nat.le_trans hHeld.size hlo
              have hgd : g < lo ∨ hi ≤ g := Or.inl (by omega)
              clear hown hlo
              refine hK.out _ _ (hHeld.trans (hbn.mono hHeld.size)) (fun hHeld => ?_)
              clear hK K hbn
              refine wpAnyH_takeD (i := 5) (d := 79) (v := ?_) rfl (by kernel_rfl) (by kernel_rfl) (by kernel_rfl) (fun _ _ _ h => h) (by rfl) ?_ hHeld ?_
              rotate_left
              · intro wS hS
                have eF := HF.out wS hS
                go_simp
                try with_reducible rfl
              simp only [Act.put, List.setIfInBounds_toArray, List.set_cons_zero, List.set_cons_succ]
              refine wpAnyH_takeD (i := 6) (d := 85) (v := ?_) rfl (by kernel_rfl) (by kernel_rfl) (by kernel_rfl) (fun _ _ _ h => h) (by rfl) ?_ hHeld ?_
              rotate_left
              · intro wS hS
                have eF := HF.out wS hS
                go_simp
                try with_reducible rfl
              simp only [Act.put, List.setIfInBounds_toArray, List.set_cons_zero, List.set_cons_succ]
              refine wpAnyH_takeD (i := 7) (d := 86) (v := ?_) rfl (by kernel_rfl) (by kernel_rfl) (by kernel_rfl) (fun _ _ _ h => h) (by rfl) ?_ hHeld ?_
              rotate_left
              · intro wS hS
                have eF := HF.out wS hS
                go_simp
                try with_reducible rfl
              simp only [Act.put, List.setIfInBounds_toArray, List.set_cons_zero, List.set_cons_succ]
              refine wpAnyH_store (fuel := 1) (i := 9) rfl (by kernel_rfl) g 0 (.agg #[.slice Ar m cr, .int .i64 I', .int .i64 H', .int .i64 S', .int .i64 P']) 26 #[.slice none 0 0, .int .i64 0, .int .i64 0, .int .i64 0, .int .i64 0] rfl rfl infoWorks hg (Nat.le_refl 5) (by simp [Value.cells, Value.oneCell']) (fun w' hg' => hHeld.grown hg' hHeld.size (fun k hk => by cases hk; exact hgle)) ?ksc3
              case ksc3 =>
                intro v12 hh hgw hS3
                clear hHeld
                have hHeld := hS3
                have hOw := own_but hOw hgw hgd
                refine wpAnyH_takeD (i := 10) (d := 15) (v := ?_) rfl (by kernel_rfl) (by kernel_rfl) (by kernel_rfl) (fun _ _ _ h => h) (by rfl) ?_ hHeld ?_
                rotate_left
                · intro wS hS
                  have eF := HF.out wS hS
                  go_simp
                  try with_reducible rfl
                simp only [Act.put, List.setIfInBounds_toArray, List.set_cons_zero, List.set_cons_succ]
                refine wpAnyH_done (by kernel_rfl) ?_ _
                go_wp2_with fail
                go_meet
                case rel => exact ⟨g, lo, hi, cr, Ar, rfl, rfl, hgle, hlY, hgd, hmc, hh, hOw, hHeld⟩
          · go_simp
            have hg := heap_alloc_new v0 (.cells #[.slice none 0 0, .int .i64 0, .int .i64 0, .int .i64 0, .int .i64 0] 26)
            have hS2 := hHeld.alloc hHeld.size (.cells #[.slice none 0 0, .int .i64 0, .int .i64 0, .int .i64 0, .int .i64 0] 26)
            have hgle := hHeld.size
            obtain ⟨g, hge⟩ : ∃ g, v0.heap.size = g := ⟨_, rfl⟩
            rw [hge] at hg hgle
            try rw [hge]
            obtain ⟨v13, hve⟩ : ∃ v, v0.alloc (.cells #[.slice none 0 0, .int .i64 0, .int .i64 0, .int .i64 0, .int .i64 0] 26) = v := ⟨_, rfl⟩
            rw [hve] at hg hS2
            rw [hve]
            refine hK.out _ _ hS2 (fun hHeld => ?_)
            clear hK K hve hge
            refine wpAnyH_ready (rs := [1]) (by kernel_rfl) (by simp) ?_
            refine (AllReadyH.cons rfl (fun K hK => ?_) AllReadyH.nil)
            go_simp
            refine (toWorks_any A0 n0 c0 0 w.heap.size f0 I0 H0 S0 P0 _ (HSL.out _ (BX.trans (hHeld.mono BX.size))) hbig hnc0).mono ?_
            rintro e v14 ⟨gt, rfl, lt2, kt2, hot, hbn⟩
            have hg := rowB hg hbn
            refine hK.out _ _ (hHeld.trans (hbn.mono hHeld.size)) (fun hHeld => ?_)
            clear hK K hbn
            refine wpAnyH_ready (rs := [3]) (by kernel_rfl) (by simp) ?_
            refine (AllReadyH.cons rfl (fun K hK => ?_) AllReadyH.nil)
            go_simp
            refine (toWorksStep_any _ _ _ _ _).mono ?_
            rintro e v15 ⟨rfl, hbn⟩
            have hg := rowB hg hbn
            have hot := hot.below hbn
            refine hK.out _ _ (hHeld.trans (hbn.mono hHeld.size)) (fun hHeld => ?_)
            clear hK K hbn
            refine wpAnyH_ready (rs := [4]) (by kernel_rfl) (by simp) ?_
            refine (AllReadyH.cons rfl (fun K hK => ?_) AllReadyH.nil)
            have hgl := rowLt hg
            go_simp
            refine (HIP.out _ _ _ _ _ hot.sl (fun h => by cases h) (fun ad h => ⟨_, _, (Option.some.inj h).symm⟩) (Nat.le_refl _)).mono ?_
            rintro e v16 ⟨Ar, cr, rfl, hmc, hcm, hown, hbn⟩
            have hg := rowB hg hbn
            obtain ⟨lo, hi, hOw, hlo⟩ := own_tight hown (Nat.le_refl _) hbn.size
            have hlY := Nat.le_trans hHeld.size hlo
            have hgd : g < lo ∨ hi ≤ g := Or.inl (by omega)
            clear hown hlo
            refine hK.out _ _ (hHeld.trans (hbn.mono hHeld.size)) (fun hHeld => ?_)
            clear hK K hbn
            refine wpAnyH_takeD (i := 5) (d := 79) (v := ?_) rfl (by kernel_rfl) (by kernel_rfl) (by kernel_rfl) (fun _ _ _ h => h) (by rfl) ?_ hHeld ?_
            rotate_left
            · intro wS hS
              have eF := HF.out wS hS
              go_simp
              try with_reducible rfl
            simp only [Act.put, List.setIfInBounds_toArray, List.set_cons_zero, List.set_cons_succ]
            refine wpAnyH_takeD (i := 6) (d := 85) (v := ?_) rfl (by kernel_rfl) (by kernel_rfl) (by kernel_rfl) (fun _ _ _ h => h) (by rfl) ?_ hHeld ?_
            rotate_left
            · intro wS hS
              have eF := HF.out wS hS
              go_simp
              try with_reducible rfl
            simp only [Act.put, List.setIfInBounds_toArray, List.set_cons_zero, List.set_cons_succ]
            refine wpAnyH_takeD (i := 7) (d := 86) (v := ?_) rfl (by kernel_rfl) (by kernel_rfl) (by kernel_rfl) (fun _ _ _ h => h) (by rfl) ?_ hHeld ?_
            rotate_left
            · intro wS hS
              have eF := HF.out wS hS
              go_simp
              try with_reducible rfl
            simp only [Act.put, List.setIfInBounds_toArray, List.set_cons_zero, List.set_cons_succ]
            refine wpAnyH_store (fuel := 1) (i := 9) rfl (by kernel_rfl) g 0 (.agg #[.slice Ar m cr, .int .i64 I', .int .i64 H', .int .i64 S', .int .i64 P']) 26 #[.slice none 0 0, .int .i64 0, .int .i64 0, .int .i64 0, .int .i64 0] rfl rfl infoWorks hg (Nat.le_refl 5) (by simp [Value.cells, Value.oneCell']) (fun w' hg' => hHeld.grown hg' hHeld.size (fun k hk => by cases hk; exact hgle)) ?ksc4
            case ksc4 =>
              intro v17 hh hgw hS3
              clear hHeld
              have hHeld := hS3
              have hOw := own_but hOw hgw hgd
              refine wpAnyH_takeD (i := 10) (d := 15) (v := ?_) rfl (by kernel_rfl) (by kernel_rfl) (by kernel_rfl) (fun _ _ _ h => h) (by rfl) ?_ hHeld ?_
              rotate_left
              · intro wS hS
                have eF := HF.out wS hS
                go_simp
                try with_reducible rfl
              simp only [Act.put, List.setIfInBounds_toArray, List.set_cons_zero, List.set_cons_succ]
              refine wpAnyH_done (by kernel_rfl) ?_ _
              go_wp2_with fail
              go_meet
              case rel => exact ⟨g, lo, hi, cr, Ar, rfl, rfl, hgle, hlY, hgd, hmc, hh, hOw, hHeld⟩
        case rest =>
          obtain ⟨gc, lc, hc, cc, Ac, rfl, rfl, g1c, l1c, d1c, m1c, hrc, hoc, hbc⟩ := hcut
          obtain ⟨w13, hwy⟩ : ∃ v, wc = v := ⟨_, rfl⟩
          rw [hwy] at hrc hoc hbc
          try rw [hwy]
          clear hwy wc
          have BX := below_of BX hbc BX.size
          have hra := rowB hra hbc
          have hoa := hoa.below hbc
          have hrb := rowB hrb hbc
          have hob := hob.below hbc
          clear HF hbc
          have e0 : w13.cell? ⟨gc, 0, none⟩ = some (.slice Ac m cc) := by rw [cell_of_row w13 (gc) 0 _ _ (0, 0) hrc]; rfl
          have e1 : w13.cell? ⟨gc, 1, none⟩ = some (.int .i64 I') := by rw [cell_of_row w13 (gc) 1 _ _ (0, 0) hrc]; rfl
          have e2 : w13.cell? ⟨gc, 2, none⟩ = some (.int .i64 H') := by rw [cell_of_row w13 (gc) 2 _ _ (0, 0) hrc]; rfl
          have e3 : w13.cell? ⟨gc, 3, none⟩ = some (.int .i64 S') := by rw [cell_of_row w13 (gc) 3 _ _ (0, 0) hrc]; rfl
          have e4 : w13.cell? ⟨gc, 4, none⟩ = some (.int .i64 P') := by rw [cell_of_row w13 (gc) 4 _ _ (0, 0) hrc]; rfl
          have y0 : w13.cell? ⟨ga, 0, none⟩ = some (.slice Aa m ca) := by rw [cell_of_row w13 (ga) 0 _ _ (0, 0) hra]; rfl
          have y1 : w13.cell? ⟨ga, 1, none⟩ = some (.int .i64 I') := by rw [cell_of_row w13 (ga) 1 _ _ (0, 0) hra]; rfl
          have y2 : w13.cell? ⟨ga, 2, none⟩ = some (.int .i64 H') := by rw [cell_of_row w13 (ga) 2 _ _ (0, 0) hra]; rfl
          have y3 : w13.cell? ⟨ga, 3, none⟩ = some (.int .i64 S') := by rw [cell_of_row w13 (ga) 3 _ _ (0, 0) hra]; rfl
          have y4 : w13.cell? ⟨ga, 4, none⟩ = some (.int .i64 P') := by rw [cell_of_row w13 (ga) 4 _ _ (0, 0) hra]; rfl
          go_wp2_with fail
          refine (eqWorks_same Ac Aa m cc ca lc hc la ha (lf L) I' H' S' P' w13 hoc.sl hoa.sl hm7 m1c m1a).mono ?_
          rintro e w14 ⟨rfl, hbq⟩
          have BX := below_of BX hbq BX.size
          have hrb := rowB hrb hbq
          have hob := hob.below hbq
          clear hbq e0 e1 e2 e3 e4 y0 y1 y2 y3 y4
          have e0 : w14.cell? ⟨gb, 0, none⟩ = some (.slice Ab m cb) := by rw [cell_of_row w14 (gb) 0 _ _ (0, 0) hrb]; rfl
          have e1 : w14.cell? ⟨gb, 1, none⟩ = some (.int .i64 I') := by rw [cell_of_row w14 (gb) 1 _ _ (0, 0) hrb]; rfl
          have e2 : w14.cell? ⟨gb, 2, none⟩ = some (.int .i64 H') := by rw [cell_of_row w14 (gb) 2 _ _ (0, 0) hrb]; rfl
          have e3 : w14.cell? ⟨gb, 3, none⟩ = some (.int .i64 S') := by rw [cell_of_row w14 (gb) 3 _ _ (0, 0) hrb]; rfl
          have e4 : w14.cell? ⟨gb, 4, none⟩ = some (.int .i64 P') := by rw [cell_of_row w14 (gb) 4 _ _ (0, 0) hrb]; rfl
          go_wp2_with fail
          refine (heldWorks_any Ab m cb lb hb 1 I' H' S' P' w14 hob.sl hm7 m1b (by omega) (by omega)).mono ?_
          rintro e w15 ⟨rfl, hbq⟩
          have BX := below_of BX hbq BX.size
          have hrb := rowB hrb hbq
          have hob := hob.below hbq
          clear hbq e0 e1 e2 e3 e4
          have BW := HAL.trans (BX.mono HAL.size)
          clear BX hrb hob
          go_wp2
          go_ret
          exact ⟨rfl, BW⟩
  · go_enter Try.func4, Try.ntmps4
    go_wp2_with fail
    refine (szWorks_big A0 n0 c0 I0 H0 S0 P0 1048576 _ hm0 (by omega) (by omega) (by omega)).mono ?_
    rintro e w1 ⟨rfl, B1⟩
    go_wp2
    go_ret
    exact ⟨rfl, HAL.trans (B1.mono HAL.size)⟩
end Go.Proofs.Ytjhgpebppcbleaa
