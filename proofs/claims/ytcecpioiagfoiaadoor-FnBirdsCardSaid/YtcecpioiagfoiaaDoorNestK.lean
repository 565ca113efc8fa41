/-
  Numbers put into their place, each once (the reference); QuietPonds and KindsAt of the reference.
-/
import Derived.Test.YtcecpioiagfoiaaDoorNestC
import Derived.Test.YtcecpioiagfoiaaDoorApp3
import Derived.Test.YtcecpioiagfoiaaDoorPut
import Derived.BigGuardPart
import Derived.Lib.Hide
import Derived.Deep.QuietTactic
import Derived.BigQuiet
namespace Go.Proofs.YtcecpioiagfoiaaDoor
open Go.RowKit
set_option linter.unusedVariables false
set_option linter.unusedSimpArgs false
attribute [local go_sem ↓] Go.wp_at_zero Go.wp_at_succ
theorem infoIntK : (Tryd.prog.info? 3).map (fun i => (i.zero, i.size, i.bytes)) = some (some (.int .i64 0), 1, 8) := by kernel_rfl
/-- Where n stops from place k on: at the first that is not less. -/
theorem putL_at : ∀ (L : List Int) (z : Int) (k : Nat) (hk : k ≤ L.length), (∀ j (hj : j < k), L[j]'(by omega) < z) → (∀ h : k < L.length, ¬ L[k] < z) →
    putL L z = if h : k < L.length ∧ L.getD k 0 = z then L else L.take k ++ z :: L.drop k
  | [], z, k, hk, _, _ => by
    have : k = 0 := by simpa using hk
    subst this
    simp [putL]
  | x :: t, z, 0, hk, _, h2 => by
    have hx : ¬ x < z := h2 (by simp)
    unfold putL
    rw [if_neg hx]
    by_cases e : x = z
    · rw [if_pos e, dif_pos ⟨by simp, by simpa using e⟩]
    · rw [if_neg e, dif_neg (by simp [e])]
      simp
  | x :: t, z, k + 1, hk, h1, h2 => by
    have hx : x < z := h1 0 (by omega)
    have ih := putL_at t z k (by simpa using hk) (fun j hj => by have := h1 (j + 1) (by omega); simpa using this) (fun h => by have := h2 (by simpa using h); simpa using this)
    unfold putL
    rw [if_pos hx, ih]
    by_cases hc : k < t.length ∧ t.getD k 0 = z
    · rw [dif_pos hc, dif_pos ⟨by simpa using hc.1, by simpa using hc.2⟩]
    · rw [dif_neg hc, dif_neg (by rintro ⟨h3, h4⟩; exact hc ⟨by simpa using h3, by simpa using h4⟩)]
      simp
theorem ownsRow_mono {w : World} {base base' : Nat} {e : TypeId} {size : Nat} {v : Value} {n : Nat} {xs : List Value} (h : w.ownsRow base e size v n xs) (hb : base' ≤ base) : w.ownsRow base' e size v n xs :=
  ⟨h.1, h.2.imp id fun ⟨g, cap, cur, h1, h2, h3⟩ => ⟨g, cap, cur, h1, Nat.le_trans hb h2, h3⟩⟩
theorem Src.drop_all {w : World} {n : Nat} {L : List Int} (hn : n = L.length) (A : Option Addr) (c : Nat) (hA : A ≠ none) : Src w 1 A 0 c (L.drop n) := by
  subst hn
  refine ⟨by simp, fun h => absurd h hA, fun ad had j u hu => ?_⟩
  simp at hu
theorem getD_at {L : List Int} {j : Nat} (h : j < L.length) : L.getD j 0 = L[j] := by simp [List.getD, h]
theorem putL_same {L : List Int} {z : Int} {k n : Nat} (hn : n = L.length) (hk : k < n) (h1 : ∀ j, j < k → L.getD j 0 < z) (h2 : L.getD k 0 = z) : putL L z = L := by
  rw [putL_at L z k (by omega) (fun j hj => by have := h1 j hj; rwa [getD_at (by omega)] at this) (fun h => by rw [← getD_at h]; omega), dif_pos ⟨by omega, h2⟩]
theorem putL_new {L : List Int} {z : Int} {k n : Nat} (hn : n = L.length) (hk : k ≤ n) (h1 : ∀ j, j < k → L.getD j 0 < z) (h2 : k < n → ¬ L.getD k 0 < z ∧ L.getD k 0 ≠ z) : putL L z = L.take k ++ z :: L.drop k := by
  rw [putL_at L z k (by omega) (fun j hj => by have := h1 j hj; rwa [getD_at (by omega)] at this) (fun h => by rw [← getD_at h]; exact (h2 (by omega)).1), dif_neg (fun h => (h2 (by omega)).2 h.2)]
theorem putL_len (L : List Int) (z : Int) : (putL L z).length ≤ L.length + 1 := by
  induction L with
  | nil => simp [putL]
  | cons x t ih =>
    unfold putL
    split
    · simp; exact ih
    · split <;> simp
/-- A row of ints that the call owns and that is not nil. -/
def IRow (w : World) (lo : Nat) (v : Value) (L : List Int) : Prop := (∃ g c, v = .slice (some ⟨g, 0, none⟩) L.length c ∧ L.length ≤ c ∧ c ≤ maxLen ∧ g < w.heap.size) ∧ w.ownsRow lo 3 1 v L.length (L.map (Value.int .i64))
theorem IRow.below {w w' : World} {lo : Nat} {v : Value} {L : List Int} (h : IRow w lo v L) (hb : Below w.heap.size w w') : IRow w' lo v L := by
  obtain ⟨⟨g, c, e, h1, h2, h3⟩, h4⟩ := h
  exact ⟨⟨g, c, e, h1, h2, Nat.lt_of_lt_of_le h3 hb.size⟩, ownsRow_below h4 hb⟩
theorem IRow.cell {w : World} {lo g c : Nat} {L : List Int} (h : w.ownsRow lo 3 1 (.slice (some ⟨g, 0, none⟩) L.length c) L.length (L.map (Value.int .i64))) (j : Nat) (hj : j < L.length) : w.cell? ⟨g, j, none⟩ = some (.int .i64 (L.getD j 0)) := by
  rw [World.ownsRow.cellAt h j (by omega), List.getElem?_map]
  simp [List.getD, hj]
theorem IRow.src {w : World} {lo g c : Nat} {L : List Int} (h : w.ownsRow lo 3 1 (.slice (some ⟨g, 0, none⟩) L.length c) L.length (L.map (Value.int .i64))) (k m c' : Nat) (hk : k + m ≤ L.length) : Src w 1 (some ⟨g, k, none⟩) m c' ((L.drop k).take m) := by
  refine ⟨by simp; omega, (by intro h; cases h), fun ad had j u hu => ?_⟩
  cases had
  have hj : j < m := by
    have := (List.getElem?_eq_some_iff.1 hu).1
    simp at this
    omega
  rw [List.getElem?_take_of_lt hj, List.getElem?_drop] at hu
  rw [Addr.add_lit, World.ownsRow.cellAt h (k + j) (by omega), List.getElem?_map, hu]
  rfl

set_option maxRecDepth 100000 in
set_option maxHeartbeats 1000000 in
theorem l1Put_any (lo : Nat) (v : Value) (L : List Int) (z : Int) (w : World) (hr : IRow w lo v L) (hlo : lo ≤ w.heap.size) (hL : L.length ≤ 1000) :
    Calls Tryd.prog 49 #[v, .int .i64 z] w fun e w' => ∃ v', e = .returned v' ∧ IRow w' lo v' (putL L z) ∧ Below w.heap.size w w' := by
  obtain ⟨⟨g, c, rfl, hc, hcm, hg⟩, hown⟩ := hr
  obtain ⟨n, hn⟩ : ∃ n, n = L.length := ⟨_, rfl⟩
  have HOWN := Lib.hid hown
  have HN := Lib.hid hn
  have hc8 : c ≤ 9223372036854775807 := by unfold maxLen at hcm; omega
  rw [← hn] at hc hL ⊢
  have HCM := Lib.hid hcm
  clear hown hn hcm
  have hcell : Hid (∀ wq : World, Below w.heap.size w wq → ∀ j, j < n → wq.cell? ⟨g, j, none⟩ = some (.int .i64 (L.getD j 0))) := fun wq hb j hj => (hb.cell (p := ⟨g, j, none⟩) hg).trans (IRow.cell HOWN.out j (by rw [← HN.out]; exact hj))
  go_enter Tryd.func49, Tryd.ntmps49
  go_wp2_with fail
  go_loop [5] (fun kv => ∃ k : Nat, k ≤ n ∧ kv = .int .i64 k ∧ Hid (∀ j, j < k → L.getD j 0 < z)) (fun kv => n - (intOf kv).toNat)
  case atStart => exact ⟨0, Nat.zero_le _, rfl, fun j hj => absurd hj (by omega)⟩
  case round =>
    obtain ⟨k, hk, rfl, hall⟩ := hrel
    by_cases hlt : k < n
    · have c0 := hcell.out w (Below.refl _ _) k hlt
      have hki : (0 : Int) ≤ (k : Int) := by omega
      have hkn : (k : Int) < (n : Int) := by omega
      have HX := Lib.hid (show L.getD k 0 = L.getD k 0 from rfl)
      obtain ⟨x, hx⟩ : ∃ x, x = L.getD k 0 := ⟨_, rfl⟩
      rw [← hx] at c0
      have HXX := Lib.hid hx
      clear hx HX
      by_cases hxz : x < z
      · go_wp2
        go_round
        case rel => exact ⟨k + 1, by omega, by go_num, fun j hj => by rcases Nat.lt_or_eq_of_le (Nat.le_of_lt_succ hj) with h | h; · exact hall.out j h
                                                                      · subst h; rw [← HXX.out]; exact hxz⟩
        case measure => simp [intOf]; omega
      · by_cases hez : x = z
        · have hput : Hid (putL L z = L) := putL_same HN.out hlt hall.out (by rw [← HXX.out]; exact hez)
          have hxb : (x == z) = true := by simp [hez]
          clear hez
          go_wp2
          go_ret
          exact ⟨_, rfl, by
            rw [hput.out]
            have e := HN.out
            rw [e]
            exact ⟨⟨g, c, rfl, by omega, HCM.out, hg⟩, HOWN.out⟩, Below.refl _ _⟩
        · have hput : Hid (putL L z = L.take k ++ z :: L.drop k) := putL_new HN.out hk hall.out (fun _ => by rw [← HXX.out]; exact ⟨hxz, hez⟩)
          have hxb : (x == z) = false := by simp [hez]
          clear hez
          go_wp2
          have HF : Hid (∀ w', Below w.heap.size w w' → True) := fun _ _ => trivial
          have hkc : k ≤ c := by omega
          have hkc2 : ((k : Nat) : Int) ≤ (c : Int) := by omega
          have hck : ¬ (c = k) := by omega
          refine wp_region_held_drew (S := fun w' => Below (w).heap.size (w) w') (by kernel_rfl) ((Below.refl _ _).drew) (fun hHeld => ?_)
          refine wpAnyH_takeD (i := 1) (d := 34) (v := ?_) rfl (by kernel_rfl) (by kernel_rfl) (by kernel_rfl) (fun _ _ _ h => h) (by rfl) ?_ hHeld ?_
          rotate_left
          · intro wS hS
            have eF := HF.out wS hS
            go_simp
            try with_reducible rfl
          simp only [Act.put, List.setIfInBounds_toArray, List.set_cons_zero, List.set_cons_succ]
          refine wpAnyH_takeD (i := 2) (d := 35) (v := ?_) rfl (by kernel_rfl) (by kernel_rfl) (by kernel_rfl) (fun _ _ _ h => h) (by rfl) ?_ hHeld ?_
          rotate_left
          · intro wS hS
            have eF := HF.out wS hS
            go_simp
            try with_reducible rfl
          simp only [Act.put, List.setIfInBounds_toArray, List.set_cons_zero, List.set_cons_succ]
          refine wpAnyH_takeD (i := 3) (d := 36) (v := ?_) rfl (by kernel_rfl) (by kernel_rfl) (by kernel_rfl) (fun _ _ _ h => h) (by rfl) ?_ hHeld ?_
          rotate_left
          · intro wS hS
            have eF := HF.out wS hS
            go_simp
            try with_reducible rfl
          simp only [Act.put, List.setIfInBounds_toArray, List.set_cons_zero, List.set_cons_succ]
          refine wpAnyH_takeD (i := 5) (d := 38) (v := ?_) rfl (by kernel_rfl) (by kernel_rfl) (by kernel_rfl) (fun _ _ _ h => h) (by rfl) ?_ hHeld ?_
          rotate_left
          · intro wS hS
            have eF := HF.out wS hS
            go_simp
            try with_reducible rfl
          simp only [Act.put, List.setIfInBounds_toArray, List.set_cons_zero, List.set_cons_succ]
          refine wpAnyH_takeD (i := 8) (d := 41) (v := ?_) rfl (by kernel_rfl) (by kernel_rfl) (by kernel_rfl) (fun _ _ _ h => h) (by rfl) ?_ hHeld ?_
          rotate_left
          · intro wS hS
            have eF := HF.out wS hS
            go_simp
            try with_reducible rfl
          simp only [Act.put, List.setIfInBounds_toArray, List.set_cons_zero, List.set_cons_succ]
          refine wpAnyH_takeD (i := 9) (d := 42) (v := ?_) rfl (by kernel_rfl) (by kernel_rfl) (by kernel_rfl) (fun _ _ _ h => h) (by rfl) ?_ hHeld ?_
          rotate_left
          · intro wS hS
            have eF := HF.out wS hS
            go_simp
            try with_reducible rfl
          simp only [Act.put, List.setIfInBounds_toArray, List.set_cons_zero, List.set_cons_succ]
          refine wpAnyH_takeD (i := 10) (d := 43) (v := ?_) rfl (by kernel_rfl) (by kernel_rfl) (by kernel_rfl) (fun _ _ _ h => h) (by rfl) ?_ hHeld ?_
          rotate_left
          · intro wS hS
            have eF := HF.out wS hS
            go_simp
            try with_reducible rfl
          simp only [Act.put, List.setIfInBounds_toArray, List.set_cons_zero, List.set_cons_succ]
          refine wpAnyH_append3 (fuel := 1) (i0 := 0) (i1 := 4) (iB := 6) (i2 := 7) (i3 := 11) (d0 := 33) (d1 := 37) (dB := 39) (d2 := 40) (d3 := 44) (j1 := 36) (j3 := 43) rfl rfl rfl rfl rfl ⟨rfl, rfl⟩ ⟨rfl, rfl⟩ (by kernel_rfl) (by kernel_rfl) (by kernel_rfl) (by kernel_rfl) (by kernel_rfl) (by kernel_rfl) (by kernel_rfl) (by decide) (by decide) (by simp) 3 1 8 (.int .i64 0) Tryd.underlying37 infoIntK rfl (by decide) (by decide) ?run0A [z] rfl ?runBA (L.take k) (L.drop k) k c (n - k) (c - k) (some ⟨g, 0, none⟩) (some ⟨g, k, none⟩) rfl (by first | rfl | (trace_state; rfl)) hHeld ?s1A ?s3A (by omega) ?nextA
          case run0A => intro a w; go_simp
          case runBA =>
            intro a' w hev
            have h1 : a'.eval (.tmp 38) = .int .i64 z := (hev 38 (by decide) (by decide)).trans rfl
            have h2 : a'.tmps[38]?.getD undef = .int .i64 z := by simpa [Act.eval] using h1
            clear h1 hev
            go_simp
          case s1A =>
            intro w' hb'
            have h := IRow.src (ownsRow_below HOWN.out hb') 0 k c (by rw [← HN.out]; omega)
            simpa using h
          case s3A =>
            intro w' hb'
            have h := IRow.src (ownsRow_below HOWN.out hb') k (n - k) (c - k) (by rw [← HN.out]; omega)
            rw [List.take_of_length_le (by rw [List.length_drop, ← HN.out]; omega)] at h
            exact h
          case nextA =>
            intro u0 u1 uB u2 g' c' w' hc1 hc2 hg1 hown' hB'
            clear hHeld
            have hHeld := hB'
            simp only [Act.put, List.setIfInBounds_toArray, List.set_cons_zero, List.set_cons_succ]
            refine wpAnyH_takeD (i := 12) (d := 4) (v := ?_) rfl (by kernel_rfl) (by kernel_rfl) (by kernel_rfl) (fun _ _ _ h => h) (by rfl) ?_ hHeld ?_
            rotate_left
            · intro wS hS
              have eF := HF.out wS hS
              go_simp
              try with_reducible rfl
            simp only [Act.put, List.setIfInBounds_toArray, List.set_cons_zero, List.set_cons_succ]
            refine wpAnyH_done (by kernel_rfl) ?_ _
            go_wp2
            go_ret
            try simp only [Nat.add_zero] at hown' hc1
            have hl : k + 1 + (n - k) = (putL L z).length := by rw [hput.out]; simp only [List.length_append, List.length_take, List.length_cons, List.length_drop, ← HN.out]; omega
            have hc3 := hc1
            rw [hl] at hc3
            have hg3 : g' < w'.heap.size := (World.ownsRow.lt hown' g' rfl).2
            have hrow : L.take k ++ [z] ++ L.drop k = putL L z := by rw [hput.out]; simp
            refine ⟨_, rfl, ⟨⟨g', c', by rw [← hl]; rfl, hc3, hc2, hg3⟩, ?_⟩, hB'⟩
            rw [hrow] at hown'
            have h5 := ownsRow_mono hown' hlo
            rw [← hl]
            exact h5
    · obtain rfl : n = k := by omega
      have hput : Hid (putL L z = L.take n ++ z :: L.drop n) := putL_new HN.out (Nat.le_refl _) hall.out (fun h => absurd h (by omega))
      by_cases hcn : c = n
      · subst hcn
        go_wp2
        have HF : Hid (∀ w', Below w.heap.size w w' → True) := fun _ _ => trivial
        have hkc : c ≤ c := by omega
        have hkc2 : ((c : Nat) : Int) ≤ (c : Int) := by omega
        skip
        refine wp_region_held_drew (S := fun w' => Below (w).heap.size (w) w') (by kernel_rfl) ((Below.refl _ _).drew) (fun hHeld => ?_)
        refine wpAnyH_takeD (i := 1) (d := 34) (v := ?_) rfl (by kernel_rfl) (by kernel_rfl) (by kernel_rfl) (fun _ _ _ h => h) (by rfl) ?_ hHeld ?_
        rotate_left
        · intro wS hS
          have eF := HF.out wS hS
          go_simp
          try with_reducible rfl
        simp only [Act.put, List.setIfInBounds_toArray, List.set_cons_zero, List.set_cons_succ]
        refine wpAnyH_takeD (i := 2) (d := 35) (v := ?_) rfl (by kernel_rfl) (by kernel_rfl) (by kernel_rfl) (fun _ _ _ h => h) (by rfl) ?_ hHeld ?_
        rotate_left
        · intro wS hS
          have eF := HF.out wS hS
          go_simp
          try with_reducible rfl
        simp only [Act.put, List.setIfInBounds_toArray, List.set_cons_zero, List.set_cons_succ]
        refine wpAnyH_takeD (i := 3) (d := 36) (v := ?_) rfl (by kernel_rfl) (by kernel_rfl) (by kernel_rfl) (fun _ _ _ h => h) (by rfl) ?_ hHeld ?_
        rotate_left
        · intro wS hS
          have eF := HF.out wS hS
          go_simp
          try with_reducible rfl
        simp only [Act.put, List.setIfInBounds_toArray, List.set_cons_zero, List.set_cons_succ]
        refine wpAnyH_takeD (i := 5) (d := 38) (v := ?_) rfl (by kernel_rfl) (by kernel_rfl) (by kernel_rfl) (fun _ _ _ h => h) (by rfl) ?_ hHeld ?_
        rotate_left
        · intro wS hS
          have eF := HF.out wS hS
          go_simp
          try with_reducible rfl
        simp only [Act.put, List.setIfInBounds_toArray, List.set_cons_zero, List.set_cons_succ]
        refine wpAnyH_takeD (i := 8) (d := 41) (v := ?_) rfl (by kernel_rfl) (by kernel_rfl) (by kernel_rfl) (fun _ _ _ h => h) (by rfl) ?_ hHeld ?_
        rotate_left
        · intro wS hS
          have eF := HF.out wS hS
          go_simp
          try with_reducible rfl
        simp only [Act.put, List.setIfInBounds_toArray, List.set_cons_zero, List.set_cons_succ]
        refine wpAnyH_takeD (i := 9) (d := 42) (v := ?_) rfl (by kernel_rfl) (by kernel_rfl) (by kernel_rfl) (fun _ _ _ h => h) (by rfl) ?_ hHeld ?_
        rotate_left
        · intro wS hS
          have eF := HF.out wS hS
          go_simp
          try with_reducible rfl
        simp only [Act.put, List.setIfInBounds_toArray, List.set_cons_zero, List.set_cons_succ]
        refine wpAnyH_takeD (i := 10) (d := 43) (v := ?_) rfl (by kernel_rfl) (by kernel_rfl) (by kernel_rfl) (fun _ _ _ h => h) (by rfl) ?_ hHeld ?_
        rotate_left
        · intro wS hS
          have eF := HF.out wS hS
          go_simp
          try with_reducible rfl
        simp only [Act.put, List.setIfInBounds_toArray, List.set_cons_zero, List.set_cons_succ]
        refine wpAnyH_append3 (fuel := 1) (i0 := 0) (i1 := 4) (iB := 6) (i2 := 7) (i3 := 11) (d0 := 33) (d1 := 37) (dB := 39) (d2 := 40) (d3 := 44) (j1 := 36) (j3 := 43) rfl rfl rfl rfl rfl ⟨rfl, rfl⟩ ⟨rfl, rfl⟩ (by kernel_rfl) (by kernel_rfl) (by kernel_rfl) (by kernel_rfl) (by kernel_rfl) (by kernel_rfl) (by kernel_rfl) (by decide) (by decide) (by simp) 3 1 8 (.int .i64 0) Tryd.underlying37 infoIntK rfl (by decide) (by decide) ?run0B [z] rfl ?runBB (L.take c) (L.drop c) c c 0 (0) (some ⟨g, 0, none⟩) (some ⟨g, 0, none⟩) rfl (by first | rfl | (trace_state; rfl)) hHeld ?s1B ?s3B (by omega) ?nextB
        case run0B => intro a w; go_simp
        case runBB =>
          intro a' w hev
          have h1 : a'.eval (.tmp 38) = .int .i64 z := (hev 38 (by decide) (by decide)).trans rfl
          have h2 : a'.tmps[38]?.getD undef = .int .i64 z := by simpa [Act.eval] using h1
          clear h1 hev
          go_simp
        case s1B =>
          intro w' hb'
          have h := IRow.src (ownsRow_below HOWN.out hb') 0 c c (by rw [← HN.out]; omega)
          simpa using h
        case s3B =>
          intro w' hb'
          exact Src.drop_all HN.out _ _ (by simp)
  
  
        case nextB =>
          intro u0 u1 uB u2 g' c' w' hc1 hc2 hg1 hown' hB'
          clear hHeld
          have hHeld := hB'
          simp only [Act.put, List.setIfInBounds_toArray, List.set_cons_zero, List.set_cons_succ]
          refine wpAnyH_takeD (i := 12) (d := 4) (v := ?_) rfl (by kernel_rfl) (by kernel_rfl) (by kernel_rfl) (fun _ _ _ h => h) (by rfl) ?_ hHeld ?_
          rotate_left
          · intro wS hS
            have eF := HF.out wS hS
            go_simp
            try with_reducible rfl
          simp only [Act.put, List.setIfInBounds_toArray, List.set_cons_zero, List.set_cons_succ]
          refine wpAnyH_done (by kernel_rfl) ?_ _
          go_wp2
          go_ret
          try simp only [Nat.add_zero] at hown' hc1
          have hl : c + 1 = (putL L z).length := by rw [hput.out]; simp only [List.length_append, List.length_take, List.length_cons, List.length_drop, ← HN.out]; omega
          have hc3 := hc1
          rw [hl] at hc3
          have hg3 : g' < w'.heap.size := (World.ownsRow.lt hown' g' rfl).2
          have hrow : L.take c ++ [z] ++ L.drop c = putL L z := by rw [hput.out]; simp
          refine ⟨_, rfl, ⟨⟨g', c', by rw [← hl]; rfl, hc3, hc2, hg3⟩, ?_⟩, hB'⟩
          rw [hrow] at hown'
          have h5 := ownsRow_mono hown' hlo
          rw [← hl]
          exact h5
      · go_wp2
        have HF : Hid (∀ w', Below w.heap.size w w' → True) := fun _ _ => trivial
        have hkc : n ≤ c := by omega
        have hkc2 : ((n : Nat) : Int) ≤ (c : Int) := by omega
        have hck : ¬ (c = n) := hcn
        refine wp_region_held_drew (S := fun w' => Below (w).heap.size (w) w') (by kernel_rfl) ((Below.refl _ _).drew) (fun hHeld => ?_)
        refine wpAnyH_takeD (i := 1) (d := 34) (v := ?_) rfl (by kernel_rfl) (by kernel_rfl) (by kernel_rfl) (fun _ _ _ h => h) (by rfl) ?_ hHeld ?_
        rotate_left
        · intro wS hS
          have eF := HF.out wS hS
          go_simp
          try with_reducible rfl
        simp only [Act.put, List.setIfInBounds_toArray, List.set_cons_zero, List.set_cons_succ]
        refine wpAnyH_takeD (i := 2) (d := 35) (v := ?_) rfl (by kernel_rfl) (by kernel_rfl) (by kernel_rfl) (fun _ _ _ h => h) (by rfl) ?_ hHeld ?_
        rotate_left
        · intro wS hS
          have eF := HF.out wS hS
          go_simp
          try with_reducible rfl
        simp only [Act.put, List.setIfInBounds_toArray, List.set_cons_zero, List.set_cons_succ]
        refine wpAnyH_takeD (i := 3) (d := 36) (v := ?_) rfl (by kernel_rfl) (by kernel_rfl) (by kernel_rfl) (fun _ _ _ h => h) (by rfl) ?_ hHeld ?_
        rotate_left
        · intro wS hS
          have eF := HF.out wS hS
          go_simp
          try with_reducible rfl
        simp only [Act.put, List.setIfInBounds_toArray, List.set_cons_zero, List.set_cons_succ]
        refine wpAnyH_takeD (i := 5) (d := 38) (v := ?_) rfl (by kernel_rfl) (by kernel_rfl) (by kernel_rfl) (fun _ _ _ h => h) (by rfl) ?_ hHeld ?_
        rotate_left
        · intro wS hS
          have eF := HF.out wS hS
          go_simp
          try with_reducible rfl
        simp only [Act.put, List.setIfInBounds_toArray, List.set_cons_zero, List.set_cons_succ]
        refine wpAnyH_takeD (i := 8) (d := 41) (v := ?_) rfl (by kernel_rfl) (by kernel_rfl) (by kernel_rfl) (fun _ _ _ h => h) (by rfl) ?_ hHeld ?_
        rotate_left
        · intro wS hS
          have eF := HF.out wS hS
          go_simp
          try with_reducible rfl
        simp only [Act.put, List.setIfInBounds_toArray, List.set_cons_zero, List.set_cons_succ]
        refine wpAnyH_takeD (i := 9) (d := 42) (v := ?_) rfl (by kernel_rfl) (by kernel_rfl) (by kernel_rfl) (fun _ _ _ h => h) (by rfl) ?_ hHeld ?_
        rotate_left
        · intro wS hS
          have eF := HF.out wS hS
          go_simp
          try with_reducible rfl
        simp only [Act.put, List.setIfInBounds_toArray, List.set_cons_zero, List.set_cons_succ]
        refine wpAnyH_takeD (i := 10) (d := 43) (v := ?_) rfl (by kernel_rfl) (by kernel_rfl) (by kernel_rfl) (fun _ _ _ h => h) (by rfl) ?_ hHeld ?_
        rotate_left
        · intro wS hS
          have eF := HF.out wS hS
          go_simp
          try with_reducible rfl
        simp only [Act.put, List.setIfInBounds_toArray, List.set_cons_zero, List.set_cons_succ]
        refine wpAnyH_append3 (fuel := 1) (i0 := 0) (i1 := 4) (iB := 6) (i2 := 7) (i3 := 11) (d0 := 33) (d1 := 37) (dB := 39) (d2 := 40) (d3 := 44) (j1 := 36) (j3 := 43) rfl rfl rfl rfl rfl ⟨rfl, rfl⟩ ⟨rfl, rfl⟩ (by kernel_rfl) (by kernel_rfl) (by kernel_rfl) (by kernel_rfl) (by kernel_rfl) (by kernel_rfl) (by kernel_rfl) (by decide) (by decide) (by simp) 3 1 8 (.int .i64 0) Tryd.underlying37 infoIntK rfl (by decide) (by decide) ?run0C [z] rfl ?runBC (L.take n) (L.drop n) n c 0 (c - n) (some ⟨g, 0, none⟩) (some ⟨g, n, none⟩) rfl (by first | rfl | (trace_state; rfl)) hHeld ?s1C ?s3C (by omega) ?nextC
        case run0C => intro a w; go_simp
        case runBC =>
          intro a' w hev
          have h1 : a'.eval (.tmp 38) = .int .i64 z := (hev 38 (by decide) (by decide)).trans rfl
          have h2 : a'.tmps[38]?.getD undef = .int .i64 z := by simpa [Act.eval] using h1
          clear h1 hev
          go_simp
        case s1C =>
          intro w' hb'
          have h := IRow.src (ownsRow_below HOWN.out hb') 0 n c (by rw [← HN.out]; omega)
          simpa using h
        case s3C =>
          intro w' hb'
          exact Src.drop_all HN.out _ _ (by simp)
  
  
        case nextC =>
          intro u0 u1 uB u2 g' c' w' hc1 hc2 hg1 hown' hB'
          clear hHeld
          have hHeld := hB'
          simp only [Act.put, List.setIfInBounds_toArray, List.set_cons_zero, List.set_cons_succ]
          refine wpAnyH_takeD (i := 12) (d := 4) (v := ?_) rfl (by kernel_rfl) (by kernel_rfl) (by kernel_rfl) (fun _ _ _ h => h) (by rfl) ?_ hHeld ?_
          rotate_left
          · intro wS hS
            have eF := HF.out wS hS
            go_simp
            try with_reducible rfl
          simp only [Act.put, List.setIfInBounds_toArray, List.set_cons_zero, List.set_cons_succ]
          refine wpAnyH_done (by kernel_rfl) ?_ _
          go_wp2
          go_ret
          try simp only [Nat.add_zero] at hown' hc1
          have hl : n + 1 = (putL L z).length := by rw [hput.out]; simp only [List.length_append, List.length_take, List.length_cons, List.length_drop, ← HN.out]; omega
          have hc3 := hc1
          rw [hl] at hc3
          have hg3 : g' < w'.heap.size := (World.ownsRow.lt hown' g' rfl).2
          have hrow : L.take n ++ [z] ++ L.drop n = putL L z := by rw [hput.out]; simp
          refine ⟨_, rfl, ⟨⟨g', c', by rw [← hl]; rfl, hc3, hc2, hg3⟩, ?_⟩, hB'⟩
          rw [hrow] at hown'
          have h5 := ownsRow_mono hown' hlo
          rw [← hl]
          exact h5
end Go.Proofs.YtcecpioiagfoiaaDoor
