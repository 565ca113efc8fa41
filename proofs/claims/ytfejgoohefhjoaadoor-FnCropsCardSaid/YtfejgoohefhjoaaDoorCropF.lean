/-
  WorstFall: the program's and the reference's return the years of the same two rows.
-/
import Derived.Test.YtfejgoohefhjoaaDoorCropB
import Derived.Test.YtfejgoohefhjoaaDoorRegionQ
namespace Go.Proofs.YtfejgoohefhjoaaDoor
open Go.RowKit
set_option linter.unusedVariables false
set_option linter.unusedSimpArgs false
attribute [local go_sem ↓] Go.wp_at_zero Go.wp_at_succ
def gapV (f : Nat → Int) (i k : Nat) : Int := wrap64 (worthAt f i - worthAt f k)
def wst (f : Nat → Int) (s : Nat × Nat) (i k : Nat) : Nat × Nat := if gapV f s.1 s.2 < gapV f i k then (i, k) else s
/-- Row i against the m rows behind it. -/
def wsIn (f : Nat → Int) (s : Nat × Nat) (i : Nat) : Nat → Nat × Nat
  | 0 => s
  | m + 1 => wst f (wsIn f s i m) i (i + 1 + m)
def wsOut (f : Nat → Int) (n : Nat) : Nat → Nat × Nat
  | 0 => (0, 1)
  | i + 1 => wsIn f (wsOut f n i) i (n - (i + 1))
theorem wsIn_lt {f : Nat → Int} {n : Nat} {s : Nat × Nat} {i : Nat} (hs : s.1 < n ∧ s.2 < n) : ∀ m, i + 1 + m ≤ n → (wsIn f s i m).1 < n ∧ (wsIn f s i m).2 < n
  | 0, _ => hs
  | m + 1, h => by
    have ih := wsIn_lt (f := f) (i := i) hs m (by omega)
    unfold wsIn wst
    split
    · exact ⟨by show i < n; omega, by show i + 1 + m < n; omega⟩
    · exact ih
theorem wsOut_lt {f : Nat → Int} {n : Nat} (hn : 2 ≤ n) : ∀ i, i ≤ n → (wsOut f n i).1 < n ∧ (wsOut f n i).2 < n
  | 0, _ => ⟨by show 0 < n; omega, by show 1 < n; omega⟩
  | i + 1, h => wsIn_lt (wsOut_lt hn i (by omega)) (n - (i + 1)) (by omega)

theorem WorstFall_no (A : Option Addr) (n c lo hi : Nat) (f : Nat → Int) (w : World) (hs : Sl w lo hi 5 A n f) (hn : n ≤ 1048576) (hnc : n ≤ c) (h : goodRows f n = false ∨ n < 2) :
    Calls Tryd.prog 12 #[.slice A n c] w fun e w' => e = .returned (.tuple #[.int .i64 0, .int .i64 0, .bool false]) ∧ Below w.heap.size w w' := by
  have HS : Hid (Sl w lo hi 5 A n f) := hs
  clear hs
  cases hg : goodRows f n with
  | false =>
    clear h
    go_enter Tryd.func12, Tryd.ntmps12
    go_wp2_with fail
    refine (AreCropRows_any A n c lo hi f w HS.out hn hnc).mono ?_
    rw [hg]
    rintro e w1 ⟨rfl, hb1⟩
    go_wp2
    go_ret3
    exact ⟨rfl, hb1⟩
  | true =>
    have h0 : (n : Int) < 2 := by have : n < 2 := by simpa [hg] using h
                                  omega
    clear h
    go_enter Tryd.func12, Tryd.ntmps12
    go_wp2_with fail
    refine (AreCropRows_any A n c lo hi f w HS.out hn hnc).mono ?_
    rw [hg]
    rintro e w1 ⟨rfl, hb1⟩
    go_wp2
    go_ret3
    exact ⟨rfl, hb1⟩
theorem sWorstFall_no (A : Option Addr) (n c lo hi : Nat) (f : Nat → Int) (w : World) (hs : Sl w lo hi 5 A n f) (hn : n ≤ 1048576) (hnc : n ≤ c) (h : goodRows f n = false ∨ n < 2) :
    Calls Tryd.prog 13 #[.slice A n c] w fun e w' => e = .returned (.tuple #[.int .i64 0, .int .i64 0, .bool false]) ∧ Below w.heap.size w w' := by
  have HS : Hid (Sl w lo hi 5 A n f) := hs
  clear hs
  cases hg : goodRows f n with
  | false =>
    clear h
    go_enter Tryd.func13, Tryd.ntmps13
    go_wp2_with fail
    refine (l26Good_any A n c lo hi f w HS.out hn hnc).mono ?_
    rw [hg]
    rintro e w1 ⟨rfl, hb1⟩
    go_wp2
    go_ret3
    exact ⟨rfl, hb1⟩
  | true =>
    have h0 : (n : Int) < 2 := by have : n < 2 := by simpa [hg] using h
                                  omega
    clear h
    go_enter Tryd.func13, Tryd.ntmps13
    go_wp2_with fail
    refine (l26Good_any A n c lo hi f w HS.out hn hnc).mono ?_
    rw [hg]
    rintro e w1 ⟨rfl, hb1⟩
    go_wp2
    go_ret3
    exact ⟨rfl, hb1⟩
set_option maxRecDepth 100000 in
set_option maxHeartbeats 2000000 in
theorem sWorstFall_yes (A : Option Addr) (n c lo hi : Nat) (f : Nat → Int) (w : World) (hs : Sl w lo hi 5 A n f) (hn : n ≤ 1048576) (hnc : n ≤ c) (hg : goodRows f n = true) (h2 : 2 ≤ n) :
    Calls Tryd.prog 13 #[.slice A n c] w fun e w' => e = .returned (.tuple #[.int .i64 (f ((wsOut f n n).1 * 5)), .int .i64 (f ((wsOut f n n).2 * 5)), .bool true]) ∧ Below w.heap.size w w' := by
  have HS : Hid (Sl w lo hi 5 A n f) := hs
  clear hs
  have h2i : ¬ ((n : Int) < 2) := by omega
  go_enter Tryd.func13, Tryd.ntmps13
  go_wp2_with fail
  refine (l26Good_any A n c lo hi f w HS.out hn hnc).mono ?_
  rw [hg]
  rintro e w1 ⟨rfl, hb1⟩
  have HB1 : Hid (Below w.heap.size w w1) := hb1
  have HS1 : Hid (Sl w1 lo hi 5 A n f) := HS.out.below hb1
  have hz1 := hb1.size
  clear HS hb1
  go_wp2
  go_loopw [5, 6, 7] (fun s5 s6 s7 wr => ∃ i : Nat, i ≤ n ∧ s7 = .int .i64 i ∧ s5 = .int .i64 ((wsOut f n i).1 : Nat) ∧ s6 = .int .i64 ((wsOut f n i).2 : Nat) ∧ Below w1.heap.size w1 wr) (fun _ _ i _ => n - (intOf i).toNat)
  case atStart => exact ⟨0, Nat.zero_le _, rfl, rfl, rfl, Below.refl _ _⟩
  case round =>
    obtain ⟨i, hi, rfl, rfl, rfl, hbel⟩ := hrel
    by_cases hlt : i < n
    · have hii : IntKind.i64.wrap ((i : Int) + 1) = ((i + 1 : Nat) : Int) := by rw [IntWalk.i64_in _ (by omega)]; omega
      have hso := wsOut_lt (f := f) h2 i hi
      go_wp2
      go_loopw [5, 6, 8] (fun s5 s6 s8 wr => ∃ m : Nat, i + 1 + m ≤ n ∧ s8 = .int .i64 (i + 1 + m : Nat) ∧ s5 = .int .i64 ((wsIn f (wsOut f n i) i m).1 : Nat) ∧ s6 = .int .i64 ((wsIn f (wsOut f n i) i m).2 : Nat) ∧ Below w1.heap.size w1 wr) (fun _ _ k _ => n - (intOf k).toNat)
      case atStart => exact ⟨0, by omega, by simp, rfl, rfl, hbel⟩
      case round =>
        obtain ⟨m, hm, rfl, rfl, rfl, hbel2⟩ := hrel
        clear hbel
        by_cases hlk : i + 1 + m < n
        · obtain ⟨hx, hy⟩ := wsIn_lt (f := f) (i := i) hso m hm
          have hnx : wsIn f (wsOut f n i) i (m + 1) = wst f (wsIn f (wsOut f n i) i m) i (i + 1 + m) := rfl
          generalize hsi : wsIn f (wsOut f n i) i m = st at *
          obtain ⟨x, y⟩ := st
          simp only at hx hy
          obtain ⟨b, off, rfl, hbw, HC⟩ := HS1.out.open_ hbel2 (by omega)
          obtain ⟨ci0, ci1, ci2, ci3, ci4⟩ := cell5 HC hlt
          obtain ⟨ck0, ck1, ck2, ck3, ck4⟩ := cell5 HC hlk
          obtain ⟨cx0, cx1, cx2, cx3, cx4⟩ := cell5 HC hx
          obtain ⟨cy0, cy1, cy2, cy3, cy4⟩ := cell5 HC hy
          have HF : Hid (∀ w', Below wr.heap.size wr w' → w'.cell? ⟨b, off + i * 5, none⟩ = some (.int .i64 (f (i * 5))) ∧ w'.cell? ⟨b, off + i * 5 + 1, none⟩ = some (.int .i64 (f (i * 5 + 1))) ∧ w'.cell? ⟨b, off + i * 5 + 2, none⟩ = some (.int .i64 (f (i * 5 + 2))) ∧ w'.cell? ⟨b, off + i * 5 + 3, none⟩ = some (.int .i64 (f (i * 5 + 3))) ∧ w'.cell? ⟨b, off + i * 5 + 4, none⟩ = some (.int .i64 (f (i * 5 + 4))) ∧ w'.cell? ⟨b, off + (i + 1 + m) * 5, none⟩ = some (.int .i64 (f ((i + 1 + m) * 5))) ∧ w'.cell? ⟨b, off + (i + 1 + m) * 5 + 1, none⟩ = some (.int .i64 (f ((i + 1 + m) * 5 + 1))) ∧ w'.cell? ⟨b, off + (i + 1 + m) * 5 + 2, none⟩ = some (.int .i64 (f ((i + 1 + m) * 5 + 2))) ∧ w'.cell? ⟨b, off + (i + 1 + m) * 5 + 3, none⟩ = some (.int .i64 (f ((i + 1 + m) * 5 + 3))) ∧ w'.cell? ⟨b, off + (i + 1 + m) * 5 + 4, none⟩ = some (.int .i64 (f ((i + 1 + m) * 5 + 4))) ∧ w'.cell? ⟨b, off + x * 5, none⟩ = some (.int .i64 (f (x * 5))) ∧ w'.cell? ⟨b, off + x * 5 + 1, none⟩ = some (.int .i64 (f (x * 5 + 1))) ∧ w'.cell? ⟨b, off + x * 5 + 2, none⟩ = some (.int .i64 (f (x * 5 + 2))) ∧ w'.cell? ⟨b, off + x * 5 + 3, none⟩ = some (.int .i64 (f (x * 5 + 3))) ∧ w'.cell? ⟨b, off + x * 5 + 4, none⟩ = some (.int .i64 (f (x * 5 + 4))) ∧ w'.cell? ⟨b, off + y * 5, none⟩ = some (.int .i64 (f (y * 5))) ∧ w'.cell? ⟨b, off + y * 5 + 1, none⟩ = some (.int .i64 (f (y * 5 + 1))) ∧ w'.cell? ⟨b, off + y * 5 + 2, none⟩ = some (.int .i64 (f (y * 5 + 2))) ∧ w'.cell? ⟨b, off + y * 5 + 3, none⟩ = some (.int .i64 (f (y * 5 + 3))) ∧ w'.cell? ⟨b, off + y * 5 + 4, none⟩ = some (.int .i64 (f (y * 5 + 4)))) := fun w' hq => ⟨(hq.cell (p := ⟨b, off + i * 5, none⟩) hbw).trans ci0, (hq.cell (p := ⟨b, off + i * 5 + 1, none⟩) hbw).trans ci1, (hq.cell (p := ⟨b, off + i * 5 + 2, none⟩) hbw).trans ci2, (hq.cell (p := ⟨b, off + i * 5 + 3, none⟩) hbw).trans ci3, (hq.cell (p := ⟨b, off + i * 5 + 4, none⟩) hbw).trans ci4, (hq.cell (p := ⟨b, off + (i + 1 + m) * 5, none⟩) hbw).trans ck0, (hq.cell (p := ⟨b, off + (i + 1 + m) * 5 + 1, none⟩) hbw).trans ck1, (hq.cell (p := ⟨b, off + (i + 1 + m) * 5 + 2, none⟩) hbw).trans ck2, (hq.cell (p := ⟨b, off + (i + 1 + m) * 5 + 3, none⟩) hbw).trans ck3, (hq.cell (p := ⟨b, off + (i + 1 + m) * 5 + 4, none⟩) hbw).trans ck4, (hq.cell (p := ⟨b, off + x * 5, none⟩) hbw).trans cx0, (hq.cell (p := ⟨b, off + x * 5 + 1, none⟩) hbw).trans cx1, (hq.cell (p := ⟨b, off + x * 5 + 2, none⟩) hbw).trans cx2, (hq.cell (p := ⟨b, off + x * 5 + 3, none⟩) hbw).trans cx3, (hq.cell (p := ⟨b, off + x * 5 + 4, none⟩) hbw).trans cx4, (hq.cell (p := ⟨b, off + y * 5, none⟩) hbw).trans cy0, (hq.cell (p := ⟨b, off + y * 5 + 1, none⟩) hbw).trans cy1, (hq.cell (p := ⟨b, off + y * 5 + 2, none⟩) hbw).trans cy2, (hq.cell (p := ⟨b, off + y * 5 + 3, none⟩) hbw).trans cy3, (hq.cell (p := ⟨b, off + y * 5 + 4, none⟩) hbw).trans cy4⟩
          have hin : (0 : Int) ≤ (i : Int) ∧ (i : Int) < (n : Int) := by omega
          have hkn : (0 : Int) ≤ ((i + 1 + m : Nat) : Int) ∧ ((i + 1 + m : Nat) : Int) < (n : Int) := by omega
          have hxn : (0 : Int) ≤ (x : Int) ∧ (x : Int) < (n : Int) := by omega
          have hyn : (0 : Int) ≤ (y : Int) ∧ (y : Int) < (n : Int) := by omega
          obtain ⟨hi0, hi1⟩ := hin
          obtain ⟨hk0, hk1⟩ := hkn
          obtain ⟨hx0, hx1⟩ := hxn
          obtain ⟨hy0, hy1⟩ := hyn
          generalize hkk : i + 1 + m = k at *
          have hkw : IntKind.i64.wrap ((k : Int) + 1) = ((k + 1 : Nat) : Int) := by rw [IntWalk.i64_in _ (by omega)]; omega
          clear HC ci0 ci1 ci2 ci3 ci4 ck0 ck1 ck2 ck3 ck4 cx0 cx1 cx2 cx3 cx4 cy0 cy1 cy2 cy3 cy4
          go_wp2
          refine wp_region_class (C := fun w' => Below (wr).heap.size (wr) w') (by kernel_rfl) (by kernel_rfl) ((Below.refl _ _).drew) ?_
          refine wpQuiet_take (d := 31) (v := ?_) (by rfl) ?_ ?_
          rotate_left
          · intro wS hS
            have eF := HF.out wS hS
            go_simp
            try with_reducible rfl
          simp only [Act.put, List.setIfInBounds_toArray, List.set_cons_zero, List.set_cons_succ]
          refine wpQuiet_take (d := 32) (v := ?_) (by rfl) ?_ ?_
          rotate_left
          · intro wS hS
            have eF := HF.out wS hS
            go_simp
            try with_reducible rfl
          simp only [Act.put, List.setIfInBounds_toArray, List.set_cons_zero, List.set_cons_succ]
          refine wpQuiet_take (d := 33) (v := ?_) (by rfl) ?_ ?_
          rotate_left
          · intro wS hS
            have eF := HF.out wS hS
            go_simp
            try with_reducible rfl
          simp only [Act.put, List.setIfInBounds_toArray, List.set_cons_zero, List.set_cons_succ]
          refine wpQuiet_take (d := 34) (v := ?_) (by rfl) ?_ ?_
          rotate_left
          · intro wS hS
            have eF := HF.out wS hS
            go_simp
            try with_reducible rfl
          simp only [Act.put, List.setIfInBounds_toArray, List.set_cons_zero, List.set_cons_succ]
          refine wpQuiet_meet (d := 35) (v := ?_) ?_ ?_ (by rfl) ?_ ?_ ?_
          rotate_left
          rotate_left
          rotate_left
          · intro wS hS
            have eF := HF.out wS hS
            go_simp
            first | with_reducible rfl | (refine ⟨?_, ?_⟩ <;> with_reducible rfl)
          · intro wS hS
            refine (l26Worth_any _ _ _ _ _ _).mono ?_
            rintro e w2 ⟨rfl, hb2⟩
            refine ⟨?_, hS.trans (hb2.mono hS.size)⟩
            with_reducible rfl
          simp only [Act.put, List.setIfInBounds_toArray, List.set_cons_zero, List.set_cons_succ]
          refine wpQuiet_take (d := 36) (v := ?_) (by rfl) ?_ ?_
          rotate_left
          · intro wS hS
            have eF := HF.out wS hS
            go_simp
            try with_reducible rfl
          simp only [Act.put, List.setIfInBounds_toArray, List.set_cons_zero, List.set_cons_succ]
          refine wpQuiet_take (d := 37) (v := ?_) (by rfl) ?_ ?_
          rotate_left
          · intro wS hS
            have eF := HF.out wS hS
            go_simp
            try with_reducible rfl
          simp only [Act.put, List.setIfInBounds_toArray, List.set_cons_zero, List.set_cons_succ]
          refine wpQuiet_take (d := 38) (v := ?_) (by rfl) ?_ ?_
          rotate_left
          · intro wS hS
            have eF := HF.out wS hS
            go_simp
            try with_reducible rfl
          simp only [Act.put, List.setIfInBounds_toArray, List.set_cons_zero, List.set_cons_succ]
          refine wpQuiet_take (d := 39) (v := ?_) (by rfl) ?_ ?_
          rotate_left
          · intro wS hS
            have eF := HF.out wS hS
            go_simp
            try with_reducible rfl
          simp only [Act.put, List.setIfInBounds_toArray, List.set_cons_zero, List.set_cons_succ]
          refine wpQuiet_meet (d := 40) (v := ?_) ?_ ?_ (by rfl) ?_ ?_ ?_
          rotate_left
          rotate_left
          rotate_left
          · intro wS hS
            have eF := HF.out wS hS
            go_simp
            first | with_reducible rfl | (refine ⟨?_, ?_⟩ <;> with_reducible rfl)
          · intro wS hS
            refine (l26Worth_any _ _ _ _ _ _).mono ?_
            rintro e w2 ⟨rfl, hb2⟩
            refine ⟨?_, hS.trans (hb2.mono hS.size)⟩
            with_reducible rfl
          simp only [Act.put, List.setIfInBounds_toArray, List.set_cons_zero, List.set_cons_succ]
          refine wpQuiet_take (d := 41) (v := ?_) (by rfl) ?_ ?_
          rotate_left
          · intro wS hS
            have eF := HF.out wS hS
            go_simp
            try with_reducible rfl
          simp only [Act.put, List.setIfInBounds_toArray, List.set_cons_zero, List.set_cons_succ]
          refine wpQuiet_take (d := 42) (v := ?_) (by rfl) ?_ ?_
          rotate_left
          · intro wS hS
            have eF := HF.out wS hS
            go_simp
            try with_reducible rfl
          simp only [Act.put, List.setIfInBounds_toArray, List.set_cons_zero, List.set_cons_succ]
          refine wpQuiet_take (d := 43) (v := ?_) (by rfl) ?_ ?_
          rotate_left
          · intro wS hS
            have eF := HF.out wS hS
            go_simp
            try with_reducible rfl
          simp only [Act.put, List.setIfInBounds_toArray, List.set_cons_zero, List.set_cons_succ]
          refine wpQuiet_take (d := 44) (v := ?_) (by rfl) ?_ ?_
          rotate_left
          · intro wS hS
            have eF := HF.out wS hS
            go_simp
            try with_reducible rfl
          simp only [Act.put, List.setIfInBounds_toArray, List.set_cons_zero, List.set_cons_succ]
          refine wpQuiet_take (d := 45) (v := ?_) (by rfl) ?_ ?_
          rotate_left
          · intro wS hS
            have eF := HF.out wS hS
            go_simp
            try with_reducible rfl
          simp only [Act.put, List.setIfInBounds_toArray, List.set_cons_zero, List.set_cons_succ]
          refine wpQuiet_meet (d := 46) (v := ?_) ?_ ?_ (by rfl) ?_ ?_ ?_
          rotate_left
          rotate_left
          rotate_left
          · intro wS hS
            have eF := HF.out wS hS
            go_simp
            first | with_reducible rfl | (refine ⟨?_, ?_⟩ <;> with_reducible rfl)
          · intro wS hS
            refine (l26Worth_any _ _ _ _ _ _).mono ?_
            rintro e w2 ⟨rfl, hb2⟩
            refine ⟨?_, hS.trans (hb2.mono hS.size)⟩
            with_reducible rfl
          simp only [Act.put, List.setIfInBounds_toArray, List.set_cons_zero, List.set_cons_succ]
          refine wpQuiet_take (d := 47) (v := ?_) (by rfl) ?_ ?_
          rotate_left
          · intro wS hS
            have eF := HF.out wS hS
            go_simp
            try with_reducible rfl
          simp only [Act.put, List.setIfInBounds_toArray, List.set_cons_zero, List.set_cons_succ]
          refine wpQuiet_take (d := 48) (v := ?_) (by rfl) ?_ ?_
          rotate_left
          · intro wS hS
            have eF := HF.out wS hS
            go_simp
            try with_reducible rfl
          simp only [Act.put, List.setIfInBounds_toArray, List.set_cons_zero, List.set_cons_succ]
          refine wpQuiet_take (d := 49) (v := ?_) (by rfl) ?_ ?_
          rotate_left
          · intro wS hS
            have eF := HF.out wS hS
            go_simp
            try with_reducible rfl
          simp only [Act.put, List.setIfInBounds_toArray, List.set_cons_zero, List.set_cons_succ]
          refine wpQuiet_take (d := 50) (v := ?_) (by rfl) ?_ ?_
          rotate_left
          · intro wS hS
            have eF := HF.out wS hS
            go_simp
            try with_reducible rfl
          simp only [Act.put, List.setIfInBounds_toArray, List.set_cons_zero, List.set_cons_succ]
          refine wpQuiet_meet (d := 51) (v := ?_) ?_ ?_ (by rfl) ?_ ?_ ?_
          rotate_left
          rotate_left
          rotate_left
          · intro wS hS
            have eF := HF.out wS hS
            go_simp
            first | with_reducible rfl | (refine ⟨?_, ?_⟩ <;> with_reducible rfl)
          · intro wS hS
            refine (l26Worth_any _ _ _ _ _ _).mono ?_
            rintro e w2 ⟨rfl, hb2⟩
            refine ⟨?_, hS.trans (hb2.mono hS.size)⟩
            with_reducible rfl
          simp only [Act.put, List.setIfInBounds_toArray, List.set_cons_zero, List.set_cons_succ]
          refine wpQuiet_take (d := 52) (v := ?_) (by rfl) ?_ ?_
          rotate_left
          · intro wS hS
            have eF := HF.out wS hS
            go_simp
            try with_reducible rfl
          simp only [Act.put, List.setIfInBounds_toArray, List.set_cons_zero, List.set_cons_succ]
          refine wpQuiet_take (d := 53) (v := ?_) (by rfl) ?_ ?_
          rotate_left
          · intro wS hS
            have eF := HF.out wS hS
            go_simp
            try with_reducible rfl
          simp only [Act.put, List.setIfInBounds_toArray, List.set_cons_zero, List.set_cons_succ]
          refine wpQuiet_nil (fun wq hHeld => ?_)
          by_cases hgp : IntKind.i64.wrap (worthV (f (x * 5 + 2)) (f (x * 5 + 3)) (f (x * 5 + 4)) - worthV (f (y * 5 + 2)) (f (y * 5 + 3)) (f (y * 5 + 4))) < IntKind.i64.wrap (worthV (f (i * 5 + 2)) (f (i * 5 + 3)) (f (i * 5 + 4)) - worthV (f (k * 5 + 2)) (f (k * 5 + 3)) (f (k * 5 + 4)))
          · have hst : Hid (wst f (x, y) i k = (i, k)) := if_pos (by simp only [gapV, worthAt, ← IntWalk.i64_left]; exact hgp)
            go_wp2
            go_roundw
            case rel => exact ⟨m + 1, by omega, by go_num, by rw [hnx, hst.out], by rw [hnx, hst.out], below_of hbel2 hHeld hbel2.size⟩
            case measure => simp [intOf]; omega
          · have hst : Hid (wst f (x, y) i k = (x, y)) := if_neg (by simp only [gapV, worthAt, ← IntWalk.i64_left]; exact hgp)
            go_wp2
            go_roundw
            case rel => exact ⟨m + 1, by omega, by go_num, by rw [hnx, hst.out], by rw [hnx, hst.out], below_of hbel2 hHeld hbel2.size⟩
            case measure => simp [intOf]; omega
        · have hmm : m = n - (i + 1) := by omega
          have hfin : Hid (wsIn f (wsOut f n i) i m = wsOut f n (i + 1)) := by rw [hmm]; rfl
          clear hmm
          have hln : ¬ ((i + 1 + m : Nat) : Int) < (n : Int) := by omega
          generalize hkk : i + 1 + m = k at *
          go_wp2
          go_roundw
          case rel => exact ⟨i + 1, by omega, by go_num, by rw [hfin.out], by rw [hfin.out], hbel2⟩
          case measure => simp [intOf]; omega
    · obtain rfl : n = i := by omega
      obtain ⟨hx, hy⟩ := wsOut_lt (f := f) h2 n (Nat.le_refl _)
      generalize hsi : wsOut f n n = st at *
      obtain ⟨x, y⟩ := st
      simp only at hx hy
      obtain ⟨b, off, rfl, hbw, HC⟩ := HS1.out.open_ hbel (by omega)
      obtain ⟨cx0, cx1, cx2, cx3, cx4⟩ := cell5 HC hx
      obtain ⟨cy0, cy1, cy2, cy3, cy4⟩ := cell5 HC hy
      have HF : Hid (∀ w', Below wr.heap.size wr w' → w'.cell? ⟨b, off + x * 5, none⟩ = some (.int .i64 (f (x * 5))) ∧ w'.cell? ⟨b, off + y * 5, none⟩ = some (.int .i64 (f (y * 5)))) := fun w' hq => ⟨(hq.cell (p := ⟨b, off + x * 5, none⟩) hbw).trans cx0, (hq.cell (p := ⟨b, off + y * 5, none⟩) hbw).trans cy0⟩
      have hx0 : (0 : Int) ≤ (x : Int) := by omega
      have hx1 : (x : Int) < (n : Int) := by omega
      have hy0 : (0 : Int) ≤ (y : Int) := by omega
      have hy1 : (y : Int) < (n : Int) := by omega
      clear HC cx0 cx1 cx2 cx3 cx4 cy0 cy1 cy2 cy3 cy4
      go_wp2
      refine wp_region_class (C := fun w' => Below (wr).heap.size (wr) w') (by kernel_rfl) (by kernel_rfl) ((Below.refl _ _).drew) ?_
      refine wpQuiet_take (d := 56) (v := ?_) (by rfl) ?_ ?_
      rotate_left
      · intro wS hS
        have eF := HF.out wS hS
        go_simp
        try with_reducible rfl
      simp only [Act.put, List.setIfInBounds_toArray, List.set_cons_zero, List.set_cons_succ]
      refine wpQuiet_take (d := 57) (v := ?_) (by rfl) ?_ ?_
      rotate_left
      · intro wS hS
        have eF := HF.out wS hS
        go_simp
        try with_reducible rfl
      simp only [Act.put, List.setIfInBounds_toArray, List.set_cons_zero, List.set_cons_succ]
      refine wpQuiet_take (d := 58) (v := ?_) (by rfl) ?_ ?_
      rotate_left
      · intro wS hS
        have eF := HF.out wS hS
        go_simp
        try with_reducible rfl
      simp only [Act.put, List.setIfInBounds_toArray, List.set_cons_zero, List.set_cons_succ]
      refine wpQuiet_take (d := 59) (v := ?_) (by rfl) ?_ ?_
      rotate_left
      · intro wS hS
        have eF := HF.out wS hS
        go_simp
        try with_reducible rfl
      simp only [Act.put, List.setIfInBounds_toArray, List.set_cons_zero, List.set_cons_succ]
      refine wpQuiet_take (d := 60) (v := ?_) (by rfl) ?_ ?_
      rotate_left
      · intro wS hS
        have eF := HF.out wS hS
        go_simp
        try with_reducible rfl
      simp only [Act.put, List.setIfInBounds_toArray, List.set_cons_zero, List.set_cons_succ]
      refine wpQuiet_take (d := 61) (v := ?_) (by rfl) ?_ ?_
      rotate_left
      · intro wS hS
        have eF := HF.out wS hS
        go_simp
        try with_reducible rfl
      simp only [Act.put, List.setIfInBounds_toArray, List.set_cons_zero, List.set_cons_succ]
      refine wpQuiet_take (d := 62) (v := ?_) (by rfl) ?_ ?_
      rotate_left
      · intro wS hS
        have eF := HF.out wS hS
        go_simp
        try with_reducible rfl
      simp only [Act.put, List.setIfInBounds_toArray, List.set_cons_zero, List.set_cons_succ]
      refine wpQuiet_take (d := 63) (v := ?_) (by rfl) ?_ ?_
      rotate_left
      · intro wS hS
        have eF := HF.out wS hS
        go_simp
        try with_reducible rfl
      simp only [Act.put, List.setIfInBounds_toArray, List.set_cons_zero, List.set_cons_succ]
      refine wpQuiet_take (d := 64) (v := ?_) (by rfl) ?_ ?_
      rotate_left
      · intro wS hS
        have eF := HF.out wS hS
        go_simp
        try with_reducible rfl
      simp only [Act.put, List.setIfInBounds_toArray, List.set_cons_zero, List.set_cons_succ]
      refine wpQuiet_take (d := 65) (v := ?_) (by rfl) ?_ ?_
      rotate_left
      · intro wS hS
        have eF := HF.out wS hS
        go_simp
        try with_reducible rfl
      simp only [Act.put, List.setIfInBounds_toArray, List.set_cons_zero, List.set_cons_succ]
      refine wpQuiet_take (d := 2) (v := ?_) (by rfl) ?_ ?_
      rotate_left
      · intro wS hS
        have eF := HF.out wS hS
        go_simp
        try with_reducible rfl
      simp only [Act.put, List.setIfInBounds_toArray, List.set_cons_zero, List.set_cons_succ]
      refine wpQuiet_take (d := 3) (v := ?_) (by rfl) ?_ ?_
      rotate_left
      · intro wS hS
        have eF := HF.out wS hS
        go_simp
        try with_reducible rfl
      simp only [Act.put, List.setIfInBounds_toArray, List.set_cons_zero, List.set_cons_succ]
      refine wpQuiet_take (d := 4) (v := ?_) (by rfl) ?_ ?_
      rotate_left
      · intro wS hS
        have eF := HF.out wS hS
        go_simp
        try with_reducible rfl
      simp only [Act.put, List.setIfInBounds_toArray, List.set_cons_zero, List.set_cons_succ]
      refine wpQuiet_nil (fun wq hHeld => ?_)
      go_wp2
      go_ret3
      exact ⟨by rw [hsi]; rfl, below_of HB1.out (below_of hbel hHeld hbel.size) hz1⟩
theorem ws_put {f : Nat → Int} {w : World} {ga gb g8 i k x y r B : Nat} (hA : Own w ga (Nat.succ ga) 36 5 (some ⟨ga, 0, none⟩) 1 (fun j => f (x * 5 + j))) (hB : Own w gb (Nat.succ gb) 36 5 (some ⟨gb, 0, none⟩) 1 (fun j => f (y * 5 + j))) (hI : Own w g8 (Nat.succ g8) 36 5 (some ⟨g8, 0, none⟩) 1 (fun j => f (r * 5 + j))) (hab : ga ≠ gb) (ha8 : g8 ≠ ga) (hb8 : g8 ≠ gb) (h1 : B ≤ ga) (h2 : B ≤ gb) :
    (Own ((((((((((w.setCell ⟨ga, 0, none⟩ (.int .i64 (f (i * 5)))).setCell ⟨ga, 1, none⟩ (.int .i64 (f (i * 5 + 1)))).setCell ⟨ga, 2, none⟩ (.int .i64 (f (i * 5 + 2)))).setCell ⟨ga, 3, none⟩ (.int .i64 (f (i * 5 + 3)))).setCell ⟨ga, 4, none⟩ (.int .i64 (f (i * 5 + 4)))).setCell ⟨gb, 0, none⟩ (.int .i64 (f (k * 5)))).setCell ⟨gb, 1, none⟩ (.int .i64 (f (k * 5 + 1)))).setCell ⟨gb, 2, none⟩ (.int .i64 (f (k * 5 + 2)))).setCell ⟨gb, 3, none⟩ (.int .i64 (f (k * 5 + 3)))).setCell ⟨gb, 4, none⟩ (.int .i64 (f (k * 5 + 4)))) ga (Nat.succ ga) 36 5 (some ⟨ga, 0, none⟩) 1 (fun j => f (i * 5 + j))) ∧ (Own ((((((((((w.setCell ⟨ga, 0, none⟩ (.int .i64 (f (i * 5)))).setCell ⟨ga, 1, none⟩ (.int .i64 (f (i * 5 + 1)))).setCell ⟨ga, 2, none⟩ (.int .i64 (f (i * 5 + 2)))).setCell ⟨ga, 3, none⟩ (.int .i64 (f (i * 5 + 3)))).setCell ⟨ga, 4, none⟩ (.int .i64 (f (i * 5 + 4)))).setCell ⟨gb, 0, none⟩ (.int .i64 (f (k * 5)))).setCell ⟨gb, 1, none⟩ (.int .i64 (f (k * 5 + 1)))).setCell ⟨gb, 2, none⟩ (.int .i64 (f (k * 5 + 2)))).setCell ⟨gb, 3, none⟩ (.int .i64 (f (k * 5 + 3)))).setCell ⟨gb, 4, none⟩ (.int .i64 (f (k * 5 + 4)))) gb (Nat.succ gb) 36 5 (some ⟨gb, 0, none⟩) 1 (fun j => f (k * 5 + j))) ∧ (Own ((((((((((w.setCell ⟨ga, 0, none⟩ (.int .i64 (f (i * 5)))).setCell ⟨ga, 1, none⟩ (.int .i64 (f (i * 5 + 1)))).setCell ⟨ga, 2, none⟩ (.int .i64 (f (i * 5 + 2)))).setCell ⟨ga, 3, none⟩ (.int .i64 (f (i * 5 + 3)))).setCell ⟨ga, 4, none⟩ (.int .i64 (f (i * 5 + 4)))).setCell ⟨gb, 0, none⟩ (.int .i64 (f (k * 5)))).setCell ⟨gb, 1, none⟩ (.int .i64 (f (k * 5 + 1)))).setCell ⟨gb, 2, none⟩ (.int .i64 (f (k * 5 + 2)))).setCell ⟨gb, 3, none⟩ (.int .i64 (f (k * 5 + 3)))).setCell ⟨gb, 4, none⟩ (.int .i64 (f (k * 5 + 4)))) g8 (Nat.succ g8) 36 5 (some ⟨g8, 0, none⟩) 1 (fun j => f (r * 5 + j))) ∧ Below B w ((((((((((w.setCell ⟨ga, 0, none⟩ (.int .i64 (f (i * 5)))).setCell ⟨ga, 1, none⟩ (.int .i64 (f (i * 5 + 1)))).setCell ⟨ga, 2, none⟩ (.int .i64 (f (i * 5 + 2)))).setCell ⟨ga, 3, none⟩ (.int .i64 (f (i * 5 + 3)))).setCell ⟨ga, 4, none⟩ (.int .i64 (f (i * 5 + 4)))).setCell ⟨gb, 0, none⟩ (.int .i64 (f (k * 5)))).setCell ⟨gb, 1, none⟩ (.int .i64 (f (k * 5 + 1)))).setCell ⟨gb, 2, none⟩ (.int .i64 (f (k * 5 + 2)))).setCell ⟨gb, 3, none⟩ (.int .i64 (f (k * 5 + 3)))).setCell ⟨gb, 4, none⟩ (.int .i64 (f (k * 5 + 4)))) := by
  have fa : Fr ga (Nat.succ ga) w (((((w.setCell ⟨ga, 0, none⟩ (.int .i64 (f (i * 5)))).setCell ⟨ga, 1, none⟩ (.int .i64 (f (i * 5 + 1)))).setCell ⟨ga, 2, none⟩ (.int .i64 (f (i * 5 + 2)))).setCell ⟨ga, 3, none⟩ (.int .i64 (f (i * 5 + 3)))).setCell ⟨ga, 4, none⟩ (.int .i64 (f (i * 5 + 4)))) := by
    refine Fr.setCell (Fr.setCell (Fr.setCell (Fr.setCell (Fr.setCell (Fr.refl _ _ _) ?_ ?_ _) ?_ ?_ _) ?_ ?_ _) ?_ ?_ _) ?_ ?_ _
    all_goals (first | exact Nat.le_refl _ | exact Nat.lt_succ_self _)
  have fb : Fr gb (Nat.succ gb) (((((w.setCell ⟨ga, 0, none⟩ (.int .i64 (f (i * 5)))).setCell ⟨ga, 1, none⟩ (.int .i64 (f (i * 5 + 1)))).setCell ⟨ga, 2, none⟩ (.int .i64 (f (i * 5 + 2)))).setCell ⟨ga, 3, none⟩ (.int .i64 (f (i * 5 + 3)))).setCell ⟨ga, 4, none⟩ (.int .i64 (f (i * 5 + 4)))) ((((((((((w.setCell ⟨ga, 0, none⟩ (.int .i64 (f (i * 5)))).setCell ⟨ga, 1, none⟩ (.int .i64 (f (i * 5 + 1)))).setCell ⟨ga, 2, none⟩ (.int .i64 (f (i * 5 + 2)))).setCell ⟨ga, 3, none⟩ (.int .i64 (f (i * 5 + 3)))).setCell ⟨ga, 4, none⟩ (.int .i64 (f (i * 5 + 4)))).setCell ⟨gb, 0, none⟩ (.int .i64 (f (k * 5)))).setCell ⟨gb, 1, none⟩ (.int .i64 (f (k * 5 + 1)))).setCell ⟨gb, 2, none⟩ (.int .i64 (f (k * 5 + 2)))).setCell ⟨gb, 3, none⟩ (.int .i64 (f (k * 5 + 3)))).setCell ⟨gb, 4, none⟩ (.int .i64 (f (k * 5 + 4)))) := by
    refine Fr.setCell (Fr.setCell (Fr.setCell (Fr.setCell (Fr.setCell (Fr.refl _ _ _) ?_ ?_ _) ?_ ?_ _) ?_ ?_ _) ?_ ?_ _) ?_ ?_ _
    all_goals (first | exact Nat.le_refl _ | exact Nat.lt_succ_self _)
  have hab2 : Nat.succ ga ≤ gb ∨ Nat.succ gb ≤ ga := by omega
  have s1 := hA.hi_le
  have s2 := hB.hi_le
  have A1 : Own (((((w.setCell ⟨ga, 0, none⟩ (.int .i64 (f (i * 5)))).setCell ⟨ga, 1, none⟩ (.int .i64 (f (i * 5 + 1)))).setCell ⟨ga, 2, none⟩ (.int .i64 (f (i * 5 + 2)))).setCell ⟨ga, 3, none⟩ (.int .i64 (f (i * 5 + 3)))).setCell ⟨ga, 4, none⟩ (.int .i64 (f (i * 5 + 4)))) ga (Nat.succ ga) 36 5 (some ⟨ga, 0, none⟩) 1 (fun j => f (i * 5 + j)) := hA.put5 rfl rfl rfl rfl rfl
  have B1 : Own (((((w.setCell ⟨ga, 0, none⟩ (.int .i64 (f (i * 5)))).setCell ⟨ga, 1, none⟩ (.int .i64 (f (i * 5 + 1)))).setCell ⟨ga, 2, none⟩ (.int .i64 (f (i * 5 + 2)))).setCell ⟨ga, 3, none⟩ (.int .i64 (f (i * 5 + 3)))).setCell ⟨ga, 4, none⟩ (.int .i64 (f (i * 5 + 4)))) gb (Nat.succ gb) 36 5 (some ⟨gb, 0, none⟩) 1 (fun j => f (y * 5 + j)) := hB.fr fa (by omega)
  refine ⟨A1.fr fb hab2, B1.put5 rfl rfl rfl rfl rfl, (hI.fr fa (by omega)).fr fb (by omega), (fa.below h1 (by omega)).trans (fb.below h2 (by have := fa.size; omega))⟩

set_option maxRecDepth 100000 in
set_option maxHeartbeats 2000000 in
theorem WorstFall_yes (A : Option Addr) (n c lo hi : Nat) (f : Nat → Int) (w : World) (hs : Sl w lo hi 5 A n f) (hn : n ≤ 1048576) (hnc : n ≤ c) (hg : goodRows f n = true) (h2 : 2 ≤ n) :
    Calls Tryd.prog 12 #[.slice A n c] w fun e w' => e = .returned (.tuple #[.int .i64 (f ((wsOut f n n).1 * 5)), .int .i64 (f ((wsOut f n n).2 * 5)), .bool true]) ∧ Below w.heap.size w w' := by
  have HS : Hid (Sl w lo hi 5 A n f) := hs
  clear hs
  have h2i : ¬ ((n : Int) < 2) := by omega
  have hn0 : (0 : Int) < (n : Int) := by omega
  have hn1 : (1 : Int) < (n : Int) := by omega
  go_enter Tryd.func12, Tryd.ntmps12
  go_wp2_with fail
  refine (AreCropRows_any A n c lo hi f w HS.out hn hnc).mono ?_
  rw [hg]
  rintro e w1 ⟨rfl, hb1⟩
  have HB1 : Hid (Below w.heap.size w w1) := hb1
  have HS1 : Hid (Sl w1 lo hi 5 A n f) := HS.out.below hb1
  have hz1 := hb1.size
  clear HS hb1
  obtain ⟨b, off, rfl, hbw, HC⟩ := HS1.out.open_ (Below.refl _ _) (by omega)
  obtain ⟨c0, c1, c2, c3, c4⟩ := cell5 HC (show 0 < n by omega)
  obtain ⟨d0, d1, d2, d3, d4⟩ := cell5 HC (show 1 < n by omega)
  simp only [Nat.zero_mul, Nat.add_zero, Nat.zero_add, Nat.one_mul] at c0 c1 c2 c3 c4 d0 d1 d2 d3 d4
  clear HC
  go_wp2
  go_region
  · have HA0 : Hid ((Own ((w1.alloc (.cells #[.int .i64 (f 0), .int .i64 (f 1), .int .i64 (f 2), .int .i64 (f 3), .int .i64 (f 4)] 36)).alloc (.cells #[.int .i64 (f 5), .int .i64 (f 6), .int .i64 (f 7), .int .i64 (f 8), .int .i64 (f 9)] 36)).drew w1.heap.size (Nat.succ w1.heap.size) 36 5 (some ⟨w1.heap.size, 0, none⟩) 1 (fun j => f (0 * 5 + j))) ∧ (Own ((w1.alloc (.cells #[.int .i64 (f 0), .int .i64 (f 1), .int .i64 (f 2), .int .i64 (f 3), .int .i64 (f 4)] 36)).alloc (.cells #[.int .i64 (f 5), .int .i64 (f 6), .int .i64 (f 7), .int .i64 (f 8), .int .i64 (f 9)] 36)).drew (w1.heap.size + 1) (Nat.succ (w1.heap.size + 1)) 36 5 (some ⟨(w1.heap.size + 1), 0, none⟩) 1 (fun j => f (1 * 5 + j)))) := by
      refine ⟨?_, ?_⟩
      · exact Own.below (w := (w1.alloc _)) (own_new5 w1 36 _ _ _ _ _ _ rfl rfl rfl rfl rfl) (((Below.refl _ _).alloc (Nat.le_refl _) _).drew)
      · have := own_new5 (w1.alloc (.cells #[.int .i64 (f 0), .int .i64 (f 1), .int .i64 (f 2), .int .i64 (f 3), .int .i64 (f 4)] 36)) 36 (f 5) (f 6) (f 7) (f 8) (f 9) (fun j => f (1 * 5 + j)) rfl rfl rfl rfl rfl
        simp only [World.size_alloc] at this
        exact Own.below this ((Below.refl _ _).drew)
    have BX3 : Hid (Below w1.heap.size w1 ((w1.alloc (.cells #[.int .i64 (f 0), .int .i64 (f 1), .int .i64 (f 2), .int .i64 (f 3), .int .i64 (f 4)] 36)).alloc (.cells #[.int .i64 (f 5), .int .i64 (f 6), .int .i64 (f 7), .int .i64 (f 8), .int .i64 (f 9)] 36)).drew) := (((Below.refl _ w1).alloc (Nat.le_refl _) _).alloc (by simp) _).drew
    have hda : w1.heap.size < ((w1.alloc (.cells #[.int .i64 (f 0), .int .i64 (f 1), .int .i64 (f 2), .int .i64 (f 3), .int .i64 (f 4)] 36)).alloc (.cells #[.int .i64 (f 5), .int .i64 (f 6), .int .i64 (f 7), .int .i64 (f 8), .int .i64 (f 9)] 36)).drew.heap.size := by simp only [World.size_drew, World.size_alloc]; omega
    have hdb : (w1.heap.size + 1) < ((w1.alloc (.cells #[.int .i64 (f 0), .int .i64 (f 1), .int .i64 (f 2), .int .i64 (f 3), .int .i64 (f 4)] 36)).alloc (.cells #[.int .i64 (f 5), .int .i64 (f 6), .int .i64 (f 7), .int .i64 (f 8), .int .i64 (f 9)] 36)).drew.heap.size := by simp only [World.size_drew, World.size_alloc]; omega
    have HA : Hid (Own ((w1.alloc (.cells #[.int .i64 (f 0), .int .i64 (f 1), .int .i64 (f 2), .int .i64 (f 3), .int .i64 (f 4)] 36)).alloc (.cells #[.int .i64 (f 5), .int .i64 (f 6), .int .i64 (f 7), .int .i64 (f 8), .int .i64 (f 9)] 36)).drew w1.heap.size (Nat.succ w1.heap.size) 36 5 (some ⟨w1.heap.size, 0, none⟩) 1 (fun j => f (0 * 5 + j))) := HA0.out.1
    have HBo : Hid (Own ((w1.alloc (.cells #[.int .i64 (f 0), .int .i64 (f 1), .int .i64 (f 2), .int .i64 (f 3), .int .i64 (f 4)] 36)).alloc (.cells #[.int .i64 (f 5), .int .i64 (f 6), .int .i64 (f 7), .int .i64 (f 8), .int .i64 (f 9)] 36)).drew (w1.heap.size + 1) (Nat.succ (w1.heap.size + 1)) 36 5 (some ⟨(w1.heap.size + 1), 0, none⟩) 1 (fun j => f (1 * 5 + j))) := HA0.out.2
    clear HA0 c0 c1 c2 c3 c4 d0 d1 d2 d3 d4
    generalize ((w1.alloc (.cells #[.int .i64 (f 0), .int .i64 (f 1), .int .i64 (f 2), .int .i64 (f 3), .int .i64 (f 4)] 36)).alloc (.cells #[.int .i64 (f 5), .int .i64 (f 6), .int .i64 (f 7), .int .i64 (f 8), .int .i64 (f 9)] 36)).drew = w3 at *
    generalize hg2 : w1.heap.size + 1 = gb at HA HBo hda hdb ⊢
    generalize hg1 : w1.heap.size = ga at HA HBo hda hdb ⊢
    have hga : w1.heap.size ≤ ga := by omega
    have hgb : w1.heap.size ≤ gb := by omega
    have hne : ga ≠ gb := by omega
    clear hg1 hg2
    go_wp2
    go_loopw [27] (fun s27 wr => ∃ i : Nat, i ≤ n ∧ s27 = .int .i64 i ∧ Hid (Own wr ga (Nat.succ ga) 36 5 (some ⟨ga, 0, none⟩) 1 (fun j => f ((wsOut f n i).1 * 5 + j))) ∧ Hid (Own wr gb (Nat.succ gb) 36 5 (some ⟨gb, 0, none⟩) 1 (fun j => f ((wsOut f n i).2 * 5 + j))) ∧ Below w1.heap.size w1 wr ∧ ga < wr.heap.size ∧ gb < wr.heap.size) (fun s _ => n - (intOf s).toNat)
    case atStart => exact ⟨0, Nat.zero_le _, rfl, HA, HBo, BX3.out, hda, hdb⟩
    case round =>
      obtain ⟨i, hi, rfl, hA, hBq, hbel, hla, hlb⟩ := hrel
      clear HA HBo BX3 hda hdb
      obtain ⟨wo, hwo⟩ : ∃ x, x = wr := ⟨_, rfl⟩
      subst hwo
      by_cases hlt : i < n
      · have hso := wsOut_lt (f := f) h2 i hi
        obtain ⟨hbw2, HC⟩ := HS1.out.open_at hbel (by omega)
        obtain ⟨ci0, ci1, ci2, ci3, ci4⟩ := cell5 HC hlt
        have hi0 : (0 : Int) ≤ (i : Int) := by omega
        have hi1 : (i : Int) < (n : Int) := by omega
        have hiw : IntKind.i64.wrap ((i : Int) + 1) = (i : Int) + 1 := IntWalk.i64_in _ (by omega)
        have hj0 : (0 : Int) ≤ (i : Int) + 1 := by omega
        have hj1 : (i : Int) + 1 ≤ (n : Int) := by omega
        have hj2 : (i : Int) + 1 ≤ (c : Int) := by omega
        have hjt : ((i : Int) + 1).toNat = i + 1 := by omega
        clear HC
        by_cases hce : c = i + 1
        · have hni : n = i + 1 := by omega
          subst hni
          subst hce
          have hfin : Hid (wsOut f (i + 1) (i + 1) = wsOut f (i + 1) i) := by
            show wsIn f _ i (i + 1 - (i + 1)) = _
            rw [show i + 1 - (i + 1) = 0 by omega]; rfl
          go_wp2
          go_loopw [37] (fun s37 wv => s37 = .int .i64 0 ∧ Hid (Own wv ga (Nat.succ ga) 36 5 (some ⟨ga, 0, none⟩) 1 (fun j => f ((wsOut f (i + 1) i).1 * 5 + j))) ∧ Hid (Own wv gb (Nat.succ gb) 36 5 (some ⟨gb, 0, none⟩) 1 (fun j => f ((wsOut f (i + 1) i).2 * 5 + j))) ∧ Below w1.heap.size w1 wv) (fun _ _ => 0)
          case atStart => exact ⟨rfl, hA.out.below ((Below.refl _ _).alloc (Nat.le_refl _) _), hBq.out.below ((Below.refl _ _).alloc (Nat.le_refl _) _), hbel.alloc hbel.size _⟩
          case round =>
            obtain ⟨rfl, hA2, hB2, hbel2⟩ := hrel
            have hl1 : ga < wr.heap.size := hA2.out.hi_le
            have hl2 : gb < wr.heap.size := hB2.out.hi_le
            clear hA hBq hbel ci0 ci1 ci2 ci3 ci4
            go_wp2
            go_roundw
            case rel => exact ⟨i + 1, by omega, by go_num, by rw [hfin.out]; exact hA2, by rw [hfin.out]; exact hB2, hbel2, hl1, hl2⟩
            case measure => simp [intOf]
        · have hI : Hid (Own (wo.alloc (.cells #[.int .i64 (f (i * 5)), .int .i64 (f (i * 5 + 1)), .int .i64 (f (i * 5 + 2)), .int .i64 (f (i * 5 + 3)), .int .i64 (f (i * 5 + 4))] 36)) wo.heap.size (Nat.succ wo.heap.size) 36 5 (some ⟨wo.heap.size, 0, none⟩) 1 (fun j => f (i * 5 + j))) := own_new5 wo 36 _ _ _ _ _ _ rfl rfl rfl rfl rfl
          have hwr : w1.heap.size ≤ wo.heap.size := hbel.size
          go_wp2
          go_loopw [37] (fun s37 wr => ∃ m : Nat, i + 1 + m ≤ n ∧ s37 = .int .i64 m ∧ Hid (Own wr ga (Nat.succ ga) 36 5 (some ⟨ga, 0, none⟩) 1 (fun j => f ((wsIn f (wsOut f n i) i m).1 * 5 + j))) ∧ Hid (Own wr gb (Nat.succ gb) 36 5 (some ⟨gb, 0, none⟩) 1 (fun j => f ((wsIn f (wsOut f n i) i m).2 * 5 + j))) ∧ Hid (Own wr wo.heap.size (Nat.succ wo.heap.size) 36 5 (some ⟨wo.heap.size, 0, none⟩) 1 (fun j => f (i * 5 + j))) ∧ Below w1.heap.size w1 wr) (fun s _ => n - (intOf s).toNat)
          case atStart => exact ⟨0, by omega, rfl, hA.out.below ((Below.refl _ _).alloc (Nat.le_refl _) _), hBq.out.below ((Below.refl _ _).alloc (Nat.le_refl _) _), hI, hbel.alloc hbel.size _⟩
          case round =>
            obtain ⟨m, hm, rfl, hA2, hB2, hI2, hbel2⟩ := hrel
            clear hA hBq hI hbel ci0 ci1 ci2 ci3 ci4
            by_cases hlk : m < n - (i + 1)
            · have hlk2 : i + 1 + m < n := by omega
              obtain ⟨hx, hy⟩ := wsIn_lt (f := f) (i := i) hso m hm
              have hnx : wsIn f (wsOut f n i) i (m + 1) = wst f (wsIn f (wsOut f n i) i m) i (i + 1 + m) := rfl
              generalize hsi : wsIn f (wsOut f n i) i m = st at *
              obtain ⟨x, y⟩ := st
              simp only at hx hy hA2 hB2
              obtain ⟨hbw3, HC⟩ := HS1.out.open_at hbel2 (by omega)
              have HC5 := cell5 HC hlk2
              rw [show off + (i + 1 + m) * 5 = off + (i + 1) * 5 + m * 5 by omega] at HC5
              generalize hkk : i + 1 + m = k at *
              obtain ⟨ck0, ck1, ck2, ck3, ck4⟩ := HC5
              have hm0 : (0 : Int) ≤ (m : Int) := by omega
              have hm1 : (m : Int) < ((n - (i + 1) : Nat) : Int) := by omega
              have hK := own_new5 wr 36 (f (k * 5)) (f (k * 5 + 1)) (f (k * 5 + 2)) (f (k * 5 + 3)) (f (k * 5 + 4)) (fun j => f (k * 5 + j)) rfl rfl rfl rfl rfl
              have HAL := (Below.refl _ wr).alloc (Nat.le_refl _) (.cells #[.int .i64 (f (k * 5)), .int .i64 (f (k * 5 + 1)), .int .i64 (f (k * 5 + 2)), .int .i64 (f (k * 5 + 3)), .int .i64 (f (k * 5 + 4))] 36)
              have HF : Hid (∀ w', Below (wr.alloc (.cells #[.int .i64 (f (k * 5)), .int .i64 (f (k * 5 + 1)), .int .i64 (f (k * 5 + 2)), .int .i64 (f (k * 5 + 3)), .int .i64 (f (k * 5 + 4))] 36)).heap.size (wr.alloc (.cells #[.int .i64 (f (k * 5)), .int .i64 (f (k * 5 + 1)), .int .i64 (f (k * 5 + 2)), .int .i64 (f (k * 5 + 3)), .int .i64 (f (k * 5 + 4))] 36)) w' → (w'.cell? ⟨ga, 0, none⟩ = some (.int .i64 (f (x * 5))) ∧ w'.cell? ⟨ga, 1, none⟩ = some (.int .i64 (f (x * 5 + 1))) ∧ w'.cell? ⟨ga, 2, none⟩ = some (.int .i64 (f (x * 5 + 2))) ∧ w'.cell? ⟨ga, 3, none⟩ = some (.int .i64 (f (x * 5 + 3))) ∧ w'.cell? ⟨ga, 4, none⟩ = some (.int .i64 (f (x * 5 + 4)))) ∧ (w'.cell? ⟨gb, 0, none⟩ = some (.int .i64 (f (y * 5))) ∧ w'.cell? ⟨gb, 1, none⟩ = some (.int .i64 (f (y * 5 + 1))) ∧ w'.cell? ⟨gb, 2, none⟩ = some (.int .i64 (f (y * 5 + 2))) ∧ w'.cell? ⟨gb, 3, none⟩ = some (.int .i64 (f (y * 5 + 3))) ∧ w'.cell? ⟨gb, 4, none⟩ = some (.int .i64 (f (y * 5 + 4)))) ∧ (w'.cell? ⟨wo.heap.size, 0, none⟩ = some (.int .i64 (f (i * 5))) ∧ w'.cell? ⟨wo.heap.size, 1, none⟩ = some (.int .i64 (f (i * 5 + 1))) ∧ w'.cell? ⟨wo.heap.size, 2, none⟩ = some (.int .i64 (f (i * 5 + 2))) ∧ w'.cell? ⟨wo.heap.size, 3, none⟩ = some (.int .i64 (f (i * 5 + 3))) ∧ w'.cell? ⟨wo.heap.size, 4, none⟩ = some (.int .i64 (f (i * 5 + 4)))) ∧ w'.cell? ⟨wr.heap.size, 0, none⟩ = some (.int .i64 (f (k * 5))) ∧ w'.cell? ⟨wr.heap.size, 1, none⟩ = some (.int .i64 (f (k * 5 + 1))) ∧ w'.cell? ⟨wr.heap.size, 2, none⟩ = some (.int .i64 (f (k * 5 + 2))) ∧ w'.cell? ⟨wr.heap.size, 3, none⟩ = some (.int .i64 (f (k * 5 + 3))) ∧ w'.cell? ⟨wr.heap.size, 4, none⟩ = some (.int .i64 (f (k * 5 + 4)))) := by
                intro w' hq
                have qa := ((hA2.out.below HAL).below hq).cells5
                have qb := ((hB2.out.below HAL).below hq).cells5
                have qi := ((hI2.out.below HAL).below hq).cells5
                have qk := (hK.below hq).cells5
                exact ⟨⟨qa.1, qa.2.1, qa.2.2.1, qa.2.2.2.1, qa.2.2.2.2.1⟩, ⟨qb.1, qb.2.1, qb.2.2.1, qb.2.2.2.1, qb.2.2.2.2.1⟩, ⟨qi.1, qi.2.1, qi.2.2.1, qi.2.2.2.1, qi.2.2.2.2.1⟩, qk.1, qk.2.1, qk.2.2.1, qk.2.2.2.1, qk.2.2.2.2.1⟩
              clear HC
              go_wp2
              refine wp_region_class (C := fun w' => Below ((wr.alloc (.cells #[.int .i64 (f (k * 5)), .int .i64 (f (k * 5 + 1)), .int .i64 (f (k * 5 + 2)), .int .i64 (f (k * 5 + 3)), .int .i64 (f (k * 5 + 4))] 36))).heap.size ((wr.alloc (.cells #[.int .i64 (f (k * 5)), .int .i64 (f (k * 5 + 1)), .int .i64 (f (k * 5 + 2)), .int .i64 (f (k * 5 + 3)), .int .i64 (f (k * 5 + 4))] 36))) w') (by kernel_rfl) (by kernel_rfl) ((Below.refl _ _).drew) ?_
              refine wpQuiet_take (d := 41) (v := ?_) (by rfl) ?_ ?_
              rotate_left
              · intro wS hS
                have eF := HF.out wS hS
                go_simp
                try with_reducible rfl
              simp only [Act.put, List.setIfInBounds_toArray, List.set_cons_zero, List.set_cons_succ]
              refine wpQuiet_meet (d := 42) (v := ?_) ?_ ?_ (by rfl) ?_ ?_ ?_
              rotate_left
              rotate_left
              rotate_left
              · intro wS hS
                have eF := HF.out wS hS
                go_simp
                first | with_reducible rfl | (refine ⟨?_, ?_⟩ <;> with_reducible rfl)
              · intro wS hS
                refine (worth_any _ _ _ _ _ _).mono ?_
                rintro e w2 ⟨rfl, hb2⟩
                refine ⟨?_, hS.trans (hb2.mono hS.size)⟩
                with_reducible rfl
              simp only [Act.put, List.setIfInBounds_toArray, List.set_cons_zero, List.set_cons_succ]
              refine wpQuiet_take (d := 43) (v := ?_) (by rfl) ?_ ?_
              rotate_left
              · intro wS hS
                have eF := HF.out wS hS
                go_simp
                try with_reducible rfl
              simp only [Act.put, List.setIfInBounds_toArray, List.set_cons_zero, List.set_cons_succ]
              refine wpQuiet_meet (d := 44) (v := ?_) ?_ ?_ (by rfl) ?_ ?_ ?_
              rotate_left
              rotate_left
              rotate_left
              · intro wS hS
                have eF := HF.out wS hS
                go_simp
                first | with_reducible rfl | (refine ⟨?_, ?_⟩ <;> with_reducible rfl)
              · intro wS hS
                refine (worth_any _ _ _ _ _ _).mono ?_
                rintro e w2 ⟨rfl, hb2⟩
                refine ⟨?_, hS.trans (hb2.mono hS.size)⟩
                with_reducible rfl
              simp only [Act.put, List.setIfInBounds_toArray, List.set_cons_zero, List.set_cons_succ]
              refine wpQuiet_take (d := 45) (v := ?_) (by rfl) ?_ ?_
              rotate_left
              · intro wS hS
                have eF := HF.out wS hS
                go_simp
                try with_reducible rfl
              simp only [Act.put, List.setIfInBounds_toArray, List.set_cons_zero, List.set_cons_succ]
              refine wpQuiet_take (d := 46) (v := ?_) (by rfl) ?_ ?_
              rotate_left
              · intro wS hS
                have eF := HF.out wS hS
                go_simp
                try with_reducible rfl
              simp only [Act.put, List.setIfInBounds_toArray, List.set_cons_zero, List.set_cons_succ]
              refine wpQuiet_meet (d := 47) (v := ?_) ?_ ?_ (by rfl) ?_ ?_ ?_
              rotate_left
              rotate_left
              rotate_left
              · intro wS hS
                have eF := HF.out wS hS
                go_simp
                first | with_reducible rfl | (refine ⟨?_, ?_⟩ <;> with_reducible rfl)
              · intro wS hS
                refine (worth_any _ _ _ _ _ _).mono ?_
                rintro e w2 ⟨rfl, hb2⟩
                refine ⟨?_, hS.trans (hb2.mono hS.size)⟩
                with_reducible rfl
              simp only [Act.put, List.setIfInBounds_toArray, List.set_cons_zero, List.set_cons_succ]
              refine wpQuiet_take (d := 48) (v := ?_) (by rfl) ?_ ?_
              rotate_left
              · intro wS hS
                have eF := HF.out wS hS
                go_simp
                try with_reducible rfl
              simp only [Act.put, List.setIfInBounds_toArray, List.set_cons_zero, List.set_cons_succ]
              refine wpQuiet_meet (d := 49) (v := ?_) ?_ ?_ (by rfl) ?_ ?_ ?_
              rotate_left
              rotate_left
              rotate_left
              · intro wS hS
                have eF := HF.out wS hS
                go_simp
                first | with_reducible rfl | (refine ⟨?_, ?_⟩ <;> with_reducible rfl)
              · intro wS hS
                refine (worth_any _ _ _ _ _ _).mono ?_
                rintro e w2 ⟨rfl, hb2⟩
                refine ⟨?_, hS.trans (hb2.mono hS.size)⟩
                with_reducible rfl
              simp only [Act.put, List.setIfInBounds_toArray, List.set_cons_zero, List.set_cons_succ]
              refine wpQuiet_take (d := 50) (v := ?_) (by rfl) ?_ ?_
              rotate_left
              · intro wS hS
                have eF := HF.out wS hS
                go_simp
                try with_reducible rfl
              simp only [Act.put, List.setIfInBounds_toArray, List.set_cons_zero, List.set_cons_succ]
              refine wpQuiet_take (d := 51) (v := ?_) (by rfl) ?_ ?_
              rotate_left
              · intro wS hS
                have eF := HF.out wS hS
                go_simp
                try with_reducible rfl
              simp only [Act.put, List.setIfInBounds_toArray, List.set_cons_zero, List.set_cons_succ]
              refine wpQuiet_nil (fun wq hHeld => ?_)
              have hBv : Below wr.heap.size wr wq := HAL.trans (hHeld.mono (by simp))
              by_cases hgp : IntKind.i64.wrap (worthV (f (x * 5 + 2)) (f (x * 5 + 3)) (f (x * 5 + 4)) - worthV (f (y * 5 + 2)) (f (y * 5 + 3)) (f (y * 5 + 4))) < IntKind.i64.wrap (worthV (f (i * 5 + 2)) (f (i * 5 + 3)) (f (i * 5 + 4)) - worthV (f (k * 5 + 2)) (f (k * 5 + 3)) (f (k * 5 + 4)))
              · have hst : Hid (wst f (x, y) i k = (i, k)) := if_pos (by simp only [gapV, worthAt, ← IntWalk.i64_left]; exact hgp)
                obtain ⟨a0, a1, a2, a3, a4, af, _⟩ := (hA2.out.below hBv).cells5
                obtain ⟨e0, e1, e2, e3, e4, ef, _⟩ := (hB2.out.below hBv).cells5
                obtain ⟨r0, r1, r2, r3, r4, _, _⟩ := (hI2.out.below hBv).cells5
                obtain ⟨k0, k1, k2, k3, k4, _, _⟩ := (hK.below hHeld).cells5
                simp only [Nat.add_zero] at a0 e0 r0 k0
                have hA3 : Hid (Own wq ga (Nat.succ ga) 36 5 (some ⟨ga, 0, none⟩) 1 (fun j => f (x * 5 + j))) := hA2.out.below hBv
                have hB3 : Hid (Own wq gb (Nat.succ gb) 36 5 (some ⟨gb, 0, none⟩) 1 (fun j => f (y * 5 + j))) := hB2.out.below hBv
                have hI3 : Hid (Own wq wo.heap.size (Nat.succ wo.heap.size) 36 5 (some ⟨wo.heap.size, 0, none⟩) 1 (fun j => f (i * 5 + j))) := hI2.out.below hBv
                have hW3 := below_of hbel2 hBv hbel2.size
                have z1 := hA2.out.hi_le
                have z2 := hB2.out.hi_le
                have z3 := hI2.out.hi_le
                clear hA2 hB2 hI2 HF hK HAL
                have af0 := af 0; have af1 := af 1; have af2 := af 2; have af3 := af 3; have af4 := af 4
                have ef0 := ef 0; have ef1 := ef 1; have ef2 := ef 2; have ef3 := ef 3; have ef4 := ef 4
                have n1 : gb ≠ ga := hne.symm
                have o1 : wo.heap.size ≠ ga := by omega
                have o2 : wo.heap.size ≠ gb := by omega
                have o3 : wr.heap.size ≠ ga := by have := z1; omega
                have o4 : wr.heap.size ≠ gb := by have := z2; omega
                have o5 := o1.symm; have o6 := o2.symm; have o7 := o3.symm; have o8 := o4.symm
                have o9 : wo.heap.size ≠ wr.heap.size := by have := z3; omega
                have o10 := o9.symm
                clear z1 z2 z3
                clear af ef
                go_wp2
                go_region
                all_goals first
                  | (obtain ⟨P1, P2, P3, P4⟩ := ws_put (i := i) (k := k) hA3.out hB3.out hI3.out hne o1 o2 hga hgb
                     go_wp2
                     go_roundw
                     case rel => exact ⟨m + 1, by omega, by go_num, by rw [hnx, hst.out]; exact P1.below (by go_grown), by rw [hnx, hst.out]; exact P2.below (by go_grown), P3.below (by go_grown), (hW3.trans P4).drew⟩
                     case measure => simp [intOf]; omega)
                  | (obtain ⟨P2, P1, P3, P4⟩ := ws_put (i := k) (k := i) hB3.out hA3.out hI3.out n1 o2 o1 hgb hga
                     go_wp2
                     go_roundw
                     case rel => exact ⟨m + 1, by omega, by go_num, by rw [hnx, hst.out]; exact P1.below (by go_grown), by rw [hnx, hst.out]; exact P2.below (by go_grown), P3.below (by go_grown), (hW3.trans P4).drew⟩
                     case measure => simp [intOf]; omega)
              · have hst : Hid (wst f (x, y) i k = (x, y)) := if_neg (by simp only [gapV, worthAt, ← IntWalk.i64_left]; exact hgp)
                go_wp2
                go_roundw
                case rel => exact ⟨m + 1, by omega, by go_num, by rw [hnx, hst.out]; exact hA2.out.below hBv, by rw [hnx, hst.out]; exact hB2.out.below hBv, hI2.out.below hBv, below_of hbel2 hBv hbel2.size⟩
                case measure => simp [intOf]; omega
            · have hmm : m = n - (i + 1) := by omega
              have hfin : Hid (wsIn f (wsOut f n i) i m = wsOut f n (i + 1)) := by rw [hmm]; rfl
              have hln : ¬ ((m : Nat) : Int) < ((n - (i + 1) : Nat) : Int) := by omega
              clear hmm hlk
              have hl1 : ga < wr.heap.size := hA2.out.hi_le
              have hl2 : gb < wr.heap.size := hB2.out.hi_le
              go_wp2
              go_roundw
              case rel => exact ⟨i + 1, by omega, by go_num, by rw [← hfin.out]; exact hA2, by rw [← hfin.out]; exact hB2, hbel2, hl1, hl2⟩
              case measure => simp [intOf]; omega
      · obtain rfl : n = i := by omega
        have a0 := hA.out.cells5.1
        have b0 := hBq.out.cells5.1
        simp only [Nat.add_zero] at a0 b0
        have HF : Hid (∀ w', Below wo.heap.size wo w' → w'.cell? ⟨ga, 0, none⟩ = some (.int .i64 (f ((wsOut f n n).1 * 5))) ∧ w'.cell? ⟨gb, 0, none⟩ = some (.int .i64 (f ((wsOut f n n).2 * 5)))) := fun w' hq => ⟨(hq.cell (p := ⟨ga, 0, none⟩) hla).trans a0, (hq.cell (p := ⟨gb, 0, none⟩) hlb).trans b0⟩
        clear hA hBq a0 b0
        go_wp2
        refine wp_region_class (C := fun w' => Below (wo).heap.size (wo) w') (by kernel_rfl) (by kernel_rfl) ((Below.refl _ _).drew) ?_
        refine wpQuiet_take (d := 56) (v := ?_) (by rfl) ?_ ?_
        rotate_left
        · intro wS hS
          have eF := HF.out wS hS
          go_simp
          try with_reducible rfl
        simp only [Act.put, List.setIfInBounds_toArray, List.set_cons_zero, List.set_cons_succ]
        refine wpQuiet_take (d := 57) (v := ?_) (by rfl) ?_ ?_
        rotate_left
        · intro wS hS
          have eF := HF.out wS hS
          go_simp
          try with_reducible rfl
        simp only [Act.put, List.setIfInBounds_toArray, List.set_cons_zero, List.set_cons_succ]
        refine wpQuiet_take (d := 58) (v := ?_) (by rfl) ?_ ?_
        rotate_left
        · intro wS hS
          have eF := HF.out wS hS
          go_simp
          try with_reducible rfl
        simp only [Act.put, List.setIfInBounds_toArray, List.set_cons_zero, List.set_cons_succ]
        refine wpQuiet_take (d := 59) (v := ?_) (by rfl) ?_ ?_
        rotate_left
        · intro wS hS
          have eF := HF.out wS hS
          go_simp
          try with_reducible rfl
        simp only [Act.put, List.setIfInBounds_toArray, List.set_cons_zero, List.set_cons_succ]
        refine wpQuiet_take (d := 2) (v := ?_) (by rfl) ?_ ?_
        rotate_left
        · intro wS hS
          have eF := HF.out wS hS
          go_simp
          try with_reducible rfl
        simp only [Act.put, List.setIfInBounds_toArray, List.set_cons_zero, List.set_cons_succ]
        refine wpQuiet_take (d := 3) (v := ?_) (by rfl) ?_ ?_
        rotate_left
        · intro wS hS
          have eF := HF.out wS hS
          go_simp
          try with_reducible rfl
        simp only [Act.put, List.setIfInBounds_toArray, List.set_cons_zero, List.set_cons_succ]
        refine wpQuiet_take (d := 4) (v := ?_) (by rfl) ?_ ?_
        rotate_left
        · intro wS hS
          have eF := HF.out wS hS
          go_simp
          try with_reducible rfl
        simp only [Act.put, List.setIfInBounds_toArray, List.set_cons_zero, List.set_cons_succ]
        refine wpQuiet_nil (fun wq hHeld => ?_)
        go_wp2
        go_ret3
        exact ⟨rfl, below_of HB1.out (below_of hbel hHeld hbel.size) hz1⟩
  · have HA0 : Hid ((Own ((w1.alloc (.cells #[.int .i64 (f 5), .int .i64 (f 6), .int .i64 (f 7), .int .i64 (f 8), .int .i64 (f 9)] 36)).alloc (.cells #[.int .i64 (f 0), .int .i64 (f 1), .int .i64 (f 2), .int .i64 (f 3), .int .i64 (f 4)] 36)).drew w1.heap.size (Nat.succ w1.heap.size) 36 5 (some ⟨w1.heap.size, 0, none⟩) 1 (fun j => f (1 * 5 + j))) ∧ (Own ((w1.alloc (.cells #[.int .i64 (f 5), .int .i64 (f 6), .int .i64 (f 7), .int .i64 (f 8), .int .i64 (f 9)] 36)).alloc (.cells #[.int .i64 (f 0), .int .i64 (f 1), .int .i64 (f 2), .int .i64 (f 3), .int .i64 (f 4)] 36)).drew (w1.heap.size + 1) (Nat.succ (w1.heap.size + 1)) 36 5 (some ⟨(w1.heap.size + 1), 0, none⟩) 1 (fun j => f (0 * 5 + j)))) := by
      refine ⟨?_, ?_⟩
      · exact Own.below (w := (w1.alloc _)) (own_new5 w1 36 _ _ _ _ _ _ rfl rfl rfl rfl rfl) (((Below.refl _ _).alloc (Nat.le_refl _) _).drew)
      · have := own_new5 (w1.alloc (.cells #[.int .i64 (f 5), .int .i64 (f 6), .int .i64 (f 7), .int .i64 (f 8), .int .i64 (f 9)] 36)) 36 (f 0) (f 1) (f 2) (f 3) (f 4) (fun j => f (0 * 5 + j)) rfl rfl rfl rfl rfl
        simp only [World.size_alloc] at this
        exact Own.below this ((Below.refl _ _).drew)
    have BX3 : Hid (Below w1.heap.size w1 ((w1.alloc (.cells #[.int .i64 (f 5), .int .i64 (f 6), .int .i64 (f 7), .int .i64 (f 8), .int .i64 (f 9)] 36)).alloc (.cells #[.int .i64 (f 0), .int .i64 (f 1), .int .i64 (f 2), .int .i64 (f 3), .int .i64 (f 4)] 36)).drew) := (((Below.refl _ w1).alloc (Nat.le_refl _) _).alloc (by simp) _).drew
    have hda : (w1.heap.size + 1) < ((w1.alloc (.cells #[.int .i64 (f 5), .int .i64 (f 6), .int .i64 (f 7), .int .i64 (f 8), .int .i64 (f 9)] 36)).alloc (.cells #[.int .i64 (f 0), .int .i64 (f 1), .int .i64 (f 2), .int .i64 (f 3), .int .i64 (f 4)] 36)).drew.heap.size := by simp only [World.size_drew, World.size_alloc]; omega
    have hdb : w1.heap.size < ((w1.alloc (.cells #[.int .i64 (f 5), .int .i64 (f 6), .int .i64 (f 7), .int .i64 (f 8), .int .i64 (f 9)] 36)).alloc (.cells #[.int .i64 (f 0), .int .i64 (f 1), .int .i64 (f 2), .int .i64 (f 3), .int .i64 (f 4)] 36)).drew.heap.size := by simp only [World.size_drew, World.size_alloc]; omega
    have HA : Hid (Own ((w1.alloc (.cells #[.int .i64 (f 5), .int .i64 (f 6), .int .i64 (f 7), .int .i64 (f 8), .int .i64 (f 9)] 36)).alloc (.cells #[.int .i64 (f 0), .int .i64 (f 1), .int .i64 (f 2), .int .i64 (f 3), .int .i64 (f 4)] 36)).drew (w1.heap.size + 1) (Nat.succ (w1.heap.size + 1)) 36 5 (some ⟨(w1.heap.size + 1), 0, none⟩) 1 (fun j => f (0 * 5 + j))) := HA0.out.2
    have HBo : Hid (Own ((w1.alloc (.cells #[.int .i64 (f 5), .int .i64 (f 6), .int .i64 (f 7), .int .i64 (f 8), .int .i64 (f 9)] 36)).alloc (.cells #[.int .i64 (f 0), .int .i64 (f 1), .int .i64 (f 2), .int .i64 (f 3), .int .i64 (f 4)] 36)).drew w1.heap.size (Nat.succ w1.heap.size) 36 5 (some ⟨w1.heap.size, 0, none⟩) 1 (fun j => f (1 * 5 + j))) := HA0.out.1
    clear HA0 c0 c1 c2 c3 c4 d0 d1 d2 d3 d4
    generalize ((w1.alloc (.cells #[.int .i64 (f 5), .int .i64 (f 6), .int .i64 (f 7), .int .i64 (f 8), .int .i64 (f 9)] 36)).alloc (.cells #[.int .i64 (f 0), .int .i64 (f 1), .int .i64 (f 2), .int .i64 (f 3), .int .i64 (f 4)] 36)).drew = w3 at *
    generalize hg2 : w1.heap.size + 1 = ga at HA HBo hda hdb ⊢
    generalize hg1 : w1.heap.size = gb at HA HBo hda hdb ⊢
    have hga : w1.heap.size ≤ ga := by omega
    have hgb : w1.heap.size ≤ gb := by omega
    have hne : ga ≠ gb := by omega
    clear hg1 hg2
    go_wp2
    go_loopw [27] (fun s27 wr => ∃ i : Nat, i ≤ n ∧ s27 = .int .i64 i ∧ Hid (Own wr ga (Nat.succ ga) 36 5 (some ⟨ga, 0, none⟩) 1 (fun j => f ((wsOut f n i).1 * 5 + j))) ∧ Hid (Own wr gb (Nat.succ gb) 36 5 (some ⟨gb, 0, none⟩) 1 (fun j => f ((wsOut f n i).2 * 5 + j))) ∧ Below w1.heap.size w1 wr ∧ ga < wr.heap.size ∧ gb < wr.heap.size) (fun s _ => n - (intOf s).toNat)
    case atStart => exact ⟨0, Nat.zero_le _, rfl, HA, HBo, BX3.out, hda, hdb⟩
    case round =>
      obtain ⟨i, hi, rfl, hA, hBq, hbel, hla, hlb⟩ := hrel
      clear HA HBo BX3 hda hdb
      obtain ⟨wo, hwo⟩ : ∃ x, x = wr := ⟨_, rfl⟩
      subst hwo
      by_cases hlt : i < n
      · have hso := wsOut_lt (f := f) h2 i hi
        obtain ⟨hbw2, HC⟩ := HS1.out.open_at hbel (by omega)
        obtain ⟨ci0, ci1, ci2, ci3, ci4⟩ := cell5 HC hlt
        have hi0 : (0 : Int) ≤ (i : Int) := by omega
        have hi1 : (i : Int) < (n : Int) := by omega
        have hiw : IntKind.i64.wrap ((i : Int) + 1) = (i : Int) + 1 := IntWalk.i64_in _ (by omega)
        have hj0 : (0 : Int) ≤ (i : Int) + 1 := by omega
        have hj1 : (i : Int) + 1 ≤ (n : Int) := by omega
        have hj2 : (i : Int) + 1 ≤ (c : Int) := by omega
        have hjt : ((i : Int) + 1).toNat = i + 1 := by omega
        clear HC
        by_cases hce : c = i + 1
        · have hni : n = i + 1 := by omega
          subst hni
          subst hce
          have hfin : Hid (wsOut f (i + 1) (i + 1) = wsOut f (i + 1) i) := by
            show wsIn f _ i (i + 1 - (i + 1)) = _
            rw [show i + 1 - (i + 1) = 0 by omega]; rfl
          go_wp2
          go_loopw [37] (fun s37 wv => s37 = .int .i64 0 ∧ Hid (Own wv ga (Nat.succ ga) 36 5 (some ⟨ga, 0, none⟩) 1 (fun j => f ((wsOut f (i + 1) i).1 * 5 + j))) ∧ Hid (Own wv gb (Nat.succ gb) 36 5 (some ⟨gb, 0, none⟩) 1 (fun j => f ((wsOut f (i + 1) i).2 * 5 + j))) ∧ Below w1.heap.size w1 wv) (fun _ _ => 0)
          case atStart => exact ⟨rfl, hA.out.below ((Below.refl _ _).alloc (Nat.le_refl _) _), hBq.out.below ((Below.refl _ _).alloc (Nat.le_refl _) _), hbel.alloc hbel.size _⟩
          case round =>
            obtain ⟨rfl, hA2, hB2, hbel2⟩ := hrel
            have hl1 : ga < wr.heap.size := hA2.out.hi_le
            have hl2 : gb < wr.heap.size := hB2.out.hi_le
            clear hA hBq hbel ci0 ci1 ci2 ci3 ci4
            go_wp2
            go_roundw
            case rel => exact ⟨i + 1, by omega, by go_num, by rw [hfin.out]; exact hA2, by rw [hfin.out]; exact hB2, hbel2, hl1, hl2⟩
            case measure => simp [intOf]
        · have hI : Hid (Own (wo.alloc (.cells #[.int .i64 (f (i * 5)), .int .i64 (f (i * 5 + 1)), .int .i64 (f (i * 5 + 2)), .int .i64 (f (i * 5 + 3)), .int .i64 (f (i * 5 + 4))] 36)) wo.heap.size (Nat.succ wo.heap.size) 36 5 (some ⟨wo.heap.size, 0, none⟩) 1 (fun j => f (i * 5 + j))) := own_new5 wo 36 _ _ _ _ _ _ rfl rfl rfl rfl rfl
          have hwr : w1.heap.size ≤ wo.heap.size := hbel.size
          go_wp2
          go_loopw [37] (fun s37 wr => ∃ m : Nat, i + 1 + m ≤ n ∧ s37 = .int .i64 m ∧ Hid (Own wr ga (Nat.succ ga) 36 5 (some ⟨ga, 0, none⟩) 1 (fun j => f ((wsIn f (wsOut f n i) i m).1 * 5 + j))) ∧ Hid (Own wr gb (Nat.succ gb) 36 5 (some ⟨gb, 0, none⟩) 1 (fun j => f ((wsIn f (wsOut f n i) i m).2 * 5 + j))) ∧ Hid (Own wr wo.heap.size (Nat.succ wo.heap.size) 36 5 (some ⟨wo.heap.size, 0, none⟩) 1 (fun j => f (i * 5 + j))) ∧ Below w1.heap.size w1 wr) (fun s _ => n - (intOf s).toNat)
          case atStart => exact ⟨0, by omega, rfl, hA.out.below ((Below.refl _ _).alloc (Nat.le_refl _) _), hBq.out.below ((Below.refl _ _).alloc (Nat.le_refl _) _), hI, hbel.alloc hbel.size _⟩
          case round =>
            obtain ⟨m, hm, rfl, hA2, hB2, hI2, hbel2⟩ := hrel
            clear hA hBq hI hbel ci0 ci1 ci2 ci3 ci4
            by_cases hlk : m < n - (i + 1)
            · have hlk2 : i + 1 + m < n := by omega
              obtain ⟨hx, hy⟩ := wsIn_lt (f := f) (i := i) hso m hm
              have hnx : wsIn f (wsOut f n i) i (m + 1) = wst f (wsIn f (wsOut f n i) i m) i (i + 1 + m) := rfl
              generalize hsi : wsIn f (wsOut f n i) i m = st at *
              obtain ⟨x, y⟩ := st
              simp only at hx hy hA2 hB2
              obtain ⟨hbw3, HC⟩ := HS1.out.open_at hbel2 (by omega)
              have HC5 := cell5 HC hlk2
              rw [show off + (i + 1 + m) * 5 = off + (i + 1) * 5 + m * 5 by omega] at HC5
              generalize hkk : i + 1 + m = k at *
              obtain ⟨ck0, ck1, ck2, ck3, ck4⟩ := HC5
              have hm0 : (0 : Int) ≤ (m : Int) := by omega
              have hm1 : (m : Int) < ((n - (i + 1) : Nat) : Int) := by omega
              have hK := own_new5 wr 36 (f (k * 5)) (f (k * 5 + 1)) (f (k * 5 + 2)) (f (k * 5 + 3)) (f (k * 5 + 4)) (fun j => f (k * 5 + j)) rfl rfl rfl rfl rfl
              have HAL := (Below.refl _ wr).alloc (Nat.le_refl _) (.cells #[.int .i64 (f (k * 5)), .int .i64 (f (k * 5 + 1)), .int .i64 (f (k * 5 + 2)), .int .i64 (f (k * 5 + 3)), .int .i64 (f (k * 5 + 4))] 36)
              have HF : Hid (∀ w', Below (wr.alloc (.cells #[.int .i64 (f (k * 5)), .int .i64 (f (k * 5 + 1)), .int .i64 (f (k * 5 + 2)), .int .i64 (f (k * 5 + 3)), .int .i64 (f (k * 5 + 4))] 36)).heap.size (wr.alloc (.cells #[.int .i64 (f (k * 5)), .int .i64 (f (k * 5 + 1)), .int .i64 (f (k * 5 + 2)), .int .i64 (f (k * 5 + 3)), .int .i64 (f (k * 5 + 4))] 36)) w' → (w'.cell? ⟨ga, 0, none⟩ = some (.int .i64 (f (x * 5))) ∧ w'.cell? ⟨ga, 1, none⟩ = some (.int .i64 (f (x * 5 + 1))) ∧ w'.cell? ⟨ga, 2, none⟩ = some (.int .i64 (f (x * 5 + 2))) ∧ w'.cell? ⟨ga, 3, none⟩ = some (.int .i64 (f (x * 5 + 3))) ∧ w'.cell? ⟨ga, 4, none⟩ = some (.int .i64 (f (x * 5 + 4)))) ∧ (w'.cell? ⟨gb, 0, none⟩ = some (.int .i64 (f (y * 5))) ∧ w'.cell? ⟨gb, 1, none⟩ = some (.int .i64 (f (y * 5 + 1))) ∧ w'.cell? ⟨gb, 2, none⟩ = some (.int .i64 (f (y * 5 + 2))) ∧ w'.cell? ⟨gb, 3, none⟩ = some (.int .i64 (f (y * 5 + 3))) ∧ w'.cell? ⟨gb, 4, none⟩ = some (.int .i64 (f (y * 5 + 4)))) ∧ (w'.cell? ⟨wo.heap.size, 0, none⟩ = some (.int .i64 (f (i * 5))) ∧ w'.cell? ⟨wo.heap.size, 1, none⟩ = some (.int .i64 (f (i * 5 + 1))) ∧ w'.cell? ⟨wo.heap.size, 2, none⟩ = some (.int .i64 (f (i * 5 + 2))) ∧ w'.cell? ⟨wo.heap.size, 3, none⟩ = some (.int .i64 (f (i * 5 + 3))) ∧ w'.cell? ⟨wo.heap.size, 4, none⟩ = some (.int .i64 (f (i * 5 + 4)))) ∧ w'.cell? ⟨wr.heap.size, 0, none⟩ = some (.int .i64 (f (k * 5))) ∧ w'.cell? ⟨wr.heap.size, 1, none⟩ = some (.int .i64 (f (k * 5 + 1))) ∧ w'.cell? ⟨wr.heap.size, 2, none⟩ = some (.int .i64 (f (k * 5 + 2))) ∧ w'.cell? ⟨wr.heap.size, 3, none⟩ = some (.int .i64 (f (k * 5 + 3))) ∧ w'.cell? ⟨wr.heap.size, 4, none⟩ = some (.int .i64 (f (k * 5 + 4)))) := by
                intro w' hq
                have qa := ((hA2.out.below HAL).below hq).cells5
                have qb := ((hB2.out.below HAL).below hq).cells5
                have qi := ((hI2.out.below HAL).below hq).cells5
                have qk := (hK.below hq).cells5
                exact ⟨⟨qa.1, qa.2.1, qa.2.2.1, qa.2.2.2.1, qa.2.2.2.2.1⟩, ⟨qb.1, qb.2.1, qb.2.2.1, qb.2.2.2.1, qb.2.2.2.2.1⟩, ⟨qi.1, qi.2.1, qi.2.2.1, qi.2.2.2.1, qi.2.2.2.2.1⟩, qk.1, qk.2.1, qk.2.2.1, qk.2.2.2.1, qk.2.2.2.2.1⟩
              clear HC
              go_wp2
              refine wp_region_class (C := fun w' => Below ((wr.alloc (.cells #[.int .i64 (f (k * 5)), .int .i64 (f (k * 5 + 1)), .int .i64 (f (k * 5 + 2)), .int .i64 (f (k * 5 + 3)), .int .i64 (f (k * 5 + 4))] 36))).heap.size ((wr.alloc (.cells #[.int .i64 (f (k * 5)), .int .i64 (f (k * 5 + 1)), .int .i64 (f (k * 5 + 2)), .int .i64 (f (k * 5 + 3)), .int .i64 (f (k * 5 + 4))] 36))) w') (by kernel_rfl) (by kernel_rfl) ((Below.refl _ _).drew) ?_
              refine wpQuiet_take (d := 41) (v := ?_) (by rfl) ?_ ?_
              rotate_left
              · intro wS hS
                have eF := HF.out wS hS
                go_simp
                try with_reducible rfl
              simp only [Act.put, List.setIfInBounds_toArray, List.set_cons_zero, List.set_cons_succ]
              refine wpQuiet_meet (d := 42) (v := ?_) ?_ ?_ (by rfl) ?_ ?_ ?_
              rotate_left
              rotate_left
              rotate_left
              · intro wS hS
                have eF := HF.out wS hS
                go_simp
                first | with_reducible rfl | (refine ⟨?_, ?_⟩ <;> with_reducible rfl)
              · intro wS hS
                refine (worth_any _ _ _ _ _ _).mono ?_
                rintro e w2 ⟨rfl, hb2⟩
                refine ⟨?_, hS.trans (hb2.mono hS.size)⟩
                with_reducible rfl
              simp only [Act.put, List.setIfInBounds_toArray, List.set_cons_zero, List.set_cons_succ]
              refine wpQuiet_take (d := 43) (v := ?_) (by rfl) ?_ ?_
              rotate_left
              · intro wS hS
                have eF := HF.out wS hS
                go_simp
                try with_reducible rfl
              simp only [Act.put, List.setIfInBounds_toArray, List.set_cons_zero, List.set_cons_succ]
              refine wpQuiet_meet (d := 44) (v := ?_) ?_ ?_ (by rfl) ?_ ?_ ?_
              rotate_left
              rotate_left
              rotate_left
              · intro wS hS
                have eF := HF.out wS hS
                go_simp
                first | with_reducible rfl | (refine ⟨?_, ?_⟩ <;> with_reducible rfl)
              · intro wS hS
                refine (worth_any _ _ _ _ _ _).mono ?_
                rintro e w2 ⟨rfl, hb2⟩
                refine ⟨?_, hS.trans (hb2.mono hS.size)⟩
                with_reducible rfl
              simp only [Act.put, List.setIfInBounds_toArray, List.set_cons_zero, List.set_cons_succ]
              refine wpQuiet_take (d := 45) (v := ?_) (by rfl) ?_ ?_
              rotate_left
              · intro wS hS
                have eF := HF.out wS hS
                go_simp
                try with_reducible rfl
              simp only [Act.put, List.setIfInBounds_toArray, List.set_cons_zero, List.set_cons_succ]
              refine wpQuiet_take (d := 46) (v := ?_) (by rfl) ?_ ?_
              rotate_left
              · intro wS hS
                have eF := HF.out wS hS
                go_simp
                try with_reducible rfl
              simp only [Act.put, List.setIfInBounds_toArray, List.set_cons_zero, List.set_cons_succ]
              refine wpQuiet_meet (d := 47) (v := ?_) ?_ ?_ (by rfl) ?_ ?_ ?_
              rotate_left
              rotate_left
              rotate_left
              · intro wS hS
                have eF := HF.out wS hS
                go_simp
                first | with_reducible rfl | (refine ⟨?_, ?_⟩ <;> with_reducible rfl)
              · intro wS hS
                refine (worth_any _ _ _ _ _ _).mono ?_
                rintro e w2 ⟨rfl, hb2⟩
                refine ⟨?_, hS.trans (hb2.mono hS.size)⟩
                with_reducible rfl
              simp only [Act.put, List.setIfInBounds_toArray, List.set_cons_zero, List.set_cons_succ]
              refine wpQuiet_take (d := 48) (v := ?_) (by rfl) ?_ ?_
              rotate_left
              · intro wS hS
                have eF := HF.out wS hS
                go_simp
                try with_reducible rfl
              simp only [Act.put, List.setIfInBounds_toArray, List.set_cons_zero, List.set_cons_succ]
              refine wpQuiet_meet (d := 49) (v := ?_) ?_ ?_ (by rfl) ?_ ?_ ?_
              rotate_left
              rotate_left
              rotate_left
              · intro wS hS
                have eF := HF.out wS hS
                go_simp
                first | with_reducible rfl | (refine ⟨?_, ?_⟩ <;> with_reducible rfl)
              · intro wS hS
                refine (worth_any _ _ _ _ _ _).mono ?_
                rintro e w2 ⟨rfl, hb2⟩
                refine ⟨?_, hS.trans (hb2.mono hS.size)⟩
                with_reducible rfl
              simp only [Act.put, List.setIfInBounds_toArray, List.set_cons_zero, List.set_cons_succ]
              refine wpQuiet_take (d := 50) (v := ?_) (by rfl) ?_ ?_
              rotate_left
              · intro wS hS
                have eF := HF.out wS hS
                go_simp
                try with_reducible rfl
              simp only [Act.put, List.setIfInBounds_toArray, List.set_cons_zero, List.set_cons_succ]
              refine wpQuiet_take (d := 51) (v := ?_) (by rfl) ?_ ?_
              rotate_left
              · intro wS hS
                have eF := HF.out wS hS
                go_simp
                try with_reducible rfl
              simp only [Act.put, List.setIfInBounds_toArray, List.set_cons_zero, List.set_cons_succ]
              refine wpQuiet_nil (fun wq hHeld => ?_)
              have hBv : Below wr.heap.size wr wq := HAL.trans (hHeld.mono (by simp))
              by_cases hgp : IntKind.i64.wrap (worthV (f (x * 5 + 2)) (f (x * 5 + 3)) (f (x * 5 + 4)) - worthV (f (y * 5 + 2)) (f (y * 5 + 3)) (f (y * 5 + 4))) < IntKind.i64.wrap (worthV (f (i * 5 + 2)) (f (i * 5 + 3)) (f (i * 5 + 4)) - worthV (f (k * 5 + 2)) (f (k * 5 + 3)) (f (k * 5 + 4)))
              · have hst : Hid (wst f (x, y) i k = (i, k)) := if_pos (by simp only [gapV, worthAt, ← IntWalk.i64_left]; exact hgp)
                obtain ⟨a0, a1, a2, a3, a4, af, _⟩ := (hA2.out.below hBv).cells5
                obtain ⟨e0, e1, e2, e3, e4, ef, _⟩ := (hB2.out.below hBv).cells5
                obtain ⟨r0, r1, r2, r3, r4, _, _⟩ := (hI2.out.below hBv).cells5
                obtain ⟨k0, k1, k2, k3, k4, _, _⟩ := (hK.below hHeld).cells5
                simp only [Nat.add_zero] at a0 e0 r0 k0
                have hA3 : Hid (Own wq ga (Nat.succ ga) 36 5 (some ⟨ga, 0, none⟩) 1 (fun j => f (x * 5 + j))) := hA2.out.below hBv
                have hB3 : Hid (Own wq gb (Nat.succ gb) 36 5 (some ⟨gb, 0, none⟩) 1 (fun j => f (y * 5 + j))) := hB2.out.below hBv
                have hI3 : Hid (Own wq wo.heap.size (Nat.succ wo.heap.size) 36 5 (some ⟨wo.heap.size, 0, none⟩) 1 (fun j => f (i * 5 + j))) := hI2.out.below hBv
                have hW3 := below_of hbel2 hBv hbel2.size
                have z1 := hA2.out.hi_le
                have z2 := hB2.out.hi_le
                have z3 := hI2.out.hi_le
                clear hA2 hB2 hI2 HF hK HAL
                have af0 := af 0; have af1 := af 1; have af2 := af 2; have af3 := af 3; have af4 := af 4
                have ef0 := ef 0; have ef1 := ef 1; have ef2 := ef 2; have ef3 := ef 3; have ef4 := ef 4
                have n1 : gb ≠ ga := hne.symm
                have o1 : wo.heap.size ≠ ga := by omega
                have o2 : wo.heap.size ≠ gb := by omega
                have o3 : wr.heap.size ≠ ga := by have := z1; omega
                have o4 : wr.heap.size ≠ gb := by have := z2; omega
                have o5 := o1.symm; have o6 := o2.symm; have o7 := o3.symm; have o8 := o4.symm
                have o9 : wo.heap.size ≠ wr.heap.size := by have := z3; omega
                have o10 := o9.symm
                clear z1 z2 z3
                clear af ef
                go_wp2
                go_region
                all_goals first
                  | (obtain ⟨P1, P2, P3, P4⟩ := ws_put (i := i) (k := k) hA3.out hB3.out hI3.out hne o1 o2 hga hgb
                     go_wp2
                     go_roundw
                     case rel => exact ⟨m + 1, by omega, by go_num, by rw [hnx, hst.out]; exact P1.below (by go_grown), by rw [hnx, hst.out]; exact P2.below (by go_grown), P3.below (by go_grown), (hW3.trans P4).drew⟩
                     case measure => simp [intOf]; omega)
                  | (obtain ⟨P2, P1, P3, P4⟩ := ws_put (i := k) (k := i) hB3.out hA3.out hI3.out n1 o2 o1 hgb hga
                     go_wp2
                     go_roundw
                     case rel => exact ⟨m + 1, by omega, by go_num, by rw [hnx, hst.out]; exact P1.below (by go_grown), by rw [hnx, hst.out]; exact P2.below (by go_grown), P3.below (by go_grown), (hW3.trans P4).drew⟩
                     case measure => simp [intOf]; omega)
              · have hst : Hid (wst f (x, y) i k = (x, y)) := if_neg (by simp only [gapV, worthAt, ← IntWalk.i64_left]; exact hgp)
                go_wp2
                go_roundw
                case rel => exact ⟨m + 1, by omega, by go_num, by rw [hnx, hst.out]; exact hA2.out.below hBv, by rw [hnx, hst.out]; exact hB2.out.below hBv, hI2.out.below hBv, below_of hbel2 hBv hbel2.size⟩
                case measure => simp [intOf]; omega
            · have hmm : m = n - (i + 1) := by omega
              have hfin : Hid (wsIn f (wsOut f n i) i m = wsOut f n (i + 1)) := by rw [hmm]; rfl
              have hln : ¬ ((m : Nat) : Int) < ((n - (i + 1) : Nat) : Int) := by omega
              clear hmm hlk
              have hl1 : ga < wr.heap.size := hA2.out.hi_le
              have hl2 : gb < wr.heap.size := hB2.out.hi_le
              go_wp2
              go_roundw
              case rel => exact ⟨i + 1, by omega, by go_num, by rw [← hfin.out]; exact hA2, by rw [← hfin.out]; exact hB2, hbel2, hl1, hl2⟩
              case measure => simp [intOf]; omega
      · obtain rfl : n = i := by omega
        have a0 := hA.out.cells5.1
        have b0 := hBq.out.cells5.1
        simp only [Nat.add_zero] at a0 b0
        have HF : Hid (∀ w', Below wo.heap.size wo w' → w'.cell? ⟨ga, 0, none⟩ = some (.int .i64 (f ((wsOut f n n).1 * 5))) ∧ w'.cell? ⟨gb, 0, none⟩ = some (.int .i64 (f ((wsOut f n n).2 * 5)))) := fun w' hq => ⟨(hq.cell (p := ⟨ga, 0, none⟩) hla).trans a0, (hq.cell (p := ⟨gb, 0, none⟩) hlb).trans b0⟩
        clear hA hBq a0 b0
        go_wp2
        refine wp_region_class (C := fun w' => Below (wo).heap.size (wo) w') (by kernel_rfl) (by kernel_rfl) ((Below.refl _ _).drew) ?_
        refine wpQuiet_take (d := 56) (v := ?_) (by rfl) ?_ ?_
        rotate_left
        · intro wS hS
          have eF := HF.out wS hS
          go_simp
          try with_reducible rfl
        simp only [Act.put, List.setIfInBounds_toArray, List.set_cons_zero, List.set_cons_succ]
        refine wpQuiet_take (d := 57) (v := ?_) (by rfl) ?_ ?_
        rotate_left
        · intro wS hS
          have eF := HF.out wS hS
          go_simp
          try with_reducible rfl
        simp only [Act.put, List.setIfInBounds_toArray, List.set_cons_zero, List.set_cons_succ]
        refine wpQuiet_take (d := 58) (v := ?_) (by rfl) ?_ ?_
        rotate_left
        · intro wS hS
          have eF := HF.out wS hS
          go_simp
          try with_reducible rfl
        simp only [Act.put, List.setIfInBounds_toArray, List.set_cons_zero, List.set_cons_succ]
        refine wpQuiet_take (d := 59) (v := ?_) (by rfl) ?_ ?_
        rotate_left
        · intro wS hS
          have eF := HF.out wS hS
          go_simp
          try with_reducible rfl
        simp only [Act.put, List.setIfInBounds_toArray, List.set_cons_zero, List.set_cons_succ]
        refine wpQuiet_take (d := 2) (v := ?_) (by rfl) ?_ ?_
        rotate_left
        · intro wS hS
          have eF := HF.out wS hS
          go_simp
          try with_reducible rfl
        simp only [Act.put, List.setIfInBounds_toArray, List.set_cons_zero, List.set_cons_succ]
        refine wpQuiet_take (d := 3) (v := ?_) (by rfl) ?_ ?_
        rotate_left
        · intro wS hS
          have eF := HF.out wS hS
          go_simp
          try with_reducible rfl
        simp only [Act.put, List.setIfInBounds_toArray, List.set_cons_zero, List.set_cons_succ]
        refine wpQuiet_take (d := 4) (v := ?_) (by rfl) ?_ ?_
        rotate_left
        · intro wS hS
          have eF := HF.out wS hS
          go_simp
          try with_reducible rfl
        simp only [Act.put, List.setIfInBounds_toArray, List.set_cons_zero, List.set_cons_succ]
        refine wpQuiet_nil (fun wq hHeld => ?_)
        go_wp2
        go_ret3
        exact ⟨rfl, below_of HB1.out (below_of hbel hHeld hbel.size) hz1⟩
end Go.Proofs.YtfejgoohefhjoaaDoor
