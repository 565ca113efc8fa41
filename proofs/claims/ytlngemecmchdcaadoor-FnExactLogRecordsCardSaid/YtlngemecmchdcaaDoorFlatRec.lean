/-
  The helpers of the laws for slices of log records: equality, marks.
-/
import Derived.Test.YtlngemecmchdcaaDoorLogJ
import Derived.Test.YtlngemecmchdcaaDoorMemT
import Derived.Deep.RegionHeld3
import Derived.Deep.RegionWith
import Derived.Handy
namespace Go.Proofs.YtlngemecmchdcaaDoor
open Go.RowKit
set_option linter.unusedVariables false
set_option linter.unusedSimpArgs false
attribute [local go_sem ↓] Go.wp_at_zero Go.wp_at_succ
def mkGo : Nat → Nat → BA → BA
  | 0, _, o => o
  | m + 1, k, o => if k = 0 then o else mkGo m (k / 10) ((⟨#[UInt8.ofNat (48 + k % 10)]⟩ : BA) ++ o)
def mkT (k : Int) : BA := (⟨#[109]⟩ : BA) ++ mkGo 20 k.toNat ⟨#[]⟩
theorem mkGo_zero (m : Nat) (o : BA) : mkGo m 0 o = o := by cases m <;> simp [mkGo]
set_option maxHeartbeats 1000000 in
theorem markText_any (k0 : Int) (h1 : 1 ≤ k0) (h2 : k0 ≤ 1000000000000) (w : World) :
    Calls Tryd.prog 44 #[.int .i64 k0] w fun e w' => e = .returned (.string (mkT k0)) ∧ Below w.heap.size w w' := by
  obtain ⟨n, rfl⟩ : ∃ n : Nat, k0 = (n : Int) := ⟨k0.toNat, by omega⟩
  have HM : Hid (mkT (n : Int) = (⟨#[109]⟩ : BA) ++ mkGo 20 n ⟨#[]⟩) := by show mkT (n : Int) = _; unfold mkT; rw [Int.toNat_natCast]
  have hn20 : n < 10 ^ 20 := by omega
  go_enter Tryd.func44, Tryd.ntmps44
  go_wp2_with fail
  go_loopw [0, 3] (fun kv ov wr => ∃ (k m : Nat) (o : BA), kv = .int .i64 (k : Int) ∧ ov = .string o ∧ mkGo m k o = mkGo 20 n ⟨#[]⟩ ∧ k < 10 ^ m ∧ m ≤ 20 ∧ k ≤ 1000000000000 ∧ o.size + m ≤ 20 ∧ Below w.heap.size w wr) (fun kv _ _ => (intOf kv).toNat)
  case atStart => exact ⟨n, 20, ⟨#[]⟩, rfl, rfl, rfl, hn20, by omega, by omega, Nat.le_refl 20, Below.refl _ _⟩
  case round =>
    obtain ⟨k, m, o, rfl, rfl, hgo, hk, hm, hk9, hsz, hbel⟩ := hrel
    have HGO := Lib.hid hgo
    have HK := Lib.hid hk
    clear hgo hk hn20
    by_cases hk0 : 0 < k
    · have p0 : (0 : Int) < (k : Int) := by omega
      have p1 : Int.tmod (k : Int) 10 = ((k % 10 : Nat) : Int) := by simp [Int.tmod]
      have p2 : Int.tdiv (k : Int) 10 = ((k / 10 : Nat) : Int) := by simp [Int.tdiv]
      have hr : k % 10 < 10 := Nat.mod_lt _ (by omega)
      have hb : ((UInt8.ofNat (48 + k % 10)).toNat : Int) = 48 + ((k % 10 : Nat) : Int) := by
        rw [UInt8.toNat_ofNat']
        have : (48 + k % 10) % 2 ^ 8 = 48 + k % 10 := Nat.mod_eq_of_lt (by omega)
        rw [this]; push_cast; rfl
      have hback : (convert 60 9 (.slice (some ⟨wr.heap.size, 0, none⟩) 1 1)).run Tryd.prog (wr.alloc (.cells #[.int .u8 (48 + (k : Int) % 10)] 5)) = .ok (.string ⟨#[UInt8.ofNat (48 + k % 10)]⟩) (wr.alloc (.cells #[.int .u8 (48 + (k : Int) % 10)] 5)) := by
        have h := run_convert_bytes_back (P := Tryd.prog) (wr.alloc (.cells #[.int .u8 (48 + (k : Int) % 10)] 5)) 60 9 5 ⟨wr.heap.size, 0, none⟩ 1 [UInt8.ofNat (48 + k % 10)] Tryd.underlying60 Tryd.underlying5 Tryd.underlying9 (fun j hj => ?_)
        · exact h
        · obtain rfl : j = 0 := by simpa using hj
          have he : (⟨wr.heap.size, 0, none⟩ : Addr).add 0 = ⟨wr.heap.size, 0, none⟩ := rfl
          rw [he, World.cell?_alloc_mark]
          have e2 : ([UInt8.ofNat (48 + k % 10)] : List UInt8)[0] = UInt8.ofNat (48 + k % 10) := rfl
          rw [e2, hb]
          simp
      obtain ⟨m, rfl⟩ : ∃ m', m = m' + 1 := by
        rcases Nat.eq_zero_or_pos m with h | h
        · subst h; have := HK.out; simp at this; omega
        · exact ⟨m - 1, by omega⟩
      have HG2 : Hid (mkGo m (k / 10) ((⟨#[UInt8.ofNat (48 + k % 10)]⟩ : BA) ++ o) = mkGo 20 n ⟨#[]⟩) := by
        show _ = _
        rw [← HGO.out, mkGo, if_neg (by omega)]
      have HK2 : Hid (k / 10 < 10 ^ m) := by
        show _ < _
        have := HK.out
        rw [Nat.pow_succ] at this
        exact Nat.div_lt_of_lt_mul (by omega)
      obtain ⟨B, hB⟩ : ∃ B : BA, (⟨#[UInt8.ofNat (48 + k % 10)]⟩ : BA) = B := ⟨_, rfl⟩
      have hB1 : B.size = 1 := by rw [← hB]; rfl
      rw [hB] at hback HG2
      have hso : B.size + o.size ≤ 4000000 := by omega
      have hso2 : (B ++ o).size = B.size + o.size := size_app B o
      clear HGO HK hb hB
      go_wp2_with fail
      go_roundw
      case rel => exact ⟨k / 10, m, B ++ o, by simp, rfl, HG2.out, HK2.out, by omega, by omega, by omega, hbel.alloc hbel.size _⟩
      case measure => simp [intOf]; omega
    · obtain rfl : k = 0 := by omega
      have hz : mkGo m 0 o = o := mkGo_zero m o
      have hso : (1 : Nat) + o.size ≤ 4000000 := by omega
      go_wp2_with fail
      go_ret
      exact ⟨by rw [HM.out, ← HGO.out, hz]; rfl, hbel⟩
theorem eqLogRecord_same (c r : BA) (w : World) :
    Calls Tryd.prog 43 #[.agg #[.string c, .string r], .agg #[.string c, .string r]] w fun e w' => e = .returned (.bool true) ∧ Below w.heap.size w w' := by
  go_enter Tryd.func43, Tryd.ntmps43
  go_wp2
  go_ret
  exact ⟨rfl, by go_grown⟩
set_option maxRecDepth 100000 in
set_option maxHeartbeats 1000000 in
theorem eqLogRecordS_same (A B : Option Addr) (n c d lo hi lo' hi' : Nat) (F : Nat → BA) (w : World) (hs : SlT w lo hi 2 A n F) (ht : SlT w lo' hi' 2 B n F) (hn : n ≤ 1048576) (hnc : n ≤ c) (hnd : n ≤ d) :
    Calls Tryd.prog 29 #[.slice A n c, .slice B n d] w fun e w' => e = .returned (.bool true) ∧ Below w.heap.size w w' := by
  have HS : Hid (SlT w lo hi 2 A n F) := hs
  have HT : Hid (SlT w lo' hi' 2 B n F) := ht
  clear hs ht
  go_enter Tryd.func29, Tryd.ntmps29
  go_wp2
  go_loopw [5] (fun i wr => ∃ k : Nat, k ≤ n ∧ i = .int .i64 k ∧ Below w.heap.size w wr) (fun i _ => n - (intOf i).toNat)
  case atStart => exact ⟨0, Nat.zero_le _, rfl, Below.refl _ _⟩
  case round =>
    obtain ⟨k, hk, rfl, hbel⟩ := hrel
    by_cases hlt : k < n
    · obtain ⟨b, off, rfl, hb, HC⟩ := HS.out.open_ hbel (by omega)
      obtain ⟨b', off', rfl, hb', HD⟩ := HT.out.open_ hbel (by omega)
      have h1 := cellT2 HC hlt
      have h2 := cellT2 HD hlt
      have HF : Hid (∀ w', Below wr.heap.size wr w' → (w'.cell? ⟨b, off + k * 2, none⟩ = some (.string (F (k * 2))) ∧ w'.cell? ⟨b, off + k * 2 + 1, none⟩ = some (.string (F (k * 2 + 1)))) ∧ w'.cell? ⟨b', off' + k * 2, none⟩ = some (.string (F (k * 2))) ∧ w'.cell? ⟨b', off' + k * 2 + 1, none⟩ = some (.string (F (k * 2 + 1)))) := fun w' hq => ⟨⟨(hq.cell (p := ⟨b, off + k * 2, none⟩) hb).trans h1.1, (hq.cell (p := ⟨b, off + k * 2 + 1, none⟩) hb).trans h1.2⟩, (hq.cell (p := ⟨b', off' + k * 2, none⟩) hb').trans h2.1, (hq.cell (p := ⟨b', off' + k * 2 + 1, none⟩) hb').trans h2.2⟩
      clear HC HD HS HT h1 h2
      have hk0 : (0 : Int) ≤ (k : Int) := by omega
      have hk1 : (k : Int) < (n : Int) := by omega
      go_wp2_with fail
      refine wp_region_class (C := fun w' => Below (wr).heap.size (wr) w') (by kernel_rfl) (by kernel_rfl) ((Below.refl _ _).drew) ?_
      refine wpQuiet_take (d := 17) (v := ?_) (by rfl) ?_ ?_
      rotate_left
      · intro wS hS
        have eF := HF.out wS hS
        go_simp
        try with_reducible rfl
      simp only [Act.put, List.setIfInBounds_toArray, List.set_cons_zero, List.set_cons_succ]
      refine wpQuiet_take (d := 18) (v := ?_) (by rfl) ?_ ?_
      rotate_left
      · intro wS hS
        have eF := HF.out wS hS
        go_simp
        try with_reducible rfl
      simp only [Act.put, List.setIfInBounds_toArray, List.set_cons_zero, List.set_cons_succ]
      refine wpQuiet_take (d := 19) (v := ?_) (by rfl) ?_ ?_
      rotate_left
      · intro wS hS
        have eF := HF.out wS hS
        go_simp
        try with_reducible rfl
      simp only [Act.put, List.setIfInBounds_toArray, List.set_cons_zero, List.set_cons_succ]
      refine wpQuiet_take (d := 20) (v := ?_) (by rfl) ?_ ?_
      rotate_left
      · intro wS hS
        have eF := HF.out wS hS
        go_simp
        try with_reducible rfl
      simp only [Act.put, List.setIfInBounds_toArray, List.set_cons_zero, List.set_cons_succ]
      refine wpQuiet_take (d := 21) (v := ?_) (by rfl) ?_ ?_
      rotate_left
      · intro wS hS
        have eF := HF.out wS hS
        go_simp
        try with_reducible rfl
      simp only [Act.put, List.setIfInBounds_toArray, List.set_cons_zero, List.set_cons_succ]
      refine wpQuiet_take (d := 22) (v := ?_) (by rfl) ?_ ?_
      rotate_left
      · intro wS hS
        have eF := HF.out wS hS
        go_simp
        try with_reducible rfl
      simp only [Act.put, List.setIfInBounds_toArray, List.set_cons_zero, List.set_cons_succ]
      refine wpQuiet_take (d := 23) (v := ?_) (by rfl) ?_ ?_
      rotate_left
      · intro wS hS
        have eF := HF.out wS hS
        go_simp
        try with_reducible rfl
      simp only [Act.put, List.setIfInBounds_toArray, List.set_cons_zero, List.set_cons_succ]
      refine wpQuiet_take (d := 24) (v := ?_) (by rfl) ?_ ?_
      rotate_left
      · intro wS hS
        have eF := HF.out wS hS
        go_simp
        try with_reducible rfl
      simp only [Act.put, List.setIfInBounds_toArray, List.set_cons_zero, List.set_cons_succ]
      refine wpQuiet_meet (d := 25) (v := ?_) ?_ ?_ (by rfl) ?_ ?_ ?_
      rotate_left
      rotate_left
      rotate_left
      · intro wS hS
        have eF := HF.out wS hS
        go_simp
        first | with_reducible rfl | (refine ⟨?_, ?_⟩ <;> with_reducible rfl)
      · intro wS hS
        refine (eqLogRecord_same _ _ wS).mono ?_
        rintro e w2 ⟨rfl, hb2⟩
        refine ⟨?_, hS.trans (hb2.mono hS.size)⟩
        with_reducible rfl
      simp only [Act.put, List.setIfInBounds_toArray, List.set_cons_zero, List.set_cons_succ]
      refine wpQuiet_take (d := 26) (v := ?_) (by rfl) ?_ ?_
      rotate_left
      · intro wS hS
        have eF := HF.out wS hS
        go_simp
        try with_reducible rfl
      simp only [Act.put, List.setIfInBounds_toArray, List.set_cons_zero, List.set_cons_succ]
      refine wpQuiet_nil (fun wq hHeld => ?_)
      go_wp2_with fail
      go_roundw
      case rel => exact ⟨k + 1, by omega, by go_num, below_of hbel hHeld hbel.size⟩
      case measure => simp [intOf]; omega
    · clear HS HT
      go_wp2
      go_ret
      exact ⟨rfl, hbel⟩
def markedT (p : Nat) (F : Nat → BA) : Nat → BA := fun j => if j < p then mkT (1 + (j : Int)) else F j
set_option maxRecDepth 100000 in
set_option maxHeartbeats 1000000 in
theorem markLogRecordS_any (A : Option Addr) (n c lo hi : Nat) (F : Nat → BA) (w : World) (hs : OwnT w lo hi 27 2 A n F) (hn : n ≤ 1048576) (hnc : n ≤ c) :
    Calls Tryd.prog 30 #[.slice A n c, .int .i64 1] w fun e w' => e = .returned (.int .i64 (1 + (n : Int) * 2)) ∧ OwnT w' lo hi 27 2 A n (fun j => mkT (1 + (j : Int))) ∧ Fr lo hi w w' := by
  have HS : Hid (OwnT w lo hi 27 2 A n F) := hs
  clear hs
  go_enter Tryd.func30, Tryd.ntmps30
  go_wp2
  go_loopw [1, 5] (fun kv i wr => ∃ m : Nat, m ≤ n ∧ i = .int .i64 m ∧ kv = .int .i64 (1 + (m : Int) * 2) ∧ OwnT wr lo hi 27 2 A n (markedT (m * 2) F) ∧ Fr lo hi w wr) (fun _ i _ => n - (intOf i).toNat)
  case atStart => exact ⟨0, Nat.zero_le _, rfl, by simp, HS.out.congr (fun j _ => by simp [markedT]), Fr.refl _ _ _⟩
  case round =>
    obtain ⟨m, hm, rfl, rfl, hO, hfr⟩ := hrel
    clear HS
    by_cases hlt : m < n
    · obtain ⟨g, rfl⟩ := hO.addr (by omega)
      have hk0 : (0 : Int) ≤ (m : Int) := by omega
      have hk1 : (m : Int) < (n : Int) := by omega
      have HO := Lib.hid hO
      have HFR := Lib.hid hfr
      clear hO hfr
      go_wp2_with fail
      refine (markText_any _ (by omega) (by omega) _).mono ?_
      rintro e w2 ⟨rfl, hb2⟩
      have hO2 := HO.out.below hb2
      have hfr2 := HFR.out.trans (Fr.of_below lo hi hb2)
      obtain ⟨q0, r0, hlo, hhi⟩ := hO2.cell_ (i := m * 2) (by omega)
      have HO2 := Lib.hid (hO2.set_ (i := m * 2) (by omega) (mkT (1 + (m : Int) * 2)))
      have HFR2 := Lib.hid (hfr2.setCell (p := ⟨g, m * 2, none⟩) hlo hhi (.string (mkT (1 + (m : Int) * 2))))
      clear hO2 hfr2 HO HFR hb2
      go_wp2_with fail
      clear q0 r0
      generalize w2.setCell ⟨g, m * 2, none⟩ (.string (mkT (1 + (m : Int) * 2))) = w3 at *
      refine (markText_any _ (by omega) (by omega) _).mono ?_
      rintro e w4 ⟨rfl, hb4⟩
      have hO4 := HO2.out.below hb4
      have hfr4 := HFR2.out.trans (Fr.of_below lo hi hb4)
      obtain ⟨q0, r0, _, _⟩ := hO4.cell_ (i := m * 2 + 1) (by omega)
      have HO4 := Lib.hid (hO4.set_ (i := m * 2 + 1) (by omega) (mkT (1 + (m : Int) * 2 + 1)))
      have HFR4 := Lib.hid (hfr4.setCell (p := ⟨g, m * 2 + 1, none⟩) hlo hhi (.string (mkT (1 + (m : Int) * 2 + 1))))
      clear hO4 hfr4 HO2 HFR2 hb4
      go_wp2_with fail
      go_roundw
      case rel =>
        refine ⟨m + 1, by omega, by go_num, by go_num, HO4.out.congr (fun j _ => ?_), HFR4.out⟩
        simp only [updT, markedT]
        by_cases h1 : j = m * 2 + 1
        · subst h1
          rw [if_pos rfl, if_pos (by omega)]
          congr 1
          all_goals (push_cast; omega)
        · rw [if_neg h1]
          by_cases h2 : j = m * 2
          · subst h2
            rw [if_pos rfl, if_pos (by omega)]
            congr 1
          · rw [if_neg h2]
            by_cases h3 : j < m * 2
            · rw [if_pos h3, if_pos (by omega)]
            · rw [if_neg h3, if_neg (by omega)]
      case measure => simp [intOf]; omega
    · have hmn : m = n := by omega
      go_wp2
      go_ret
      subst hmn
      exact ⟨rfl, hO.congr (fun j hj => by simp only [markedT]; rw [if_pos (by omega)]), hfr⟩
set_option maxRecDepth 100000 in
set_option maxHeartbeats 1000000 in
theorem heldLogRecordS_any (A : Option Addr) (n c lo hi : Nat) (w : World) (hs : SlT w lo hi 2 A n (fun j => mkT (1 + (j : Int)))) (hn : n ≤ 1048576) (hnc : n ≤ c) :
    Calls Tryd.prog 31 #[.slice A n c, .int .i64 1] w fun e w' => e = .returned (.int .i64 (1 + (n : Int) * 2)) ∧ Below w.heap.size w w' := by
  have HS : Hid (SlT w lo hi 2 A n (fun j => mkT (1 + (j : Int)))) := hs
  clear hs
  go_enter Tryd.func31, Tryd.ntmps31
  go_wp2
  go_loopw [1, 5] (fun kv i wr => ∃ m : Nat, m ≤ n ∧ i = .int .i64 m ∧ kv = .int .i64 (1 + (m : Int) * 2) ∧ Below w.heap.size w wr) (fun _ i _ => n - (intOf i).toNat)
  case atStart => exact ⟨0, Nat.zero_le _, rfl, by simp, Below.refl _ _⟩
  case round =>
    obtain ⟨m, hm, rfl, rfl, hbel⟩ := hrel
    by_cases hlt : m < n
    · obtain ⟨b, off, rfl, hb, HC⟩ := HS.out.open_ hbel (by omega)
      have h1 := cellT2 HC hlt
      have e1 : (1 + ((m * 2 : Nat) : Int)) = 1 + (m : Int) * 2 := by push_cast; rfl
      have e2 : (1 + ((m * 2 + 1 : Nat) : Int)) = 1 + (m : Int) * 2 + 1 := by push_cast; omega
      simp only [e1, e2] at h1
      have HF0 : Hid (∀ w', Below wr.heap.size wr w' → w'.cell? ⟨b, off + m * 2, none⟩ = some (.string (mkT (1 + (m : Int) * 2))) ∧ w'.cell? ⟨b, off + m * 2 + 1, none⟩ = some (.string (mkT (1 + (m : Int) * 2 + 1)))) := fun w' hq => ⟨(hq.cell (p := ⟨b, off + m * 2, none⟩) hb).trans h1.1, (hq.cell (p := ⟨b, off + m * 2 + 1, none⟩) hb).trans h1.2⟩
      have HF := HF0
      clear HC HS h1 e1 e2
      have hk0 : (0 : Int) ≤ (m : Int) := by omega
      have hk1 : (m : Int) < (n : Int) := by omega
      go_wp2_with fail
      refine wp_region_class (C := fun w' => Below (wr).heap.size (wr) w') (by kernel_rfl) (by kernel_rfl) ((Below.refl _ _).drew) ?_
      refine wpQuiet_take (d := 12) (v := ?_) (by rfl) ?_ ?_
      rotate_left
      · intro wS hS
        have eF := HF.out wS hS
        go_simp
        try with_reducible rfl
      simp only [Act.put, List.setIfInBounds_toArray, List.set_cons_zero, List.set_cons_succ]
      refine wpQuiet_take (d := 13) (v := ?_) (by rfl) ?_ ?_
      rotate_left
      · intro wS hS
        have eF := HF.out wS hS
        go_simp
        try with_reducible rfl
      simp only [Act.put, List.setIfInBounds_toArray, List.set_cons_zero, List.set_cons_succ]
      refine wpQuiet_take (d := 14) (v := ?_) (by rfl) ?_ ?_
      rotate_left
      · intro wS hS
        have eF := HF.out wS hS
        go_simp
        try with_reducible rfl
      simp only [Act.put, List.setIfInBounds_toArray, List.set_cons_zero, List.set_cons_succ]
      refine wpQuiet_take (d := 15) (v := ?_) (by rfl) ?_ ?_
      rotate_left
      · intro wS hS
        have eF := HF.out wS hS
        go_simp
        try with_reducible rfl
      simp only [Act.put, List.setIfInBounds_toArray, List.set_cons_zero, List.set_cons_succ]
      refine wpQuiet_take (d := 16) (v := ?_) (by rfl) ?_ ?_
      rotate_left
      · intro wS hS
        have eF := HF.out wS hS
        go_simp
        try with_reducible rfl
      simp only [Act.put, List.setIfInBounds_toArray, List.set_cons_zero, List.set_cons_succ]
      refine wpQuiet_take (d := 17) (v := ?_) (by rfl) ?_ ?_
      rotate_left
      · intro wS hS
        have eF := HF.out wS hS
        go_simp
        try with_reducible rfl
      simp only [Act.put, List.setIfInBounds_toArray, List.set_cons_zero, List.set_cons_succ]
      refine wpQuiet_meet (d := 18) (v := ?_) ?_ ?_ (by rfl) ?_ ?_ ?_
      rotate_left
      rotate_left
      rotate_left
      · intro wS hS
        have eF := HF.out wS hS
        go_simp
        first | with_reducible rfl | (refine ⟨?_, ?_⟩ <;> with_reducible rfl)
      · intro wS hS
        refine (markText_any _ (by omega) (by omega) wS).mono ?_
        rintro e w2 ⟨rfl, hb2⟩
        refine ⟨?_, hS.trans (hb2.mono hS.size)⟩
        with_reducible rfl
      simp only [Act.put, List.setIfInBounds_toArray, List.set_cons_zero, List.set_cons_succ]
      refine wpQuiet_take (d := 19) (v := ?_) (by rfl) ?_ ?_
      rotate_left
      · intro wS hS
        have eF := HF.out wS hS
        go_simp
        try with_reducible rfl
      simp only [Act.put, List.setIfInBounds_toArray, List.set_cons_zero, List.set_cons_succ]
      refine wpQuiet_nil (fun wq hHeld => ?_)
      go_wp2_with fail
      have hB1 := hHeld
      clear hHeld HF
      have HF : Hid (∀ w', Below wq.heap.size wq w' → w'.cell? ⟨b, off + m * 2, none⟩ = some (.string (mkT (1 + (m : Int) * 2))) ∧ w'.cell? ⟨b, off + m * 2 + 1, none⟩ = some (.string (mkT (1 + (m : Int) * 2 + 1)))) := fun w' hq => HF0.out w' (hB1.trans (hq.mono hB1.size))
      obtain ⟨wp, hwp⟩ : ∃ wp, wp = wq := ⟨_, rfl⟩
      subst hwp
      refine wp_region_class (C := fun w' => Below (wp).heap.size (wp) w') (by kernel_rfl) (by kernel_rfl) ((Below.refl _ _).drew) ?_
      refine wpQuiet_take (d := 22) (v := ?_) (by rfl) ?_ ?_
      rotate_left
      · intro wS hS
        have eF := HF.out wS hS
        go_simp
        try with_reducible rfl
      simp only [Act.put, List.setIfInBounds_toArray, List.set_cons_zero, List.set_cons_succ]
      refine wpQuiet_take (d := 23) (v := ?_) (by rfl) ?_ ?_
      rotate_left
      · intro wS hS
        have eF := HF.out wS hS
        go_simp
        try with_reducible rfl
      simp only [Act.put, List.setIfInBounds_toArray, List.set_cons_zero, List.set_cons_succ]
      refine wpQuiet_take (d := 24) (v := ?_) (by rfl) ?_ ?_
      rotate_left
      · intro wS hS
        have eF := HF.out wS hS
        go_simp
        try with_reducible rfl
      simp only [Act.put, List.setIfInBounds_toArray, List.set_cons_zero, List.set_cons_succ]
      refine wpQuiet_take (d := 25) (v := ?_) (by rfl) ?_ ?_
      rotate_left
      · intro wS hS
        have eF := HF.out wS hS
        go_simp
        try with_reducible rfl
      simp only [Act.put, List.setIfInBounds_toArray, List.set_cons_zero, List.set_cons_succ]
      refine wpQuiet_take (d := 26) (v := ?_) (by rfl) ?_ ?_
      rotate_left
      · intro wS hS
        have eF := HF.out wS hS
        go_simp
        try with_reducible rfl
      simp only [Act.put, List.setIfInBounds_toArray, List.set_cons_zero, List.set_cons_succ]
      refine wpQuiet_take (d := 27) (v := ?_) (by rfl) ?_ ?_
      rotate_left
      · intro wS hS
        have eF := HF.out wS hS
        go_simp
        try with_reducible rfl
      simp only [Act.put, List.setIfInBounds_toArray, List.set_cons_zero, List.set_cons_succ]
      refine wpQuiet_meet (d := 28) (v := ?_) ?_ ?_ (by rfl) ?_ ?_ ?_
      rotate_left
      rotate_left
      rotate_left
      · intro wS hS
        have eF := HF.out wS hS
        go_simp
        first | with_reducible rfl | (refine ⟨?_, ?_⟩ <;> with_reducible rfl)
      · intro wS hS
        refine (markText_any _ (by omega) (by omega) wS).mono ?_
        rintro e w2 ⟨rfl, hb2⟩
        refine ⟨?_, hS.trans (hb2.mono hS.size)⟩
        with_reducible rfl
      simp only [Act.put, List.setIfInBounds_toArray, List.set_cons_zero, List.set_cons_succ]
      refine wpQuiet_take (d := 29) (v := ?_) (by rfl) ?_ ?_
      rotate_left
      · intro wS hS
        have eF := HF.out wS hS
        go_simp
        try with_reducible rfl
      simp only [Act.put, List.setIfInBounds_toArray, List.set_cons_zero, List.set_cons_succ]
      refine wpQuiet_nil (fun wq hHeld => ?_)
      go_wp2_with fail
      go_roundw
      case rel => exact ⟨m + 1, by omega, by go_num, by go_num, below_of hbel (hB1.trans (hHeld.mono hB1.size)) hbel.size⟩
      case measure => simp [intOf]; omega
    · have hmn : m = n := by omega
      clear HS
      go_wp2
      go_ret
      subst hmn
      exact ⟨rfl, hbel⟩
end Go.Proofs.YtlngemecmchdcaaDoor
