/-
  Texts of this claim, merged.
-/
import Derived.Test.YtpndjhelpoenpaaGreatDoorZB16
set_option linter.unusedVariables false
set_option linter.unusedSimpArgs false
set_option maxRecDepth 100000
set_option maxHeartbeats 8000000
namespace Go.Proofs.YtpndjhelpoenpaaGreatDoor
open Go.RowKit
attribute [local go_sem ↓] Go.wp_at_zero Go.wp_at_succ
def mkGo : Nat → Nat → BA → BA
 | 0, _, o => o
 | m + 1, k, o => if k = 0 then o else mkGo m (k / 10) ((⟨#[UInt8.ofNat (48 + k % 10)]⟩ : BA) ++ o)
def mkT (k : Int) : BA := (⟨#[109]⟩ : BA) ++ mkGo 20 k.toNat ⟨#[]⟩
theorem mkGo_zero (m : Nat) (o : BA) : mkGo m 0 o = o := by cases m <;> simp [mkGo]
theorem markText_any (k0 : Int) (h1 : 1 ≤ k0) (h2 : k0 ≤ 1000000000000) (w : World) :
  Calls Tryz.prog 57 #[.int .i64 k0] w fun e w' => e = .returned (.string (mkT k0)) ∧ Below w.heap.size w w' := by
 obtain ⟨n, rfl⟩ : ∃ n : Nat, k0 = (n : Int) := ⟨k0.toNat, by omega⟩
 have HM : Hid (mkT (n : Int) = (⟨#[109]⟩ : BA) ++ mkGo 20 n ⟨#[]⟩) := by show mkT (n : Int) = _; unfold mkT; rw [Int.toNat_natCast]
 have hn20 : n < 10 ^ 20 := by omega
 go_enter Tryz.func57, Tryz.ntmps57
 go_wp2_with fail
 go_loopw [0, 3] (fun kv ov wr => ∃ (k m : Nat) (o : BA), kv = .int .i64 (k : Int) ∧ ov = .string o ∧ mkGo m k o = mkGo 20 n ⟨#[]⟩ ∧ k < 10 ^ m ∧ m ≤ 20 ∧ k ≤ 1000000000000 ∧ o.size + m ≤ 20 ∧ Below w.heap.size w wr) (fun kv _ _ => (intOf kv).toNat)
 case atStart => exact ⟨n, 20, ⟨#[]⟩, rfl, rfl, rfl, hn20, by omega, by omega, Nat.le_refl 20, Below.refl _ _⟩
 case round =>
  obtain ⟨k, m, o, rfl, rfl, hgo, hk, hm, hk9, hsz, hbel⟩ := hrel
  have HGO := lh hgo
  have HK := lh hk
  clear hgo hk hn20
  by_cases hk0 : 0 < k
  ·have p0 : (0 : Int) < (k : Int) := by omega
   have p1 : Int.tmod (k : Int) 10 = ((k % 10 : Nat) : Int) := by simp [Int.tmod]
   have p2 : Int.tdiv (k : Int) 10 = ((k / 10 : Nat) : Int) := by simp [Int.tdiv]
   have hr : k % 10 < 10 := Nat.mod_lt _ (by omega)
   have hb : ((UInt8.ofNat (48 + k % 10)).toNat : Int) = 48 + ((k % 10 : Nat) : Int) := by
    rw [UInt8.toNat_ofNat']
    have : (48 + k % 10) % 2 ^ 8 = 48 + k % 10 := Nat.mod_eq_of_lt (by omega)
    rw [this]; push_cast; rfl
   have hback : (convert 52 9 (.slice (some ⟨wr.heap.size, 0, none⟩) 1 1)).run Tryz.prog (wr.alloc (.cells #[.int .u8 (48 + (k : Int) % 10)] 5)) = .ok (.string ⟨#[UInt8.ofNat (48 + k % 10)]⟩) (wr.alloc (.cells #[.int .u8 (48 + (k : Int) % 10)] 5)) := by
    have h := run_convert_bytes_back (P := Tryz.prog) (wr.alloc (.cells #[.int .u8 (48 + (k : Int) % 10)] 5)) 52 9 5 ⟨wr.heap.size, 0, none⟩ 1 [UInt8.ofNat (48 + k % 10)] Tryz.underlying52 Tryz.underlying5 Tryz.underlying9 (fun j hj => ?_)
    ·exact h
    ·obtain rfl : j = 0 := by simpa using hj
     have he : (⟨wr.heap.size, 0, none⟩ : Addr).add 0 = ⟨wr.heap.size, 0, none⟩ := rfl
     rw [he, World.cell?_alloc_mark]
     have e2 : ([UInt8.ofNat (48 + k % 10)] : List UInt8)[0] = UInt8.ofNat (48 + k % 10) := rfl
     rw [e2, hb]
     simp
   obtain ⟨m, rfl⟩ : ∃ m', m = m' + 1 := by
    rcases Nat.eq_zero_or_pos m with h | h
    ·subst h; have := HK.out; simp at this; omega
    ·exact ⟨m - 1, by omega⟩
   have HG2 : Hid (mkGo m (k / 10) ((⟨#[UInt8.ofNat (48 + k % 10)]⟩ : BA) ++ o) = mkGo 20 n ⟨#[]⟩) := by
    show _ = _
    rw [← HGO.out, mkGo, if_neg (by omega)]
   have HK2 : Hid (k / 10 < 10 ^ m) := by
    show _ < _
    have := HK.out
    rw [Nat.pow_succ] at this
    exact Nat.div_lt_of_lt_mul (by omega)
   obtain ⟨B, hB⟩ : ∃ B : BA, (⟨#[UInt8.ofNat (48 + k % 10)]⟩ : BA) = B := ⟨_, rfl⟩
   have hB1 : B.size = 1 := by rw [← hB]; rfl
   rw [hB] at hback HG2
   have hso : B.size + o.size ≤ 4000000 := by omega
   have hso2 : (B ++ o).size = B.size + o.size := size_app B o
   clear HGO HK hb hB
   go_wp2_with fail
   go_roundw
   case rel => exact ⟨k / 10, m, B ++ o, by simp, rfl, HG2.out, HK2.out, by omega, by omega, by omega, hbel.alloc hbel.size _⟩
   case measure => simp [intOf]; omega
  ·obtain rfl : k = 0 := by omega
   have hz : mkGo m 0 o = o := mkGo_zero m o
   have hso : (1 : Nat) + o.size ≤ 4000000 := by omega
   go_wp2_with fail
   go_ret
   exact ⟨by rw [HM.out, ← HGO.out, hz]; rfl, hbel⟩
theorem eqStringS_same (A B : Option Addr) (n c d lo hi lo' hi' : Nat) (F : Nat → BA) (w : World) (hs : SlT w lo hi 1 A n F) (ht : SlT w lo' hi' 1 B n F) (hn : n ≤ 1048576) (hnc : n ≤ c) (hnd : n ≤ d) :
  Calls Tryz.prog 18 #[.slice A n c, .slice B n d] w fun e w' => e = .returned (.bool true) ∧ Below w.heap.size w w' := by
 have HS : Hid (SlT w lo hi 1 A n F) := hs
 have HT : Hid (SlT w lo' hi' 1 B n F) := ht
 clear hs ht
 go_enter Tryz.func18, Tryz.ntmps18
 go_wp2
 go_loopw [5] (fun i wr => ∃ k : Nat, k ≤ n ∧ i = .int .i64 k ∧ Below w.heap.size w wr) (fun i _ => n - (intOf i).toNat)
 case atStart => exact ⟨0, Nat.zero_le _, rfl, Below.refl _ _⟩
 case round =>
  obtain ⟨k, hk, rfl, hbel⟩ := hrel
  by_cases hlt : k < n
  ·obtain ⟨b, off, rfl, hb, HC⟩ := HS.out.open_ hbel (by omega)
   obtain ⟨b', off', rfl, hb', HD⟩ := HT.out.open_ hbel (by omega)
   have h1 : wr.cell? ⟨b, off + k, none⟩ = some (.string (F k)) := HC k (by omega)
   have h2 : wr.cell? ⟨b', off' + k, none⟩ = some (.string (F k)) := HD k (by omega)
   have HF : Hid (∀ w', Below wr.heap.size wr w' → _) := fun w' hq => And.intro (kp hq h1) (kp hq h2)
   clear HC HD HS HT h1 h2
   have hk0 : (0 : Int) ≤ (k : Int) := by omega
   have hk1 : (k : Int) < (n : Int) := by omega
   go_wp2_with fail
   refine wp_region_class (C := fun w' => Below (wr).heap.size (wr) w') (by kernel_rfl) (by kernel_rfl) ((Below.refl _ _).drew) ?_
   refine tr 17 HF ?_
   refine tr 18 HF ?_
   refine tr 19 HF ?_
   refine tr 20 HF ?_
   refine tr 21 HF ?_
   refine tr 22 HF ?_
   refine tr 23 HF ?_
   refine tr 24 HF ?_
   refine tr 25 HF ?_
   refine wpQuiet_nil (fun wq jd => ?_)
   go_wp2_with fail
   go_roundw
   case rel => exact ⟨k + 1, by omega, by go_num, below_of hbel jd hbel.size⟩
   case measure => simp [intOf]; omega
  ·clear HS HT
   go_wp2
   go_ret
   exact ⟨rfl, hbel⟩
def markedT (p : Nat) (F : Nat → BA) : Nat → BA := fun j => if j < p then mkT (1 + (j : Int)) else F j
theorem markStringS_any (A : Option Addr) (n c lo hi : Nat) (F : Nat → BA) (w : World) (hs : OwnT w lo hi 9 1 A n F) (hn : n ≤ 1048576) (hnc : n ≤ c) :
  Calls Tryz.prog 19 #[.slice A n c, .int .i64 1] w fun e w' => e = .returned (.int .i64 (1 + (n : Int))) ∧ OwnT w' lo hi 9 1 A n (fun j => mkT (1 + (j : Int))) ∧ Fr lo hi w w' := by
 have HS : Hid (OwnT w lo hi 9 1 A n F) := hs
 clear hs
 go_enter Tryz.func19, Tryz.ntmps19
 go_wp2
 go_loopw [1, 5] (fun kv i wr => ∃ m : Nat, m ≤ n ∧ i = .int .i64 m ∧ kv = .int .i64 (1 + (m : Int)) ∧ OwnT wr lo hi 9 1 A n (markedT m F) ∧ Fr lo hi w wr) (fun _ i _ => n - (intOf i).toNat)
 case atStart => exact ⟨0, Nat.zero_le _, rfl, by simp, HS.out.congr (fun j _ => by simp [markedT]), Fr.refl _ _ _⟩
 case round =>
  obtain ⟨m, hm, rfl, rfl, hO, hfr⟩ := hrel
  clear HS
  by_cases hlt : m < n
  ·obtain ⟨g, rfl⟩ := hO.addr (by omega)
   have hk0 : (0 : Int) ≤ (m : Int) := by omega
   have hk1 : (m : Int) < (n : Int) := by omega
   have HO := lh hO
   have HFR := lh hfr
   clear hO hfr
   go_wp2_with fail
   refine (markText_any _ (by omega) (by omega) _).mono ?_
   rintro e w2 ⟨rfl, hb2⟩
   have hO2 := HO.out.below hb2
   have hfr2 := HFR.out.trans (Fr.of_below lo hi hb2)
   obtain ⟨q0, r0, hlo, hhi⟩ := hO2.cell_ (i := m) (by omega)
   have HO2 := lh (hO2.set_ (i := m) (by omega) (mkT (1 + (m : Int))))
   have HFR2 := lh (hfr2.setCell (p := ⟨g, m, none⟩) hlo hhi (.string (mkT (1 + (m : Int)))))
   clear hO2 hfr2 HO HFR hb2
   go_wp2_with fail
   go_roundw
   case rel =>
    refine ⟨m + 1, by omega, by go_num, by go_num, HO2.out.congr (fun j _ => ?_), HFR2.out⟩
    simp only [updT, markedT]
    by_cases h1 : j = m
    ·subst h1
     rw [if_pos rfl, if_pos (by omega)]
    ·rw [if_neg h1]
     by_cases h3 : j < m
     ·rw [if_pos h3, if_pos (by omega)]
     ·rw [if_neg h3, if_neg (by omega)]
   case measure => simp [intOf]; omega
  ·have hmn : m = n := by omega
   go_wp2
   go_ret
   subst hmn
   exact ⟨rfl, hO.congr (fun j hj => by simp only [markedT]; rw [if_pos (by omega)]), hfr⟩
theorem heldStringS_any (A : Option Addr) (n c lo hi : Nat) (w : World) (hs : SlT w lo hi 1 A n (fun j => mkT (1 + (j : Int)))) (hn : n ≤ 1048576) (hnc : n ≤ c) :
  Calls Tryz.prog 20 #[.slice A n c, .int .i64 1] w fun e w' => e = .returned (.int .i64 (1 + (n : Int))) ∧ Below w.heap.size w w' := by
 have HS : Hid (SlT w lo hi 1 A n (fun j => mkT (1 + (j : Int)))) := hs
 clear hs
 go_enter Tryz.func20, Tryz.ntmps20
 go_wp2
 go_loopw [1, 5] (fun kv i wr => ∃ m : Nat, m ≤ n ∧ i = .int .i64 m ∧ kv = .int .i64 (1 + (m : Int)) ∧ Below w.heap.size w wr) (fun _ i _ => n - (intOf i).toNat)
 case atStart => exact ⟨0, Nat.zero_le _, rfl, by simp, Below.refl _ _⟩
 case round =>
  obtain ⟨m, hm, rfl, rfl, hbel⟩ := hrel
  by_cases hlt : m < n
  ·obtain ⟨b, off, rfl, hb, HC⟩ := HS.out.open_ hbel (by omega)
   have h1 : wr.cell? ⟨b, off + m, none⟩ = some (.string (mkT (1 + (m : Int)))) := HC m (by omega)
   have HF : Hid (∀ w', Below wr.heap.size wr w' → w'.cell? ⟨b, off + m, none⟩ = some (.string (mkT (1 + (m : Int))))) := fun w' hq => kp hq h1
   clear HC HS h1
   have hk0 : (0 : Int) ≤ (m : Int) := by omega
   have hk1 : (m : Int) < (n : Int) := by omega
   go_wp2_with fail
   refine wp_region_class (C := fun w' => Below (wr).heap.size (wr) w') (by kernel_rfl) (by kernel_rfl) ((Below.refl _ _).drew) ?_
   refine tr 12 HF ?_
   refine tr 13 HF ?_
   refine tr 14 HF ?_
   refine tr 15 HF ?_
   refine tr 16 HF ?_
   refine wpQuiet_meet (d := 17) (v := ?_) ?_ ?_ (by rfl) ?_ ?_ ?_
   rotate_left
   rotate_left
   rotate_left
   ·intro wS hS
    have eF := HF.out wS hS
    go_simp
    first | with_reducible rfl | (refine ⟨?_, ?_⟩ <;> with_reducible rfl)
   ·intro wS hS
    refine (markText_any _ (by omega) (by omega) wS).mono ?_
    rintro e w2 ⟨rfl, hb2⟩
    refine ⟨?_, hS.trans (hb2.mono hS.size)⟩
    with_reducible rfl
   simp only [Act.put, p1, p2, p3]
   refine tr 18 HF ?_
   refine wpQuiet_nil (fun wq jd => ?_)
   go_wp2_with fail
   go_roundw
   case rel => exact ⟨m + 1, by omega, by go_num, by go_num, below_of hbel jd hbel.size⟩
   case measure => simp [intOf]; omega
  ·have hmn : m = n := by omega
   clear HS
   go_wp2
   go_ret
   subst hmn
   exact ⟨rfl, hbel⟩
end Go.Proofs.YtpndjhelpoenpaaGreatDoor
namespace Go.Proofs.YtpndjhelpoenpaaGreatDoor
open Go.RowKit
theorem toConsole_any (A : Option Addr) (n c lo hi : Nat) (f : Nat → Int) (I H S P : Int) (D Q : ByteArray) (z : Int) (w : World) (hs : Sl w lo hi 4 A n f) (hn : n ≤ 1048576) (hnc : n ≤ c) :
  Calls Tryz.prog 11 #[.agg #[.slice A n c, .int .i64 I, .int .i64 H, .int .i64 S, .int .i64 P, .string D, .string Q, .int .i64 z]] w fun e w' => ∃ g, e = .returned (.agg #[.slice (some ⟨g, 0, none⟩) n n, .int .i64 I, .int .i64 H, .int .i64 S, .int .i64 P, .string D, .string Q, .int .i64 z]) ∧ w.heap.size ≤ g ∧ g < w'.heap.size ∧ Own w' g (g + 1) 97 4 (some ⟨g, 0, none⟩) n f ∧ Below w.heap.size w w' := by
 obtain ⟨hX, h0, h1, h2⟩ := bl3 w (.cells #[.slice A n c, .int .i64 I, .int .i64 H, .int .i64 S, .int .i64 P, .string D, .string Q, .int .i64 z] 28) (.cells #[.slice none 0 0, .int .i64 0, .int .i64 0, .int .i64 0, .int .i64 0, .string ⟨#[]⟩, .string ⟨#[]⟩, .int .i64 0] 35) (.cells #[.slice none 0 0, .int .i64 0, .int .i64 0, .int .i64 0, .int .i64 0, .string ⟨#[]⟩, .string ⟨#[]⟩, .int .i64 0] 35)
 have hS := hs.below hX
 clear hs
 go_enter Tryz.func11, Tryz.ntmps11
 go_upto_region 2 with fail
 refine name_wp ?_
 intro w1 hw1
 rw [← hw1] at hX h0 h1 h2 hS
 have hz1 : w1.heap.size = w.heap.size + 3 := by rw [hw1]; simp
 clear hw1
 generalize hRq : w.heap.size + 1 = R1 at *
 generalize hOq : R1 + 1 = O1 at *
 have hwR : w.heap.size < R1 := by omega
 have hRO : R1 < O1 := by omega
 have hwO : w.heap.size < O1 := by omega
 have hOz : O1 < w1.heap.size := by omega
 have HRq := lh hRq
 have HOq := lh hOq
 have HZ1 := lh hz1
 clear hRq hOq hz1
 obtain ⟨e0, e1, e2, e3, e4, e5, e6, e7⟩ := cells8 h0
 go_wp2_with fail
 refine (toWorks_any A n c lo hi f I H S P w1 hS hn hnc).mono ?_
 rintro e w2 ⟨gt, rfl, lt2, kt2, hot, hb⟩
 have h0 := rowC h0 hb
 have h1 := rowC h1 hb
 have h2 := rowC h2 hb
 have hX := below_of hX hb hX.size
 have hgt : O1 < gt := by omega
 have hgw : w.heap.size ≤ gt := by omega
 clear hb hS e0 e1 e2 e3 e4 e5 e6 e7
 obtain ⟨e0, e1, e2, e3, e4, e5, e6, e7⟩ := cells8 h0
 obtain ⟨o0, o1, o2, o3, o4, o5, o6, o7⟩ := cells8 h2
 have of := fz h2
 go_upto_region 3 with fail
 refine name_wp ?_
 intro w3 hw3'
 have hw3 : w3 = (((((w2.setCell ⟨O1, 0, none⟩ (.slice (some ⟨gt, 0, none⟩) n n)).setCell ⟨O1, 1, none⟩ (.int .i64 I)).setCell ⟨O1, 2, none⟩ (.int .i64 H)).setCell ⟨O1, 3, none⟩ (.int .i64 S)).setCell ⟨O1, 4, none⟩ (.int .i64 P)) := hw3'
 have hF : Fr (O1) (O1 + 1) w2 w3 := by
  rw [hw3]
  exact (frS (frS (frS (frS (frS (Fr.refl _ _ _) _ _) _ _) _ _) _ _) _ _)
 have h23 : w3.heap[O1]? = some (.cells #[.slice (some ⟨gt, 0, none⟩) n n, .int .i64 I, .int .i64 H, .int .i64 S, .int .i64 P, .string ⟨#[]⟩, .string ⟨#[]⟩, .int .i64 0] 35 (0, 0)) := by
  rw [hw3]
  exact (heap_setCell_same _ (O1) 4 #[.slice (some ⟨gt, 0, none⟩) n n, .int .i64 I, .int .i64 H, .int .i64 S, .int .i64 0, .string ⟨#[]⟩, .string ⟨#[]⟩, .int .i64 0] 35 (.int .i64 P) (heap_setCell_same _ (O1) 3 #[.slice (some ⟨gt, 0, none⟩) n n, .int .i64 I, .int .i64 H, .int .i64 0, .int .i64 0, .string ⟨#[]⟩, .string ⟨#[]⟩, .int .i64 0] 35 (.int .i64 S) (heap_setCell_same _ (O1) 2 #[.slice (some ⟨gt, 0, none⟩) n n, .int .i64 I, .int .i64 0, .int .i64 0, .int .i64 0, .string ⟨#[]⟩, .string ⟨#[]⟩, .int .i64 0] 35 (.int .i64 H) (heap_setCell_same _ (O1) 1 #[.slice (some ⟨gt, 0, none⟩) n n, .int .i64 0, .int .i64 0, .int .i64 0, .int .i64 0, .string ⟨#[]⟩, .string ⟨#[]⟩, .int .i64 0] 35 (.int .i64 I) (heap_setCell_same _ (O1) 0 #[.slice none 0 0, .int .i64 0, .int .i64 0, .int .i64 0, .int .i64 0, .string ⟨#[]⟩, .string ⟨#[]⟩, .int .i64 0] 35 (.slice (some ⟨gt, 0, none⟩) n n) h2)))))
 have h03 := rowG h0 hF (Or.inl (by omega))
 have h13 := rowG h1 hF (Or.inl (by omega))
 have hot3 := hot.fr hF (Or.inr (by omega))
 have hX3 : Below w.heap.size w w3 := hX.trans (hF.below (by omega) hX.size)
 clear hw3' hw3 hF h0 h1 h2 hot hX e0 e1 e2 e3 e4 e5 e6 e7 of o0 o1 o2 o3 o4 o5 o6 o7
 obtain ⟨e0, e1, e2, e3, e4, e5, e6, e7⟩ := cells8 h03
 go_wp2_with fail
 refine (toLog_any D Q z w3).mono ?_
 rintro e w4 ⟨rfl, hb⟩
 have h04 := rowC h03 hb
 have h14 := rowC h13 hb
 have h24 := rowC h23 hb
 have hX4 := below_of hX3 hb hX3.size
 have hot4 := hot3.below hb
 clear hb h03 h13 h23 hot3 hX3 h04 e0 e1 e2 e3 e4 e5 e6 e7
 obtain ⟨o0, o1, o2, o3, o4, o5, o6, o7⟩ := cells8 h24
 have of := fz h24
 have HO5 := lh h24
 go_upto_region 4 with fail
 refine name_wp ?_
 intro w5 hw5'
 have hw5 : w5 = (((w4.setCell ⟨O1, 5, none⟩ (.string D)).setCell ⟨O1, 6, none⟩ (.string Q)).setCell ⟨O1, 7, none⟩ (.int .i64 z)) := hw5'
 have hF : Fr (O1) (O1 + 1) w4 w5 := by
  rw [hw5]
  exact (frS (frS (frS (Fr.refl _ _ _) _ _) _ _) _ _)
 have h25 : w5.heap[O1]? = some (.cells #[.slice (some ⟨gt, 0, none⟩) n n, .int .i64 I, .int .i64 H, .int .i64 S, .int .i64 P, .string D, .string Q, .int .i64 z] 35 (0, 0)) := by
  rw [hw5]
  exact (heap_setCell_same _ (O1) 7 #[.slice (some ⟨gt, 0, none⟩) n n, .int .i64 I, .int .i64 H, .int .i64 S, .int .i64 P, .string D, .string Q, .int .i64 0] 35 (.int .i64 z) (heap_setCell_same _ (O1) 6 #[.slice (some ⟨gt, 0, none⟩) n n, .int .i64 I, .int .i64 H, .int .i64 S, .int .i64 P, .string D, .string ⟨#[]⟩, .int .i64 0] 35 (.string Q) (heap_setCell_same _ (O1) 5 #[.slice (some ⟨gt, 0, none⟩) n n, .int .i64 I, .int .i64 H, .int .i64 S, .int .i64 P, .string ⟨#[]⟩, .string ⟨#[]⟩, .int .i64 0] 35 (.string D) HO5.out)))
 have h15 := rowG h14 hF (Or.inl (by omega))
 have hot5 := hot4.fr hF (Or.inr (by omega))
 have hX5 : Below w.heap.size w w5 := hX4.trans (hF.below (by omega) hX4.size)
 clear hw5' hw5 hF h14 h24 hot4 hX4 HO5 of o0 o1 o2 o3 o4 o5 o6 o7
 obtain ⟨o0, o1, o2, o3, o4, o5, o6, o7⟩ := cells8 h25
 obtain ⟨r0, r1, r2, r3, r4, r5, r6, r7⟩ := cells8 h15
 have rf := fz h15
 have nRO : R1 ≠ O1 := by omega
 have nOR : O1 ≠ R1 := by omega
 have HLE := lh (⟨hwR, hRO, hgt, hgw⟩ : w.heap.size < R1 ∧ R1 < O1 ∧ O1 < gt ∧ w.heap.size ≤ gt)
 clear hRO hwR hwO hOz hgt hgw
 have HX5 := lh hX5
 have HOT := lh hot5
 clear h25 h15 hX5 hot5
 go_wp2
 obtain ⟨wq, hwq⟩ : ∃ wq, wq = ((((((((w5.setCell ⟨R1, 0, none⟩ (.slice (some ⟨gt, 0, none⟩) n n)).setCell ⟨R1, 1, none⟩ (.int .i64 I)).setCell ⟨R1, 2, none⟩ (.int .i64 H)).setCell ⟨R1, 3, none⟩ (.int .i64 S)).setCell ⟨R1, 4, none⟩ (.int .i64 P)).setCell ⟨R1, 5, none⟩ (.string D)).setCell ⟨R1, 6, none⟩ (.string Q)).setCell ⟨R1, 7, none⟩ (.int .i64 z)) := ⟨_, rfl⟩
 rw [← hwq]
 have u0 : wq.cell? ⟨R1, 0, none⟩ = some (.slice (some ⟨gt, 0, none⟩) n n) := by rw [hwq]; go_simp
 have u1 : wq.cell? ⟨R1, 1, none⟩ = some (.int .i64 I) := by rw [hwq]; go_simp
 have u2 : wq.cell? ⟨R1, 2, none⟩ = some (.int .i64 H) := by rw [hwq]; go_simp
 have u3 : wq.cell? ⟨R1, 3, none⟩ = some (.int .i64 S) := by rw [hwq]; go_simp
 have u4 : wq.cell? ⟨R1, 4, none⟩ = some (.int .i64 P) := by rw [hwq]; go_simp
 have u5 : wq.cell? ⟨R1, 5, none⟩ = some (.string D) := by rw [hwq]; go_simp
 have u6 : wq.cell? ⟨R1, 6, none⟩ = some (.string Q) := by rw [hwq]; go_simp
 have u7 : wq.cell? ⟨R1, 7, none⟩ = some (.int .i64 z) := by rw [hwq]; go_simp
 have hF : Fr (R1) (R1 + 1) w5 wq := by
  rw [hwq]
  exact (frS (frS (frS (frS (frS (frS (frS (frS (Fr.refl _ _ _) _ _) _ _) _ _) _ _) _ _) _ _) _ _) _ _)
 clear hwq
 try simp only [Exit.inBlock, Exit.then]
 refine bodyPost_ret (by simp [results, Tryz.results11, go_sem, u0, u1, u2, u3, u4, u5, u6, u7]; try rfl) rfl ?_
 obtain ⟨q1, q2, q3, q4⟩ := HLE.out
 refine ⟨gt, rfl, by omega, ?_, HOT.out.fr hF (Or.inr (by omega)), HX5.out.trans (hF.below (by omega) HX5.out.size)⟩
 have h1 := HOT.out.hi_le
 have h2 := hF.size
 omega
theorem szLog_at (D Q : ByteArray) (z L : Int) (w : World) (hL : 0 ≤ L) (hM : L ≤ 1048576) (h : (D.size : Int) + (Q.size : Int) ≤ L) :
  Calls Tryz.prog 21 #[.agg #[.string D, .string Q, .int .i64 z], .int .i64 L] w fun e w' => e = .returned (.int .i64 (L - D.size - Q.size)) ∧ Below w.heap.size w w' := by
 go_enter Tryz.func21, Tryz.ntmps21
 go_wp2
 go_ret
 exact ⟨rfl, by go_grown⟩
theorem szLog_no (D Q : ByteArray) (z L : Int) (w : World) (hL : 0 ≤ L) (hM : L ≤ 1048576) (hc : (D.size : Int) ≤ 9223372036854775807) (hr : (Q.size : Int) ≤ 9223372036854775807) (h : L < (D.size : Int) + (Q.size : Int)) :
  Calls Tryz.prog 21 #[.agg #[.string D, .string Q, .int .i64 z], .int .i64 L] w fun e w' => e = .returned (.int .i64 (-1)) ∧ Below w.heap.size w w' := by
 by_cases h1 : L < (D.size : Int)
 ·go_enter Tryz.func21, Tryz.ntmps21
  go_wp2
  go_ret
  exact ⟨rfl, by go_grown⟩
 ·go_enter Tryz.func21, Tryz.ntmps21
  go_wp2
  go_ret
  exact ⟨rfl, by go_grown⟩
theorem szConsole_works (A : Option Addr) (n c : Nat) (I H S P : Int) (D Q : ByteArray) (z : Int) (w : World) (hm0 : (n : Int) ≤ 9223372036854775807) (h : 1048576 < (n : Int)) :
  Calls Tryz.prog 9 #[.agg #[.slice A n c, .int .i64 I, .int .i64 H, .int .i64 S, .int .i64 P, .string D, .string Q, .int .i64 z], .int .i64 1048576] w fun e w' => e = .returned (.int .i64 (-1)) ∧ Below w.heap.size w w' := by
 obtain ⟨hX, h0⟩ := bl1 w (.cells #[.slice A n c, .int .i64 I, .int .i64 H, .int .i64 S, .int .i64 P, .string D, .string Q, .int .i64 z] 28)
 go_enter Tryz.func9, Tryz.ntmps9
 go_upto_region 1 with fail
 refine name_wp ?_
 intro w1 hw1
 rw [← hw1] at hX h0
 clear hw1
 obtain ⟨e0, e1, e2, e3, e4, e5, e6, e7⟩ := cells8 h0
 go_wp2_with fail
 refine (szWorks_big A n c I H S P 1048576 w1 hm0 (by omega) (by omega) h).mono ?_
 rintro e w2 ⟨rfl, hb⟩
 have hX := below_of hX hb hX.size
 go_wp2
 go_ret
 exact ⟨rfl, hX⟩
theorem szConsole_log (A : Option Addr) (n c : Nat) (I H S P : Int) (D Q : ByteArray) (z : Int) (w : World) (hn : (n : Int) ≤ 1048576) (hc : (D.size : Int) ≤ 9223372036854775807) (hr : (Q.size : Int) ≤ 9223372036854775807) (h : 1048576 - (n : Int) < (D.size : Int) + (Q.size : Int)) :
  Calls Tryz.prog 9 #[.agg #[.slice A n c, .int .i64 I, .int .i64 H, .int .i64 S, .int .i64 P, .string D, .string Q, .int .i64 z], .int .i64 1048576] w fun e w' => e = .returned (.int .i64 (-1)) ∧ Below w.heap.size w w' := by
 obtain ⟨hX, h0⟩ := bl1 w (.cells #[.slice A n c, .int .i64 I, .int .i64 H, .int .i64 S, .int .i64 P, .string D, .string Q, .int .i64 z] 28)
 go_enter Tryz.func9, Tryz.ntmps9
 go_upto_region 1 with fail
 refine name_wp ?_
 intro w1 hw1
 rw [← hw1] at hX h0
 clear hw1
 obtain ⟨e0, e1, e2, e3, e4, e5, e6, e7⟩ := cells8 h0
 go_wp2_with fail
 refine (szWorks_ok A n c I H S P 1048576 w1 (by omega) (by omega) hn).mono ?_
 rintro e w2 ⟨rfl, hb⟩
 have h0 := rowC h0 hb
 have hX := below_of hX hb hX.size
 clear hb e0 e1 e2 e3 e4 e5 e6 e7
 obtain ⟨e0, e1, e2, e3, e4, e5, e6, e7⟩ := cells8 h0
 have hL0 : ¬ (1048576 - (n : Int) < 0) := by omega
 go_wp2_with fail
 refine (szLog_no D Q z (1048576 - (n : Int)) w2 (by omega) (by omega) hc hr h).mono ?_
 rintro e w3 ⟨rfl, hb⟩
 have hX := below_of hX hb hX.size
 go_wp2
 go_ret
 exact ⟨rfl, hX⟩
theorem szConsole_ok (A : Option Addr) (n c : Nat) (I H S P : Int) (D Q : ByteArray) (z : Int) (w : World) (hn : (n : Int) ≤ 1048576) (h : (D.size : Int) + (Q.size : Int) ≤ 1048576 - (n : Int)) :
  Calls Tryz.prog 9 #[.agg #[.slice A n c, .int .i64 I, .int .i64 H, .int .i64 S, .int .i64 P, .string D, .string Q, .int .i64 z], .int .i64 1048576] w fun e w' => e = .returned (.int .i64 (1048576 - (n : Int) - D.size - Q.size)) ∧ Below w.heap.size w w' := by
 obtain ⟨hX, h0⟩ := bl1 w (.cells #[.slice A n c, .int .i64 I, .int .i64 H, .int .i64 S, .int .i64 P, .string D, .string Q, .int .i64 z] 28)
 go_enter Tryz.func9, Tryz.ntmps9
 go_upto_region 1 with fail
 refine name_wp ?_
 intro w1 hw1
 rw [← hw1] at hX h0
 clear hw1
 obtain ⟨e0, e1, e2, e3, e4, e5, e6, e7⟩ := cells8 h0
 go_wp2_with fail
 refine (szWorks_ok A n c I H S P 1048576 w1 (by omega) (by omega) hn).mono ?_
 rintro e w2 ⟨rfl, hb⟩
 have h0 := rowC h0 hb
 have hX := below_of hX hb hX.size
 clear hb e0 e1 e2 e3 e4 e5 e6 e7
 obtain ⟨e0, e1, e2, e3, e4, e5, e6, e7⟩ := cells8 h0
 have hL0 : ¬ (1048576 - (n : Int) < 0) := by omega
 go_wp2_with fail
 refine (szLog_at D Q z (1048576 - (n : Int)) w2 (by omega) (by omega) h).mono ?_
 rintro e w3 ⟨rfl, hb⟩
 have hX := below_of hX hb hX.size
 have hL1 : ¬ (1048576 - (n : Int) - (D.size : Int) - (Q.size : Int) < 0) := by omega
 go_wp2
 go_ret
 exact ⟨rfl, hX⟩
theorem eqConsole_same (A A' : Option Addr) (n c d lo hi lo' hi' : Nat) (f : Nat → Int) (I H S P : Int) (D Q : ByteArray) (z : Int) (w : World) (hs : Sl w lo hi 4 A n f) (ht : Sl w lo' hi' 4 A' n f) (hn : n ≤ 1048576) (hnc : n ≤ c) (hnd : n ≤ d) :
  Calls Tryz.prog 13 #[.agg #[.slice A n c, .int .i64 I, .int .i64 H, .int .i64 S, .int .i64 P, .string D, .string Q, .int .i64 z], .agg #[.slice A' n d, .int .i64 I, .int .i64 H, .int .i64 S, .int .i64 P, .string D, .string Q, .int .i64 z]] w fun e w' => e = .returned (.bool true) ∧ Below w.heap.size w w' := by
 have hX : Below w.heap.size w ((w.alloc (.cells #[.slice A n c, .int .i64 I, .int .i64 H, .int .i64 S, .int .i64 P, .string D, .string Q, .int .i64 z] 35)).alloc (.cells #[.slice A' n d, .int .i64 I, .int .i64 H, .int .i64 S, .int .i64 P, .string D, .string Q, .int .i64 z] 35)) := ((Below.refl _ w).alloc (Nat.le_refl _) _).alloc (by simp) _
 have HS := lh (hs.below hX)
 have HT := lh (ht.below hX)
 have h1 : ((w.alloc (.cells #[.slice A n c, .int .i64 I, .int .i64 H, .int .i64 S, .int .i64 P, .string D, .string Q, .int .i64 z] 35)).alloc (.cells #[.slice A' n d, .int .i64 I, .int .i64 H, .int .i64 S, .int .i64 P, .string D, .string Q, .int .i64 z] 35)).heap[w.heap.size]? = some (.cells #[.slice A n c, .int .i64 I, .int .i64 H, .int .i64 S, .int .i64 P, .string D, .string Q, .int .i64 z] 35 (0, 0)) := by
  rw [heap_alloc_old _ _ (by simp)]
  exact heap_alloc_new w _
 have h2 : ((w.alloc (.cells #[.slice A n c, .int .i64 I, .int .i64 H, .int .i64 S, .int .i64 P, .string D, .string Q, .int .i64 z] 35)).alloc (.cells #[.slice A' n d, .int .i64 I, .int .i64 H, .int .i64 S, .int .i64 P, .string D, .string Q, .int .i64 z] 35)).heap[w.heap.size + 1]? = some (.cells #[.slice A' n d, .int .i64 I, .int .i64 H, .int .i64 S, .int .i64 P, .string D, .string Q, .int .i64 z] 35 (0, 0)) := by
  have h := heap_alloc_new (w.alloc (.cells #[.slice A n c, .int .i64 I, .int .i64 H, .int .i64 S, .int .i64 P, .string D, .string Q, .int .i64 z] 35)) (.cells #[.slice A' n d, .int .i64 I, .int .i64 H, .int .i64 S, .int .i64 P, .string D, .string Q, .int .i64 z] 35)
  simpa using h
 clear hs ht
 go_enter Tryz.func13, Tryz.ntmps13
 go_upto_region 1 with fail
 refine name_wp ?_
 intro w1 hw1
 rw [← hw1] at HS HT hX h1 h2
 clear hw1
 obtain ⟨e0, e1, e2, e3, e4, e5, e6, e7⟩ := cells8 h1
 obtain ⟨y0, y1, y2, y3, y4, y5, y6, y7⟩ := cells8 h2
 go_wp2_with fail
 refine (eqWorks_same A A' n c d lo hi lo' hi' f I H S P w1 HS.out HT.out hn hnc hnd).mono ?_
 rintro e w2 ⟨rfl, hb⟩
 have h1 := rowC h1 hb
 have h2 := rowC h2 hb
 have B2 := below_of hX hb hX.size
 clear hb hX e0 e1 e2 e3 e4 e5 e6 e7 y0 y1 y2 y3 y4 y5 y6 y7
 obtain ⟨e0, e1, e2, e3, e4, e5, e6, e7⟩ := cells8 h1
 obtain ⟨y0, y1, y2, y3, y4, y5, y6, y7⟩ := cells8 h2
 have HB := lh B2
 clear h1 h2 B2
 go_wp2_with fail
 refine (eqLog_same D Q z w2).mono ?_
 rintro e w3 ⟨rfl, hb⟩
 have B3 := below_of HB.out hb HB.out.size
 go_wp2
 go_ret
 exact ⟨rfl, B3⟩
theorem markWorks_any (A : Option Addr) (n c lo hi : Nat) (k0 : Int) (f : Nat → Int) (I H S P : Int) (w : World) (hs : Own w lo hi 97 4 A n f) (hn : n ≤ 1048576) (hnc : n ≤ c) (h0 : 0 ≤ k0) (h1 : k0 ≤ 1000000) :
  Calls Tryz.prog 54 #[.agg #[.slice A n c, .int .i64 I, .int .i64 H, .int .i64 S, .int .i64 P], .int .i64 k0] w fun e w' => e = .returned (.int .i64 (k0 + (n : Int) * 4)) ∧ Own w' lo hi 97 4 A n (fun j => k0 + j) ∧ Fr lo hi w w' := by
 have hal := (Below.refl _ w).alloc (Nat.le_refl _) (.cells #[.slice A n c, .int .i64 I, .int .i64 H, .int .i64 S, .int .i64 P] 32)
 have HS := lh (hs.below hal)
 have HF := lh (Fr.of_below lo hi hal)
 clear hs hal
 go_enter Tryz.func54, Tryz.ntmps54
 go_wp2_with fail
 refine (markPanS_any A n c lo hi k0 f _ HS.out hn hnc h0 (by omega)).mono ?_
 rintro e w2 ⟨rfl, ho, hr⟩
 have HO := lh ho
 have HR := lh (HF.out.trans hr)
 clear ho hr
 go_wp2
 go_ret
 exact ⟨rfl, HO.out, HR.out⟩
theorem markConsole_any (A' : Option Addr) (n c lo hi : Nat) (k0 : Int) (f : Nat → Int) (I H S P : Int) (D Q : ByteArray) (z : Int) (w : World) (hs : Own w lo hi 97 4 A' n f) (hn : n ≤ 1048576) (hnc : n ≤ c) (h0 : 0 ≤ k0) (h1 : k0 ≤ 1000000) :
  Calls Tryz.prog 14 #[.agg #[.slice A' n c, .int .i64 I, .int .i64 H, .int .i64 S, .int .i64 P, .string D, .string Q, .int .i64 z], .int .i64 k0] w fun e w' => e = .returned (.int .i64 (k0 + (n : Int) * 4)) ∧ Own w' lo hi 97 4 A' n (fun j => k0 + j) ∧ Fr lo hi w w' := by
 have hal := (Below.refl _ w).alloc (Nat.le_refl _) (.cells #[.slice A' n c, .int .i64 I, .int .i64 H, .int .i64 S, .int .i64 P, .string D, .string Q, .int .i64 z] 35)
 have HS := lh (hs.below hal)
 have HF := lh (Fr.of_below lo hi hal)
 clear hs hal
 go_enter Tryz.func14, Tryz.ntmps14
 go_wp2_with fail
 refine (markWorks_any A' n c lo hi k0 f I H S P _ HS.out hn hnc h0 (by omega)).mono ?_
 rintro e w2 ⟨rfl, ho, hr⟩
 have HO := lh ho
 have HR := lh (HF.out.trans hr)
 clear ho hr
 go_wp2
 go_ret
 exact ⟨rfl, HO.out, HR.out⟩
theorem sc_len (c : CS) (s : ByteArray) : (scL c s).length ≤ 1048576 := by
 unfold scL
 split
 ·rename_i h
  rw [rpL_len]
  simp only [scOk, Bool.and_eq_true, decide_eq_true_eq] at h
  omega
 ·exact Nat.zero_le _
theorem sc_own {c : CS} {s : ByteArray} {w w' : World} {e : Ending} (h : ScPost c s w e w') :
  ∃ A' c' lo' hi', e = .returned (.tuple #[.slice A' (scL c s).length c', .bool (scOk c s)]) ∧ (scL c s).length ≤ c' ∧ w.heap.size ≤ lo' ∧ OwnT w' lo' hi' 9 1 A' (scL c s).length (fun j => (scL c s).getD j ⟨#[]⟩) ∧ Below w.heap.size w w' := by
 obtain ⟨v, rfl, ho, hb⟩ := h
 obtain ⟨A', c', rfl, h1, h2, h3⟩ := ownT_of_row ho
 exact ⟨A', c', _, _, rfl, h1, Nat.le_refl _, h3, hb⟩
theorem FnExactRunScript_walk (A0 : Option Addr) (n0 c0 : Nat) (f0 : Nat → Int) (I0 H0 S0 P0 : Int) (s0 t0 : ByteArray) (z0 : Int) (u0 : ByteArray) (w : World) (hnc0 : n0 ≤ c0) (hcm0 : c0 ≤ maxLen) (hs0 : Sl w 0 w.heap.size 4 A0 n0 f0) (hss0 : s0.size ≤ maxLen) (hst0 : t0.size ≤ maxLen) (hsu0 : u0.size ≤ maxLen) (ht : Tab w) (hm : Mx w) (he : Er w) :
  Calls Tryz.prog 4 #[.agg #[.slice A0 n0 c0, .int .i64 I0, .int .i64 H0, .int .i64 S0, .int .i64 P0, .string s0, .string t0, .int .i64 z0], .string u0] w fun e w' => e = .returned (.bool true) ∧ Below w.heap.size w w' := by
 have hm0 : (n0 : Int) ≤ 9223372036854775807 := by unfold maxLen at hcm0; omega
 have hd0 : (s0.size : Int) ≤ 9223372036854775807 := by unfold maxLen at hss0; omega
 have hq0 : (t0.size : Int) ≤ 9223372036854775807 := by unfold maxLen at hst0; omega
 have hu0 : (u0.size : Int) ≤ 9223372036854775807 := by unfold maxLen at hsu0; omega
 have HAL : Below w.heap.size w (w.alloc (.cells #[.slice A0 n0 c0, .int .i64 I0, .int .i64 H0, .int .i64 S0, .int .i64 P0, .string s0, .string t0, .int .i64 z0] 28)) := (Below.refl _ w).alloc (Nat.le_refl _) _
 have hz0 : (w.alloc (.cells #[.slice A0 n0 c0, .int .i64 I0, .int .i64 H0, .int .i64 S0, .int .i64 P0, .string s0, .string t0, .int .i64 z0] 28)).heap.size = w.heap.size + 1 := by simp
 have hA : (w.alloc (.cells #[.slice A0 n0 c0, .int .i64 I0, .int .i64 H0, .int .i64 S0, .int .i64 P0, .string s0, .string t0, .int .i64 z0] 28)).heap[w.heap.size]? = some (.cells #[.slice A0 n0 c0, .int .i64 I0, .int .i64 H0, .int .i64 S0, .int .i64 P0, .string s0, .string t0, .int .i64 z0] 28 (0, 0)) := heap_alloc_new w _
 have HB0 : Hid (∀ w', Below (w.alloc (.cells #[.slice A0 n0 c0, .int .i64 I0, .int .i64 H0, .int .i64 S0, .int .i64 P0, .string s0, .string t0, .int .i64 z0] 28)).heap.size (w.alloc (.cells #[.slice A0 n0 c0, .int .i64 I0, .int .i64 H0, .int .i64 S0, .int .i64 P0, .string s0, .string t0, .int .i64 z0] 28)) w' → w'.cell? ⟨w.heap.size, 0, none⟩ = some (.slice A0 n0 c0) ∧ w'.cell? ⟨w.heap.size, 1, none⟩ = some (.int .i64 I0) ∧ w'.cell? ⟨w.heap.size, 2, none⟩ = some (.int .i64 H0) ∧ w'.cell? ⟨w.heap.size, 3, none⟩ = some (.int .i64 S0) ∧ w'.cell? ⟨w.heap.size, 4, none⟩ = some (.int .i64 P0) ∧ w'.cell? ⟨w.heap.size, 5, none⟩ = some (.string s0) ∧ w'.cell? ⟨w.heap.size, 6, none⟩ = some (.string t0) ∧ w'.cell? ⟨w.heap.size, 7, none⟩ = some (.int .i64 z0)) := by
  intro w' hq
  have h1 := rowB hA hq
  exact (cells8 h1)
 have HSL : Hid (∀ w', Below (w.alloc (.cells #[.slice A0 n0 c0, .int .i64 I0, .int .i64 H0, .int .i64 S0, .int .i64 P0, .string s0, .string t0, .int .i64 z0] 28)).heap.size (w.alloc (.cells #[.slice A0 n0 c0, .int .i64 I0, .int .i64 H0, .int .i64 S0, .int .i64 P0, .string s0, .string t0, .int .i64 z0] 28)) w' → Sl w' 0 w.heap.size 4 A0 n0 f0) := fun w' hq => hs0.below (HAL.trans (hq.mono HAL.size))
 have HT : Hid (Tab (w.alloc (.cells #[.slice A0 n0 c0, .int .i64 I0, .int .i64 H0, .int .i64 S0, .int .i64 P0, .string s0, .string t0, .int .i64 z0] 28))) := ht.below HAL
 have HM : Hid (Mx (w.alloc (.cells #[.slice A0 n0 c0, .int .i64 I0, .int .i64 H0, .int .i64 S0, .int .i64 P0, .string s0, .string t0, .int .i64 z0] 28))) := hm.below HAL
 have HE : Hid (Er (w.alloc (.cells #[.slice A0 n0 c0, .int .i64 I0, .int .i64 H0, .int .i64 S0, .int .i64 P0, .string s0, .string t0, .int .i64 z0] 28))) := he.below HAL
 clear hA hs0 hcm0 hss0 hst0 hsu0 ht hm he
 by_cases hlu : (1048576 : Int) < (u0.size : Int)
 ·go_enter Tryz.func4, Tryz.ntmps4
  go_wp2
  go_ret
  exact ⟨rfl, HAL⟩
 by_cases hbig : n0 ≤ 1048576
 rotate_left
 ·go_enter Tryz.func4, Tryz.ntmps4
  go_wp2_with fail
  refine (szConsole_works A0 n0 c0 I0 H0 S0 P0 s0 t0 z0 _ hm0 (by omega)).mono ?_
  rintro e w1 ⟨rfl, B1⟩
  go_wp2
  go_ret
  exact ⟨rfl, HAL.trans (B1.mono HAL.size)⟩
 by_cases hlog : (s0.size : Int) + (t0.size : Int) ≤ 1048576 - (n0 : Int)
 rotate_left
 ·go_enter Tryz.func4, Tryz.ntmps4
  go_wp2_with fail
  refine (szConsole_log A0 n0 c0 I0 H0 S0 P0 s0 t0 z0 _ (by omega) hd0 hq0 (by omega)).mono ?_
  rintro e w1 ⟨rfl, B1⟩
  go_wp2
  go_ret
  exact ⟨rfl, HAL.trans (B1.mono HAL.size)⟩
 have hfit : Fit ⟨f0, n0, I0, H0, S0, P0, s0, t0, z0⟩ := ⟨hbig, (by show s0.size ≤ 1048576; omega), (by show t0.size ≤ 1048576; omega)⟩
 obtain ⟨G, m, ok, hm7, HSP, HIP⟩ : ∃ (G : Nat → ByteArray) (m : Nat) (ok : Bool), m ≤ 1048576 ∧ Hid (∀ (Aq : Option Addr) (cq lo hi : Nat) (W : World), Sl W lo hi 4 Aq n0 f0 → (Aq = none → n0 = 0 ∧ cq = 0) → n0 ≤ cq → Calls Tryz.prog 16 #[.agg #[.slice Aq n0 cq, .int .i64 I0, .int .i64 H0, .int .i64 S0, .int .i64 P0, .string s0, .string t0, .int .i64 z0], .string u0] W fun e w' => ∃ A' c' lo' hi', e = .returned (.tuple #[.slice A' m c', .bool ok]) ∧ m ≤ c' ∧ W.heap.size ≤ lo' ∧ OwnT w' lo' hi' 9 1 A' m G ∧ Below W.heap.size W w') ∧ Hid (∀ (Aq : Option Addr) (cq lo hi : Nat) (W : World), Sl W lo hi 4 Aq n0 f0 → (Aq = none → n0 = 0 ∧ cq = 0) → n0 ≤ cq → Tab W → Mx W → Er W → Calls Tryz.prog 17 #[.agg #[.slice Aq n0 cq, .int .i64 I0, .int .i64 H0, .int .i64 S0, .int .i64 P0, .string s0, .string t0, .int .i64 z0], .string u0] W fun e w' => ∃ A' c' lo' hi', e = .returned (.tuple #[.slice A' m c', .bool ok]) ∧ m ≤ c' ∧ W.heap.size ≤ lo' ∧ OwnT w' lo' hi' 9 1 A' m G ∧ Below W.heap.size W w') :=
  ⟨fun j => (scL ⟨f0, n0, I0, H0, S0, P0, s0, t0, z0⟩ u0).getD j ⟨#[]⟩, (scL ⟨f0, n0, I0, H0, S0, P0, s0, t0, z0⟩ u0).length, scOk ⟨f0, n0, I0, H0, S0, P0, s0, t0, z0⟩ u0, sc_len _ _, fun Aq cq lo hi W hs h1 h2 => (sRunScript_any ⟨f0, n0, I0, H0, S0, P0, s0, t0, z0⟩ hfit Aq cq lo hi u0 (by omega) W hs h2 h1).mono fun _ _ h => sc_own h, fun Aq cq lo hi W hs h1 h2 ht hm he => (RunScript_any ⟨f0, n0, I0, H0, S0, P0, s0, t0, z0⟩ hfit Aq cq lo hi u0 (by omega) W hs h2 h1 ht hm he).mono fun _ _ h => sc_own h⟩
 clear hfit
 go_enter Tryz.func4, Tryz.ntmps4
 go_wp2_with fail
 refine (szConsole_ok A0 n0 c0 I0 H0 S0 P0 s0 t0 z0 _ (by omega) (by omega)).mono ?_
 rintro e v0 ⟨rfl, BX⟩
 have z0_ := BX.size
 have hL : ¬ (1048576 - (n0 : Int) - (s0.size : Int) - (t0.size : Int) < 0) := by omega
 obtain ⟨b0, b1, b2, b3, b4, b5, b6, b7⟩ := HB0.out _ BX
 go_wp2_with fail
 refine (toConsole_any A0 n0 c0 0 w.heap.size f0 I0 H0 S0 P0 s0 t0 z0 v0 (HSL.out _ BX) hbig hnc0).mono ?_
 rintro e v1 ⟨g2, rfl, l2, k2, ho2, hb⟩
 clear b0 b1 b2 b3 b4 b5 b6 b7
 have z2_ := hb.size
 have BX := below_of BX hb BX.size
 clear hb
 go_wp2_with fail
 refine (HSP.out _ _ _ _ v1 ho2.sl (fun h => by cases h) (Nat.le_refl _)).mono ?_
 rintro e v3 ⟨Aa, ca, la, ua, rfl, ma, qa, hoa, hb⟩
 have z4_ := hb.size
 have BX := below_of BX hb BX.size
 have ho2 := ho2.below hb
 clear hb
 have ia := hoa.hi_le
 clear ho2
 clear hL
 obtain ⟨b0, b1, b2, b3, b4, b5, b6, b7⟩ := HB0.out _ BX
 go_wp2_with fail
 refine (toConsole_any A0 n0 c0 0 w.heap.size f0 I0 H0 S0 P0 s0 t0 z0 v3 (HSL.out _ BX) hbig hnc0).mono ?_
 rintro e v5 ⟨g4, rfl, l4, k4, ho4, hb⟩
 clear b0 b1 b2 b3 b4 b5 b6 b7
 have z6_ := hb.size
 have BX := below_of BX hb BX.size
 have hoa := hoa.below hb
 clear hb
 go_upto_region 9 with fail
 refine name_wp ?_
 intro v7 hw
 have hb := ba hw
 have hrx := an hw
 clear hw
 have z8_ := hb.size
 have BX := below_of BX hb BX.size
 have hoa := hoa.below hb
 have ho4 := ho4.below hb
 clear hb
 have jx := rowLt hrx
 generalize hqx : v5.heap.size = xx at *
 have HQx := lh hqx
 clear hqx
 obtain ⟨e0, e1, e2, e3, e4, e5, e6, e7⟩ := cells8 hrx
 go_wp2_with fail
 refine (HIP.out _ _ _ _ v7 ho4.sl (fun h => by cases h) (Nat.le_refl _) (HT.out.below BX) (HM.out.below BX) (HE.out.below BX)).mono ?_
 rintro e v9 ⟨Ab, cb, lb, ub, rfl, mb, qb, hob, hb⟩
 have z10_ := hb.size
 have BX := below_of BX hb BX.size
 have hrx := rowB hrx hb
 have hoa := hoa.below hb
 have ho4 := ho4.below hb
 clear hb
 have ib := hob.hi_le
 clear e0 e1 e2 e3 e4 e5 e6 e7
 go_wp2_with fail
 refine (eqStringS_same Ab Aa m cb ca lb ub la ua G v9 hob.sl hoa.sl hm7 mb ma).mono ?_
 rintro e v11 ⟨rfl, hb⟩
 have z12_ := hb.size
 have BX := below_of BX hb BX.size
 have hrx := rowB hrx hb
 have hoa := hoa.below hb
 have ho4 := ho4.below hb
 have hob := hob.below hb
 clear hb
 have HF : Hid (∀ w', Below v11.heap.size v11 w' → (w'.cell? ⟨xx, 0, none⟩ = some (.slice (some ⟨g4, 0, none⟩) n0 n0) ∧ w'.cell? ⟨xx, 1, none⟩ = some (.int .i64 I0) ∧ w'.cell? ⟨xx, 2, none⟩ = some (.int .i64 H0) ∧ w'.cell? ⟨xx, 3, none⟩ = some (.int .i64 S0) ∧ w'.cell? ⟨xx, 4, none⟩ = some (.int .i64 P0) ∧ w'.cell? ⟨xx, 5, none⟩ = some (.string s0) ∧ w'.cell? ⟨xx, 6, none⟩ = some (.string t0) ∧ w'.cell? ⟨xx, 7, none⟩ = some (.int .i64 z0)) ∧ w'.cell? ⟨w.heap.size, 0, none⟩ = some (.slice A0 n0 c0) ∧ w'.cell? ⟨w.heap.size, 1, none⟩ = some (.int .i64 I0) ∧ w'.cell? ⟨w.heap.size, 2, none⟩ = some (.int .i64 H0) ∧ w'.cell? ⟨w.heap.size, 3, none⟩ = some (.int .i64 S0) ∧ w'.cell? ⟨w.heap.size, 4, none⟩ = some (.int .i64 P0) ∧ w'.cell? ⟨w.heap.size, 5, none⟩ = some (.string s0) ∧ w'.cell? ⟨w.heap.size, 6, none⟩ = some (.string t0) ∧ w'.cell? ⟨w.heap.size, 7, none⟩ = some (.int .i64 z0)) := fun w' hq => by
  have hx := rowB hrx hq
  exact ⟨(cells8 hx), HB0.out w' (BX.trans (hq.mono BX.size))⟩
 go_wp2_with fail
 refine wp_region_held_drew (S := fun w' => Below (v11).heap.size (v11) w') (by kernel_rfl) ((Below.refl _ _).drew) (fun jd => ?_)
 refine tj2 0 48 1 49 HF jd ?_
 refine wpAnyH_ready (rs := [2]) (by kernel_rfl) (by simp) ?_
 refine AllReadyH.cons rfl (fun K hK => ?_) AllReadyH.nil
 go_simp
 (go_at_call 11; refine (toConsole_any A0 n0 c0 0 w.heap.size f0 I0 H0 S0 P0 s0 t0 z0 _ (HSL.out _ (BX.trans (jd.mono BX.size))) hbig hnc0).mono ?_; rintro e wt ⟨gt, rfl, lt2, kt2, hot, hb2⟩)
 refine hK.out _ _ (jd.trans (hb2.mono jd.size)) (fun jd => ?_)
 clear hK K hb2
 refine wpAnyH_ready (rs := [3]) (by kernel_rfl) (by simp) ?_
 refine AllReadyH.cons rfl (fun K hK => ?_) AllReadyH.nil
 go_simp
 (go_at_call 13; refine (eqConsole_same _ _ n0 n0 n0 _ _ _ _ f0 I0 H0 S0 P0 s0 t0 z0 wt (ho4.below jd).sl hot.sl hbig (Nat.le_refl _) (Nat.le_refl _)).mono ?_; rintro e v50 ⟨rfl, hb2⟩)
 refine hK.out _ _ (jd.trans (hb2.mono jd.size)) (fun jd => ?_)
 clear hK K hb2
 refine tj 4 52 HF rfl jd ?_
 refine wpAnyH_done (by kernel_rfl) ?_ _
 clear hot HF
 have z13_ := jd.size
 have BX := below_of BX jd BX.size
 have hrx := rowB hrx jd
 have hoa := hoa.below jd
 have ho4 := ho4.below jd
 have hob := hob.below jd
 clear jd
 obtain ⟨e0, e1, e2, e3, e4, e5, e6, e7⟩ := cells8 hrx
 go_wp2_with fail
 refine (markConsole_any _ n0 n0 g4 (g4 + 1) 1 f0 I0 H0 S0 P0 s0 t0 z0 v50 ho4 hbig (Nat.le_refl _) (by omega) (by omega)).mono ?_
 rintro e v14 ⟨rfl, _, hfr⟩
 have z15_ := hfr.size
 have BX : Below (w.alloc (.cells #[.slice A0 n0 c0, .int .i64 I0, .int .i64 H0, .int .i64 S0, .int .i64 P0, .string s0, .string t0, .int .i64 z0] 28)).heap.size (w.alloc (.cells #[.slice A0 n0 c0, .int .i64 I0, .int .i64 H0, .int .i64 S0, .int .i64 P0, .string s0, .string t0, .int .i64 z0] 28)) v14 := BX.trans (hfr.below (by have := BX.size; omega) BX.size)
 have hoa := hoa.fr hfr (by omega)
 have hob := hob.fr hfr (by omega)
 clear hfr
 clear ho4
 clear e0 e1 e2 e3 e4 e5 e6 e7
 have hn4 : ¬ ((1 : Int) + (n0 : Int) * 4 < 0) := by omega
 go_wp2_with fail
 refine (eqStringS_same Ab Aa m cb ca lb ub la ua G v14 hob.sl hoa.sl hm7 mb ma).mono ?_
 rintro e v16 ⟨rfl, hb⟩
 have z17_ := hb.size
 have BX := below_of BX hb BX.size
 have hoa := hoa.below hb
 have hob := hob.below hb
 clear hb
 go_wp2_with fail
 refine (markStringS_any Ab m cb lb ub G v16 hob hm7 mb).mono ?_
 rintro e v18 ⟨rfl, hob2, hfr⟩
 have z19_ := hfr.size
 have BX : Below (w.alloc (.cells #[.slice A0 n0 c0, .int .i64 I0, .int .i64 H0, .int .i64 S0, .int .i64 P0, .string s0, .string t0, .int .i64 z0] 28)).heap.size (w.alloc (.cells #[.slice A0 n0 c0, .int .i64 I0, .int .i64 H0, .int .i64 S0, .int .i64 P0, .string s0, .string t0, .int .i64 z0] 28)) v18 := BX.trans (hfr.below (by have := BX.size; omega) BX.size)
 have hoa := hoa.fr hfr (by omega)
 clear hfr
 clear hob
 have hob := hob2
 clear hob2
 go_wp2_with fail
 refine (heldStringS_any Ab m cb lb ub v18 hob.sl hm7 mb).mono ?_
 rintro e v20 ⟨rfl, hb⟩
 have z21_ := hb.size
 have BX := below_of BX hb BX.size
 have hoa := hoa.below hb
 have hob := hob.below hb
 clear hb
 have hm4 : ¬ ((1 : Int) + (m : Int) < 0) := by omega
 obtain ⟨b0, b1, b2, b3, b4, b5, b6, b7⟩ := HB0.out _ BX
 go_wp2_with fail
 refine (toConsole_any A0 n0 c0 0 w.heap.size f0 I0 H0 S0 P0 s0 t0 z0 v20 (HSL.out _ BX) hbig hnc0).mono ?_
 rintro e v22 ⟨g5, rfl, l5, k5, ho5, hb⟩
 clear b0 b1 b2 b3 b4 b5 b6 b7
 have z23_ := hb.size
 have BX := below_of BX hb BX.size
 have hoa := hoa.below hb
 have hob := hob.below hb
 clear hb
 go_wp2_with fail
 refine (HIP.out _ _ _ _ v22 ho5.sl (fun h => by cases h) (Nat.le_refl _) (HT.out.below BX) (HM.out.below BX) (HE.out.below BX)).mono ?_
 rintro e v24 ⟨Ac, cc, lc, uc, rfl, mc, qc, hoc, hb⟩
 have z25_ := hb.size
 have BX := below_of BX hb BX.size
 have hoa := hoa.below hb
 have hob := hob.below hb
 have ho5 := ho5.below hb
 clear hb
 have ic := hoc.hi_le
 clear ho5
 go_wp2_with fail
 refine (eqStringS_same Ac Aa m cc ca lc uc la ua G v24 hoc.sl hoa.sl hm7 mc ma).mono ?_
 rintro e v26 ⟨rfl, hb⟩
 have z27_ := hb.size
 have BX := below_of BX hb BX.size
 have hoa := hoa.below hb
 have hob := hob.below hb
 have hoc := hoc.below hb
 clear hb
 go_wp2_with fail
 refine (heldStringS_any Ab m cb lb ub v26 hob.sl hm7 mb).mono ?_
 rintro e v28 ⟨rfl, hb⟩
 have z29_ := hb.size
 have BX := below_of BX hb BX.size
 have hoa := hoa.below hb
 have hob := hob.below hb
 have hoc := hoc.below hb
 clear hb
 have BW := HAL.trans (BX.mono HAL.size)
 clear BX hoa hob hoc
 go_wp2
 go_ret
 exact ⟨rfl, BW⟩
end Go.Proofs.YtpndjhelpoenpaaGreatDoor
