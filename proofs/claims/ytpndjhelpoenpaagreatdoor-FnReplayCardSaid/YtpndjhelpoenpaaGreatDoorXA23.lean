/-
  Texts of this claim, merged.
-/
import Derived.Test.YtpndjhelpoenpaaGreatDoorXA22
set_option linter.unusedVariables false
set_option linter.unusedSimpArgs false
set_option maxRecDepth 100000
set_option maxHeartbeats 8000000
namespace Go.Proofs.YtpndjhelpoenpaaGreatDoor
open Go.RowKit Go.Maps
theorem cmd_cases {u : ByteArray} {m : Nat} (h : cmdN u m ≠ 0) : (m = 2 ∧ u = wd1 ∧ cmdN u m = 1) ∨ (m = 2 ∧ u = wd2 ∧ cmdN u m = 2) ∨ (m = 3 ∧ u = wd3 ∧ cmdN u m = 3) ∨ (m = 2 ∧ u = wd4 ∧ cmdN u m = 4) ∨ (m = 2 ∧ u = wd5 ∧ cmdN u m = 5) ∨ (m = 1 ∧ u = wd6 ∧ cmdN u m = 6) ∨ (m = 1 ∧ u = wd7 ∧ cmdN u m = 7) ∨ (m = 0 ∧ u = wd8 ∧ cmdN u m = 8) ∨ (m = 0 ∧ u = wd9 ∧ cmdN u m = 9) ∨ (m = 0 ∧ u = wd10 ∧ cmdN u m = 10) ∨ (m = 0 ∧ u = wd11 ∧ cmdN u m = 11) ∨ (m = 0 ∧ u = wd12 ∧ cmdN u m = 12) ∨ (m = 1 ∧ u = wd13 ∧ cmdN u m = 13) ∨ (m = 1 ∧ u = wd14 ∧ cmdN u m = 14) := by
 by_cases p1 : m = 2 ∧ u = wd1
 ·exact Or.inl ⟨p1.1, p1.2, by rw [cmdN, if_pos p1]⟩
 by_cases p2 : m = 2 ∧ u = wd2
 ·exact Or.inr (Or.inl ⟨p2.1, p2.2, by rw [cmdN, if_neg p1, if_pos p2]⟩)
 by_cases p3 : m = 3 ∧ u = wd3
 ·exact Or.inr (Or.inr (Or.inl ⟨p3.1, p3.2, by rw [cmdN, if_neg p1, if_neg p2, if_pos p3]⟩))
 by_cases p4 : m = 2 ∧ u = wd4
 ·exact Or.inr (Or.inr (Or.inr (Or.inl ⟨p4.1, p4.2, by rw [cmdN, if_neg p1, if_neg p2, if_neg p3, if_pos p4]⟩)))
 by_cases p5 : m = 2 ∧ u = wd5
 ·exact Or.inr (Or.inr (Or.inr (Or.inr (Or.inl ⟨p5.1, p5.2, by rw [cmdN, if_neg p1, if_neg p2, if_neg p3, if_neg p4, if_pos p5]⟩))))
 by_cases p6 : m = 1 ∧ u = wd6
 ·exact Or.inr (Or.inr (Or.inr (Or.inr (Or.inr (Or.inl ⟨p6.1, p6.2, by rw [cmdN, if_neg p1, if_neg p2, if_neg p3, if_neg p4, if_neg p5, if_pos p6]⟩)))))
 by_cases p7 : m = 1 ∧ u = wd7
 ·exact Or.inr (Or.inr (Or.inr (Or.inr (Or.inr (Or.inr (Or.inl ⟨p7.1, p7.2, by rw [cmdN, if_neg p1, if_neg p2, if_neg p3, if_neg p4, if_neg p5, if_neg p6, if_pos p7]⟩))))))
 by_cases p8 : m = 0 ∧ u = wd8
 ·exact Or.inr (Or.inr (Or.inr (Or.inr (Or.inr (Or.inr (Or.inr (Or.inl ⟨p8.1, p8.2, by rw [cmdN, if_neg p1, if_neg p2, if_neg p3, if_neg p4, if_neg p5, if_neg p6, if_neg p7, if_pos p8]⟩)))))))
 by_cases p9 : m = 0 ∧ u = wd9
 ·exact Or.inr (Or.inr (Or.inr (Or.inr (Or.inr (Or.inr (Or.inr (Or.inr (Or.inl ⟨p9.1, p9.2, by rw [cmdN, if_neg p1, if_neg p2, if_neg p3, if_neg p4, if_neg p5, if_neg p6, if_neg p7, if_neg p8, if_pos p9]⟩))))))))
 by_cases p10 : m = 0 ∧ u = wd10
 ·exact Or.inr (Or.inr (Or.inr (Or.inr (Or.inr (Or.inr (Or.inr (Or.inr (Or.inr (Or.inl ⟨p10.1, p10.2, by rw [cmdN, if_neg p1, if_neg p2, if_neg p3, if_neg p4, if_neg p5, if_neg p6, if_neg p7, if_neg p8, if_neg p9, if_pos p10]⟩)))))))))
 by_cases p11 : m = 0 ∧ u = wd11
 ·exact Or.inr (Or.inr (Or.inr (Or.inr (Or.inr (Or.inr (Or.inr (Or.inr (Or.inr (Or.inr (Or.inl ⟨p11.1, p11.2, by rw [cmdN, if_neg p1, if_neg p2, if_neg p3, if_neg p4, if_neg p5, if_neg p6, if_neg p7, if_neg p8, if_neg p9, if_neg p10, if_pos p11]⟩))))))))))
 by_cases p12 : m = 0 ∧ u = wd12
 ·exact Or.inr (Or.inr (Or.inr (Or.inr (Or.inr (Or.inr (Or.inr (Or.inr (Or.inr (Or.inr (Or.inr (Or.inl ⟨p12.1, p12.2, by rw [cmdN, if_neg p1, if_neg p2, if_neg p3, if_neg p4, if_neg p5, if_neg p6, if_neg p7, if_neg p8, if_neg p9, if_neg p10, if_neg p11, if_pos p12]⟩)))))))))))
 by_cases p13 : m = 1 ∧ u = wd13
 ·exact Or.inr (Or.inr (Or.inr (Or.inr (Or.inr (Or.inr (Or.inr (Or.inr (Or.inr (Or.inr (Or.inr (Or.inr (Or.inl ⟨p13.1, p13.2, by rw [cmdN, if_neg p1, if_neg p2, if_neg p3, if_neg p4, if_neg p5, if_neg p6, if_neg p7, if_neg p8, if_neg p9, if_neg p10, if_neg p11, if_neg p12, if_pos p13]⟩))))))))))))
 by_cases p14 : m = 1 ∧ u = wd14
 ·exact Or.inr (Or.inr (Or.inr (Or.inr (Or.inr (Or.inr (Or.inr (Or.inr (Or.inr (Or.inr (Or.inr (Or.inr (Or.inr (⟨p14.1, p14.2, by rw [cmdN, if_neg p1, if_neg p2, if_neg p3, if_neg p4, if_neg p5, if_neg p6, if_neg p7, if_neg p8, if_neg p9, if_neg p10, if_neg p11, if_neg p12, if_neg p13, if_pos p14]⟩)))))))))))))
 exact absurd (by rw [cmdN, if_neg p1, if_neg p2, if_neg p3, if_neg p4, if_neg p5, if_neg p6, if_neg p7, if_neg p8, if_neg p9, if_neg p10, if_neg p11, if_neg p12, if_neg p13, if_neg p14]) h
def mapD : DataW Unit := (DataW.put (DataW.put (DataW.put (DataW.put (DataW.put (DataW.put (DataW.put (DataW.put (DataW.put (DataW.put (DataW.put (DataW.put (DataW.put (DataW.put (DataW.map []) (.string [98, 117, 105, 108, 100]) (.lit (.int .i64 2))) (.string [116, 97, 107, 101]) (.lit (.int .i64 2))) (.string [108, 101, 97, 100]) (.lit (.int .i64 3))) (.string [100, 114, 121]) (.lit (.int .i64 2))) (.string [114, 97, 107, 101]) (.lit (.int .i64 2))) (.string [115, 104, 105, 112]) (.lit (.int .i64 1))) (.string [115, 104, 117, 116]) (.lit (.int .i64 1))) (.string [105, 110]) (.lit (.int .i64 0))) (.string [104, 101, 97, 112]) (.lit (.int .i64 0))) (.string [112, 97, 110, 115]) (.lit (.int .i64 0))) (.string [109, 97, 121]) (.lit (.int .i64 0))) (.string [111, 114, 100, 101, 114]) (.lit (.int .i64 0))) (.string [109, 111, 114, 101]) (.lit (.int .i64 1))) (.string [116, 101, 120, 116]) (.lit (.int .i64 1)))
theorem look_map (u : ByteArray) (m : Nat) {cnt : Int} (hat : mapD.atKey (.string u.data.toList) (.lit (.int .i64 0)) = .lit (.int .i64 cnt)) :
  (Maps.has mapD (.string u.data.toList) && decide (cnt = (m : Int))) = decide (cmdN u m ≠ 0) := by
 by_cases p1 : u = wd1
 ·subst p1
  have hh : Maps.has mapD (.string wd1.data.toList) = true := by decide +kernel
  have ha : mapD.atKey (.string wd1.data.toList) (.lit (.int .i64 0)) = .lit (.int .i64 2) := by unfold mapD; rfl
  rw [ha] at hat
  obtain rfl : cnt = 2 := by injection hat with h1; injection h1 with _ h2; exact h2.symm
  refine z275 ?_
  constructor
  ·intro hm
   obtain rfl : m = 2 := by omega
   exact z11
  exact z276
 by_cases p2 : u = wd2
 ·subst p2
  have hh : Maps.has mapD (.string wd2.data.toList) = true := by decide +kernel
  have ha : mapD.atKey (.string wd2.data.toList) (.lit (.int .i64 0)) = .lit (.int .i64 2) := by unfold mapD; rfl
  rw [ha] at hat
  obtain rfl : cnt = 2 := by injection hat with h1; injection h1 with _ h2; exact h2.symm
  refine z275 ?_
  constructor
  ·intro hm
   obtain rfl : m = 2 := by omega
   exact z11
  exact z276
 by_cases p3 : u = wd3
 ·subst p3
  have hh : Maps.has mapD (.string wd3.data.toList) = true := by decide +kernel
  have ha : mapD.atKey (.string wd3.data.toList) (.lit (.int .i64 0)) = .lit (.int .i64 3) := by unfold mapD; rfl
  rw [ha] at hat
  obtain rfl : cnt = 3 := by injection hat with h1; injection h1 with _ h2; exact h2.symm
  refine z275 ?_
  constructor
  ·intro hm
   obtain rfl : m = 3 := by omega
   exact z11
  exact z276
 by_cases p4 : u = wd4
 ·subst p4
  have hh : Maps.has mapD (.string wd4.data.toList) = true := by decide +kernel
  have ha : mapD.atKey (.string wd4.data.toList) (.lit (.int .i64 0)) = .lit (.int .i64 2) := by unfold mapD; rfl
  rw [ha] at hat
  obtain rfl : cnt = 2 := by injection hat with h1; injection h1 with _ h2; exact h2.symm
  refine z275 ?_
  constructor
  ·intro hm
   obtain rfl : m = 2 := by omega
   exact z11
  exact z276
 by_cases p5 : u = wd5
 ·subst p5
  have hh : Maps.has mapD (.string wd5.data.toList) = true := by decide +kernel
  have ha : mapD.atKey (.string wd5.data.toList) (.lit (.int .i64 0)) = .lit (.int .i64 2) := by unfold mapD; rfl
  rw [ha] at hat
  obtain rfl : cnt = 2 := by injection hat with h1; injection h1 with _ h2; exact h2.symm
  refine z275 ?_
  constructor
  ·intro hm
   obtain rfl : m = 2 := by omega
   exact z11
  exact z276
 by_cases p6 : u = wd6
 ·subst p6
  have hh : Maps.has mapD (.string wd6.data.toList) = true := by decide +kernel
  have ha : mapD.atKey (.string wd6.data.toList) (.lit (.int .i64 0)) = .lit (.int .i64 1) := by unfold mapD; rfl
  rw [ha] at hat
  obtain rfl : cnt = 1 := by injection hat with h1; injection h1 with _ h2; exact h2.symm
  refine z275 ?_
  constructor
  ·intro hm
   obtain rfl : m = 1 := by omega
   exact z11
  exact z276
 by_cases p7 : u = wd7
 ·subst p7
  have hh : Maps.has mapD (.string wd7.data.toList) = true := by decide +kernel
  have ha : mapD.atKey (.string wd7.data.toList) (.lit (.int .i64 0)) = .lit (.int .i64 1) := by unfold mapD; rfl
  rw [ha] at hat
  obtain rfl : cnt = 1 := by injection hat with h1; injection h1 with _ h2; exact h2.symm
  refine z275 ?_
  constructor
  ·intro hm
   obtain rfl : m = 1 := by omega
   exact z11
  exact z276
 by_cases p8 : u = wd8
 ·subst p8
  have hh : Maps.has mapD (.string wd8.data.toList) = true := by decide +kernel
  have ha : mapD.atKey (.string wd8.data.toList) (.lit (.int .i64 0)) = .lit (.int .i64 0) := by unfold mapD; rfl
  rw [ha] at hat
  obtain rfl : cnt = 0 := by injection hat with h1; injection h1 with _ h2; exact h2.symm
  refine z275 ?_
  constructor
  ·intro hm
   obtain rfl : m = 0 := by omega
   exact z11
  exact z276
 by_cases p9 : u = wd9
 ·subst p9
  have hh : Maps.has mapD (.string wd9.data.toList) = true := by decide +kernel
  have ha : mapD.atKey (.string wd9.data.toList) (.lit (.int .i64 0)) = .lit (.int .i64 0) := by unfold mapD; rfl
  rw [ha] at hat
  obtain rfl : cnt = 0 := by injection hat with h1; injection h1 with _ h2; exact h2.symm
  refine z275 ?_
  constructor
  ·intro hm
   obtain rfl : m = 0 := by omega
   exact z11
  exact z276
 by_cases p10 : u = wd10
 ·subst p10
  have hh : Maps.has mapD (.string wd10.data.toList) = true := by decide +kernel
  have ha : mapD.atKey (.string wd10.data.toList) (.lit (.int .i64 0)) = .lit (.int .i64 0) := by unfold mapD; rfl
  rw [ha] at hat
  obtain rfl : cnt = 0 := by injection hat with h1; injection h1 with _ h2; exact h2.symm
  refine z275 ?_
  constructor
  ·intro hm
   obtain rfl : m = 0 := by omega
   exact z11
  exact z276
 by_cases p11 : u = wd11
 ·subst p11
  have hh : Maps.has mapD (.string wd11.data.toList) = true := by decide +kernel
  have ha : mapD.atKey (.string wd11.data.toList) (.lit (.int .i64 0)) = .lit (.int .i64 0) := by unfold mapD; rfl
  rw [ha] at hat
  obtain rfl : cnt = 0 := by injection hat with h1; injection h1 with _ h2; exact h2.symm
  refine z275 ?_
  constructor
  ·intro hm
   obtain rfl : m = 0 := by omega
   exact z11
  exact z276
 by_cases p12 : u = wd12
 ·subst p12
  have hh : Maps.has mapD (.string wd12.data.toList) = true := by decide +kernel
  have ha : mapD.atKey (.string wd12.data.toList) (.lit (.int .i64 0)) = .lit (.int .i64 0) := by unfold mapD; rfl
  rw [ha] at hat
  obtain rfl : cnt = 0 := by injection hat with h1; injection h1 with _ h2; exact h2.symm
  refine z275 ?_
  constructor
  ·intro hm
   obtain rfl : m = 0 := by omega
   exact z11
  exact z276
 by_cases p13 : u = wd13
 ·subst p13
  have hh : Maps.has mapD (.string wd13.data.toList) = true := by decide +kernel
  have ha : mapD.atKey (.string wd13.data.toList) (.lit (.int .i64 0)) = .lit (.int .i64 1) := by unfold mapD; rfl
  rw [ha] at hat
  obtain rfl : cnt = 1 := by injection hat with h1; injection h1 with _ h2; exact h2.symm
  refine z275 ?_
  constructor
  ·intro hm
   obtain rfl : m = 1 := by omega
   exact z11
  exact z276
 by_cases p14 : u = wd14
 ·subst p14
  have hh : Maps.has mapD (.string wd14.data.toList) = true := by decide +kernel
  have ha : mapD.atKey (.string wd14.data.toList) (.lit (.int .i64 0)) = .lit (.int .i64 1) := by unfold mapD; rfl
  rw [ha] at hat
  obtain rfl : cnt = 1 := by injection hat with h1; injection h1 with _ h2; exact h2.symm
  refine z275 ?_
  constructor
  ·intro hm
   obtain rfl : m = 1 := by omega
   exact z11
  exact z276
 have hne : ∀ x : ByteArray, u ≠ x → (Lit.string u.data.toList) ≠ .string x.data.toList := fun x h e => h (by injection e with e; exact ba_ext e)
 have hh : Maps.has mapD (.string u.data.toList) = false := by
  unfold mapD
  rw [Maps.has_put_other (show Lit.string u.data.toList ≠ .string [116, 101, 120, 116] from hne wd14 p14), Maps.has_put_other (show Lit.string u.data.toList ≠ .string [109, 111, 114, 101] from hne wd13 p13), Maps.has_put_other (show Lit.string u.data.toList ≠ .string [111, 114, 100, 101, 114] from hne wd12 p12), Maps.has_put_other (show Lit.string u.data.toList ≠ .string [109, 97, 121] from hne wd11 p11), Maps.has_put_other (show Lit.string u.data.toList ≠ .string [112, 97, 110, 115] from hne wd10 p10), Maps.has_put_other (show Lit.string u.data.toList ≠ .string [104, 101, 97, 112] from hne wd9 p9), Maps.has_put_other (show Lit.string u.data.toList ≠ .string [105, 110] from hne wd8 p8), Maps.has_put_other (show Lit.string u.data.toList ≠ .string [115, 104, 117, 116] from hne wd7 p7), Maps.has_put_other (show Lit.string u.data.toList ≠ .string [115, 104, 105, 112] from hne wd6 p6), Maps.has_put_other (show Lit.string u.data.toList ≠ .string [114, 97, 107, 101] from hne wd5 p5), Maps.has_put_other (show Lit.string u.data.toList ≠ .string [100, 114, 121] from hne wd4 p4), Maps.has_put_other (show Lit.string u.data.toList ≠ .string [108, 101, 97, 100] from hne wd3 p3), Maps.has_put_other (show Lit.string u.data.toList ≠ .string [116, 97, 107, 101] from hne wd2 p2), Maps.has_put_other (show Lit.string u.data.toList ≠ .string [98, 117, 105, 108, 100] from hne wd1 p1)]
  rfl
 rw [hh, Bool.false_and, eq_comm, decide_eq_false_iff_not]
 intro hm
 rcases cmd_cases hm with ⟨hm, hu, hc⟩ | ⟨hm, hu, hc⟩ | ⟨hm, hu, hc⟩ | ⟨hm, hu, hc⟩ | ⟨hm, hu, hc⟩ | ⟨hm, hu, hc⟩ | ⟨hm, hu, hc⟩ | ⟨hm, hu, hc⟩ | ⟨hm, hu, hc⟩ | ⟨hm, hu, hc⟩ | ⟨hm, hu, hc⟩ | ⟨hm, hu, hc⟩ | ⟨hm, hu, hc⟩ | ⟨hm, hu, hc⟩
 all_goals (first | exact p1 hu | exact p2 hu | exact p3 hu | exact p4 hu | exact p5 hu | exact p6 hu | exact p7 hu | exact p8 hu | exact p9 hu | exact p10 hu | exact p11 hu | exact p12 hu | exact p13 hu | exact p14 hu)
theorem stepFor_cmd (u : ByteArray) (B : Option Addr) (m d lb hb : Nat) (g : Nat → Int) (w : World) (hz : Sl w lb hb 1 B m g) (hmd : m ≤ d) (h : cmdN u m ≠ 0) :
  Calls Tryz.prog 94 #[.string u, .slice B m d] w fun e w' => e = .returned (.tuple #[.agg (iV (if isStep (cmdN u m) then cmdN u m else 0) (if isStep (cmdN u m) then exId (cmdN u m) (g 0) else 0) (if isStep (cmdN u m) then exTo (cmdN u m) (g 1) else 0) (if isStep (cmdN u m) then exZ (cmdN u m) (g 0) (g 1) (g 2) else 0)), .bool (isStep (cmdN u m))]) ∧ bW w w' := by
 rcases cmd_cases h with ⟨hm, hu, hc⟩ | ⟨hm, hu, hc⟩ | ⟨hm, hu, hc⟩ | ⟨hm, hu, hc⟩ | ⟨hm, hu, hc⟩ | ⟨hm, hu, hc⟩ | ⟨hm, hu, hc⟩ | ⟨hm, hu, hc⟩ | ⟨hm, hu, hc⟩ | ⟨hm, hu, hc⟩ | ⟨hm, hu, hc⟩ | ⟨hm, hu, hc⟩ | ⟨hm, hu, hc⟩ | ⟨hm, hu, hc⟩
 ·rw [hc]
  have hq := stepFor_1 u hu B m d lb hb g w hz hmd hm
  exact z277
 ·rw [hc]
  have hq := stepFor_2 u hu B m d lb hb g w hz hmd hm
  exact z277
 ·rw [hc]
  have hq := stepFor_3 u hu B m d lb hb g w hz hmd hm
  exact z277
 ·rw [hc]
  have hq := stepFor_4 u hu B m d lb hb g w hz hmd hm
  exact z277
 ·rw [hc]
  have hq := stepFor_5 u hu B m d lb hb g w hz hmd hm
  exact z277
 ·rw [hc]
  have hq := stepFor_6 u hu B m d lb hb g w hz hmd hm
  exact z277
 ·rw [hc]
  have hq := stepFor_7 u hu B m d lb hb g w hz hmd hm
  exact z277
 ·exact z278
 ·exact z278
 ·exact z278
 ·exact z278
 ·exact z278
 ·exact z278
 ·exact z278
theorem replyOf_cmd (u : ByteArray) (A : Option Addr) (n c lo hi : Nat) (f : Nat → Int) (I H S P : Int) (B : Option Addr) (m d lb hb : Nat) (g : Nat → Int) (w : World) (hs : Sl w lo hi 4 A n f) (hn : n ≤ 1048576) (hnc : n ≤ c) (hz : Sl w lb hb 1 B m g) (hmd : m ≤ d) (ht : Tab w) (hgd : goodWorks f n I H S P = true) (h : cmdN u m ≠ 0) (hI : -9223372036854775808 ≤ I ∧ I ≤ 9223372036854775807) (hH : -9223372036854775808 ≤ H ∧ H ≤ 9223372036854775807) (hS_ : -9223372036854775808 ≤ S ∧ S ≤ 9223372036854775807) (hP : -9223372036854775808 ≤ P ∧ P ≤ 9223372036854775807) :
  Calls Tryz.prog 96 #[.agg (wB A n c I H S P), .string u, .slice B m d] w fun e w' => e = .returned (.tuple #[.string (rpS f n I H S P (cmdN u m) (g 0) (g 1)), .bool (rpOk f n (cmdN u m) (g 0) (g 1))]) ∧ bW w w' := by
 rcases cmd_cases h with ⟨hm, hu, hc⟩ | ⟨hm, hu, hc⟩ | ⟨hm, hu, hc⟩ | ⟨hm, hu, hc⟩ | ⟨hm, hu, hc⟩ | ⟨hm, hu, hc⟩ | ⟨hm, hu, hc⟩ | ⟨hm, hu, hc⟩ | ⟨hm, hu, hc⟩ | ⟨hm, hu, hc⟩ | ⟨hm, hu, hc⟩ | ⟨hm, hu, hc⟩ | ⟨hm, hu, hc⟩ | ⟨hm, hu, hc⟩
 ·rw [hc]
  exact replyOf_p 1 u (Or.inl ⟨rfl, hu⟩) A n c lo hi f I H S P B m d lb hb g w hs hn hnc hz hmd ht hgd (by omega)
 ·rw [hc]
  exact replyOf_p 2 u (Or.inr (Or.inl ⟨rfl, hu⟩)) A n c lo hi f I H S P B m d lb hb g w hs hn hnc hz hmd ht hgd (by omega)
 ·rw [hc]
  exact replyOf_3 u hu A n c lo hi f I H S P B m d lb hb g w hs hn hnc hz hmd ht hgd hm hI hH hS_ hP
 ·rw [hc]
  exact replyOf_p 4 u (Or.inr (Or.inr (Or.inl ⟨rfl, hu⟩))) A n c lo hi f I H S P B m d lb hb g w hs hn hnc hz hmd ht hgd (by omega)
 ·rw [hc]
  exact replyOf_5 u hu A n c lo hi f I H S P B m d lb hb g w hs hn hnc hz hmd ht hgd hm hI hH hS_ hP
 ·rw [hc]
  exact replyOf_6 u hu A n c lo hi f I H S P B m d lb hb g w hs hn hnc hz hmd ht hgd hm hI hH hS_ hP
 ·rw [hc]
  exact replyOf_7 u hu A n c lo hi f I H S P B m d lb hb g w hs hn hnc hz hmd ht hgd hm hI hH hS_ hP
 ·rw [hc]
  exact replyOf_8 u hu A n c lo hi f I H S P B m d lb hb g w hs hn hnc hz hmd ht hgd hm hI hH hS_ hP
 ·rw [hc]
  exact replyOf_9 u hu A n c lo hi f I H S P B m d lb hb g w hs hn hnc hz hmd ht hgd hm hI hH hS_ hP
 ·rw [hc]
  exact replyOf_10 u hu A n c lo hi f I H S P B m d lb hb g w hs hn hnc hz hmd ht hgd hm hI hH hS_ hP
 ·rw [hc]
  exact replyOf_11 u hu A n c lo hi f I H S P B m d lb hb g w hs hn hnc hz hmd ht hgd hm hI hH hS_ hP
 ·rw [hc]
  exact replyOf_12 u hu A n c lo hi f I H S P B m d lb hb g w hs hn hnc hz hmd ht hgd hm hI hH hS_ hP
 ·rw [hc]
  exact replyOf_13 u hu A n c lo hi f I H S P B m d lb hb g w hs hn hnc hz hmd ht hgd hm hI hH hS_ hP
 ·rw [hc]
  exact replyOf_p 14 u (Or.inr (Or.inr (Or.inr ⟨rfl, hu⟩))) A n c lo hi f I H S P B m d lb hb g w hs hn hnc hz hmd ht hgd (by omega)
end Go.Proofs.YtpndjhelpoenpaaGreatDoor
namespace Go.Proofs.YtpndjhelpoenpaaGreatDoor
open Go.RowKit Go.ChangeShapes Go.WideShapes Go.Deep
structure SlT (w : World) (lo hi size : Nat) (A : Option Addr) (n : Nat) (f : Nat → ByteArray) : Prop where
 hi_le : hi ≤ w.heap.size
 here : 0 < n → ∃ b off, A = some ⟨b, off, none⟩ ∧ lo ≤ b ∧ b < hi ∧ ∀ j, j < n * size → cE w b (off + j) (.string (f j))
theorem SlT.below {w w' : World} {lo hi size n : Nat} {A : Option Addr} {f : Nat → ByteArray} (h : SlT w lo hi size A n f) (hb : bW w w') : SlT w' lo hi size A n f :=
 ⟨Nat.le_trans h.hi_le hb.size, fun hn => by
  exact z0⟩
theorem SlT.fr {w w' : World} {lo hi size n lo' hi' : Nat} {A : Option Addr} {f : Nat → ByteArray} (h : SlT w lo hi size A n f) (hb : Fr lo' hi' w w') (hd : hi ≤ lo' ∨ hi' ≤ lo) : SlT w' lo hi size A n f :=
 ⟨Nat.le_trans h.hi_le hb.size, fun hn => by
  exact z1⟩
theorem SlT.congr {w : World} {lo hi size n : Nat} {A : Option Addr} {f g : Nat → ByteArray} (h : SlT w lo hi size A n f) (e : ∀ j, j < n * size → f j = g j) : SlT w lo hi size A n g :=
 ⟨h.hi_le, fun hn => by
  exact z2⟩
theorem SlT.open_ {w wr : World} {lo hi size n : Nat} {A : Option Addr} {f : Nat → ByteArray} (h : SlT w lo hi size A n f) (hb : bW w wr) (hn : 0 < n) :
  ∃ b off, A = some ⟨b, off, none⟩ ∧ b < wr.heap.size ∧ Hid (∀ j, j < n * size → cE wr b (off + j) (.string (f j))) := by
 exact z3
theorem SlT.open_at {w wr : World} {lo hi size n b off : Nat} {f : Nat → ByteArray} (h : SlT w lo hi size (some ⟨b, off, none⟩) n f) (hb : bW w wr) (hn : 0 < n) :
  b < wr.heap.size ∧ Hid (∀ j, j < n * size → cE wr b (off + j) (.string (f j))) := by
 exact z4
structure OwnT (w : World) (lo hi : Nat) (e : TypeId) (size : Nat) (A : Option Addr) (n : Nat) (f : Nat → ByteArray) : Prop where
 hi_le : hi ≤ w.heap.size
 here : 0 < n → ∃ g cur, A = some ⟨g, 0, none⟩ ∧ lo ≤ g ∧ g < hi ∧ w.heap[g]? = some (.cells cur e (0, 0)) ∧ n * size ≤ cur.size ∧ ∀ j, j < n * size → cur[j]? = some (.string (f j))
theorem OwnT.sl {w : World} {lo hi size n : Nat} {e : TypeId} {A : Option Addr} {f : Nat → ByteArray} (h : OwnT w lo hi e size A n f) : SlT w lo hi size A n f :=
 ⟨h.hi_le, fun hn => by
  exact z5⟩
theorem OwnT.below {w w' : World} {lo hi size n : Nat} {e : TypeId} {A : Option Addr} {f : Nat → ByteArray} (h : OwnT w lo hi e size A n f) (hb : bW w w') : OwnT w' lo hi e size A n f :=
 ⟨Nat.le_trans h.hi_le hb.size, fun hn => by
  exact z6⟩
theorem OwnT.fr {w w' : World} {lo hi size n lo' hi' : Nat} {e : TypeId} {A : Option Addr} {f : Nat → ByteArray} (h : OwnT w lo hi e size A n f) (hb : Fr lo' hi' w w') (hd : hi ≤ lo' ∨ hi' ≤ lo) : OwnT w' lo hi e size A n f :=
 ⟨Nat.le_trans h.hi_le hb.size, fun hn => by
  exact z7⟩
theorem OwnT.congr {w : World} {lo hi size n : Nat} {e : TypeId} {A : Option Addr} {f g : Nat → ByteArray} (h : OwnT w lo hi e size A n f) (he : ∀ j, j < n * size → f j = g j) : OwnT w lo hi e size A n g :=
 ⟨h.hi_le, fun hn => by
  exact z8⟩
theorem OwnT.none_ {w : World} {lo hi size : Nat} {e : TypeId} {A : Option Addr} {f : Nat → ByteArray} (h : hi ≤ w.heap.size) : OwnT w lo hi e size A 0 f := ⟨h, fun hn => absurd hn (by omega)⟩
theorem OwnT.lo_le {w : World} {lo lo' hi size n : Nat} {e : TypeId} {A : Option Addr} {f : Nat → ByteArray} (h : OwnT w lo hi e size A n f) (hl : lo' ≤ lo) : OwnT w lo' hi e size A n f :=
 ⟨h.hi_le, fun hn => by
  obtain ⟨g, cur, e1, h1, h2, h3⟩ := h.here hn
  exact ⟨g, cur, e1, by omega, h2, h3⟩⟩
def updT (f : Nat → ByteArray) (i : Nat) (z : ByteArray) : Nat → ByteArray := fun j => if j = i then z else f j
theorem ownT_of_row {w : World} {base : Nat} {e : TypeId} {size : Nat} {v : Value} {n : Nat} {zs : List ByteArray} (h : w.ownsRow base e size v n (zs.map Value.string)) :
  ∃ A c, v = .slice A n c ∧ n ≤ c ∧ c ≤ maxLen ∧ OwnT w base w.heap.size e size A n (fun j => zs.getD j ⟨#[]⟩) := by
 obtain ⟨hl, hr⟩ := h
 have hl' : zs.length = n * size := by simpa using hl
 rcases hr with ⟨rfl, rfl⟩ | ⟨g, cap, cur, rfl, hb, hg, hnc, hcm, hcs, htake⟩
 ·exact ⟨none, 0, rfl, Nat.le_refl _, by unfold maxLen; omega, OwnT.none_ nL⟩
 ·refine ⟨_, cap, rfl, hnc, hcm, Nat.le_refl _, fun hn => ⟨g, cur, rfl, hb, (gL hg), hg, by rw [hcs]; exact Nat.mul_le_mul_right _ hnc, fun j hj => ?_⟩⟩
  have h1 : (zs.map Value.string)[j]? = some (.string (zs.getD j ⟨#[]⟩)) := by
   rw [List.getElem?_map, List.getElem?_eq_getElem (by omega)]
   simp [List.getD, show j < zs.length by omega]
  rw [← htake, List.getElem?_take, if_pos hj] at h1
  simpa using h1
end Go.Proofs.YtpndjhelpoenpaaGreatDoor
namespace Go.Proofs.YtpndjhelpoenpaaGreatDoor
open Go.RowKit
attribute [local go_sem ↓] Go.wp_at_zero Go.wp_at_succ
theorem words_post {s : ByteArray} {b : UInt8} {w w' : World} {v : Value} (hown : w'.ownsRow w.heap.size 9 1 v (wordsV b s).length ((wordsV b s).map Value.string)) :
  ∃ A c, v = .slice A (wordsV b s).length c ∧ (wordsV b s).length ≤ c ∧ SlT w' w.heap.size w'.heap.size 1 A (wordsV b s).length (fun j => (wordsV b s).getD j ⟨#[]⟩) := by
 obtain ⟨A, c, rfl, h1, _, h3⟩ := ownT_of_row hown
 exact ⟨A, c, rfl, h1, h3.sl⟩
theorem Split_any (s : ByteArray) (b : UInt8) (hs : s.size ≤ 4000000) (w : World) (hm : Mx w) :
  Calls Tryz.prog 50 (sV s ⟨#[b]⟩) w fun e w' => ∃ A c, e = .returned (.slice A (wordsV b s).length c) ∧ (wordsV b s).length ≤ c ∧ SlT w' w.heap.size w'.heap.size 1 A (wordsV b s).length (fun j => (wordsV b s).getD j ⟨#[]⟩) ∧ bW w w' := by
 obtain ⟨m, hm⟩ := hm
 refine (Tryz.strings_Split s ⟨#[b]⟩ m w (by omega) hm (by simp [ByteArray.size])).mono ?_
 rintro e w' ⟨rfl, rfl⟩
 rw [countB_words, splitB_words]
 have hw2 : (w.alloc (.cells ((wordsV b s).map Value.string).toArray 9)).ownsRow w.heap.size 9 1 (.slice (some ⟨w.heap.size, 0, none⟩) (wordsV b s).length (wordsV b s).length) (wordsV b s).length ((wordsV b s).map Value.string) := ⟨by simp, Or.inr ⟨w.heap.size, _, _, rfl, Nat.le_refl _, heap_alloc_new w _, Nat.le_refl _, by have := wordsV_le b s; unfold maxLen; omega, by simp, by rw [Nat.mul_one]; exact List.take_of_length_le (by simp)⟩⟩
 obtain ⟨A, c, e, h1, h2⟩ := words_post hw2
 exact ⟨A, c, congrArg Ending.returned e, h1, h2, (Below.refl _ w).alloc nL _⟩
theorem l1Words_any (s : ByteArray) (b : UInt8) (hs : s.size ≤ 4000000) (w : World) :
  Calls Tryz.prog 56 #[.string s, .int .u8 (b.toNat : Int)] w fun e w' => ∃ A c, e = .returned (.slice A (wordsV b s).length c) ∧ (wordsV b s).length ≤ c ∧ SlT w' w.heap.size w'.heap.size 1 A (wordsV b s).length (fun j => (wordsV b s).getD j ⟨#[]⟩) ∧ bW w w' := by
 go_enter Tryz.func56, Tryz.ntmps56
 go_wp2_with fail
 go_loopw [5, 6, 7] (fun v fr i wr => ∃ (k F : Nat) (P : List ByteArray), k ≤ s.size ∧ F ≤ k ∧ i = .int .i64 k ∧ fr = .int .i64 F ∧ wr.ownsRow w.heap.size 9 1 v P.length (P.map Value.string) ∧ P.length ≤ k ∧ bW w wr ∧ Hid (SPW s b k F P)) (fun _ _ i _ => s.size - (intOf i).toNat)
 case atStart => exact ⟨0, 0, [], Nat.zero_le _, Nat.le_refl _, rfl, rfl, World.ownsRow_made w #[] 0 nL (by unfold maxLen; omega) rfl, Nat.le_refl _, (Below.refl _ w).alloc nL _, SPW.start s b⟩
 case round =>
  obtain ⟨k, F, P, hk, hF, rfl, rfl, hown, hPl, hB, hSP⟩ := hrel
  revert hown
  refine z33 ?_
  intro hsz hl HO hF0 hlt
  ·obtain rfl : k = s.size := by omega
   have hfin := lh hSP.out.fin
   clear hSP
   have hF1 : (F : Int) ≤ (s.size : Int) := by omega
   generalize hX : s.extract F s.size = X at hfin
   go_wp2_with (at_builtin; refine z34 ?_; intro v' w3 hown3 hgrow3)
   go_ret
   rw [hfin.out] at hown3
   obtain ⟨A, c, rfl, h1, h2⟩ := words_post hown3
   exact ⟨A, c, rfl, h1, h2, below_app (hB.alloc hB.size _) (HO.out.alloc _) hgrow3⟩
end Go.Proofs.YtpndjhelpoenpaaGreatDoor
