/-
  Chapter 1's own 'first', and NumSmall: small whole numbers are added and multiplied as such. For every input.
-/
import Derived.Test.YtfgkomkilkcfiaaNumM
namespace Go.Proofs.Ytfgkomkilkcfiaa
open Go.RowKit

theorem first_any (w : World) : Calls Try.prog 6 #[] w fun e w' => e = .returned (.bool true) ∧ Pure w w' := by
  have hm : MulIs 4607182418800017408 4611686018427387904 4613937818241073152 4616189618054758400 13840687554816376832 4621819117588971520 :=
    ⟨⟨4613937818241073152, 4620693217682128896, by decide +kernel, by decide +kernel, by decide +kernel⟩, ⟨4616189618054758400, 4618441417868443648, by decide +kernel, by decide +kernel, by decide +kernel⟩⟩
  go_enter Try.func6, Try.ntmps6
  go_wp2_with fail
  refine (whole_in 7 w (by omega) (by omega)).mono ?_
  rintro e w1 ⟨rfl, rfl⟩
  go_wp2_with fail
  refine (int_any _ 0 7 w (by decide +kernel) (by decide +kernel) (by decide +kernel) (by omega) (by omega)).mono ?_
  rintro e w1 ⟨h1, -, rfl⟩
  obtain rfl := h1 (by decide +kernel)
  clear h1
  go_wp2_with fail
  refine (int_any 4602678819172646912 0 0 w (by decide +kernel) (by decide +kernel) (by decide +kernel) (by omega) (by omega)).mono ?_
  rintro e w1 ⟨-, h1, rfl⟩
  obtain rfl := h1 (by decide +kernel)
  clear h1
  go_wp2_with fail
  refine (mul_any _ _ _ _ _ _ hm w).mono ?_
  rintro e w1 ⟨rfl, rfl⟩
  go_wp2_with fail
  refine (word_any _ _ _ _ w (by omega) (by omega) (by omega) (by omega)).mono ?_
  rintro e w1 ⟨rfl, rfl⟩
  rw [show sameB 13840687554816376832 4621819117588971520 13840687554816376832 4621819117588971520 = true from by decide +kernel]
  go_wp2
  go_ret
  exact ⟨rfl, Only.refl _ _⟩

namespace numSmall
open Go.ChangeShapes Go.WideShapes Go.ChangeAt

set_option maxRecDepth 100000 in
set_option maxHeartbeats 2000000 in
theorem out (a b c d : Int) (w : World) (h : a < -30000 ∨ 30000 < a ∨ b < -30000 ∨ 30000 < b ∨ c < -30000 ∨ 30000 < c ∨ d < -30000 ∨ 30000 < d) :
    Calls Try.prog 4 #[.int .i64 a, .int .i64 b, .int .i64 c, .int .i64 d] w fun e w' => e = .returned (.bool true) ∧ Pure w w' := by
  have h' : (a < -30000) ∨ (¬ a < -30000 ∧ 30000 < a) ∨ (¬ a < -30000 ∧ ¬ 30000 < a ∧ b < -30000) ∨ (¬ a < -30000 ∧ ¬ 30000 < a ∧ ¬ b < -30000 ∧ 30000 < b) ∨ (¬ a < -30000 ∧ ¬ 30000 < a ∧ ¬ b < -30000 ∧ ¬ 30000 < b ∧ c < -30000) ∨ (¬ a < -30000 ∧ ¬ 30000 < a ∧ ¬ b < -30000 ∧ ¬ 30000 < b ∧ ¬ c < -30000 ∧ 30000 < c) ∨ (¬ a < -30000 ∧ ¬ 30000 < a ∧ ¬ b < -30000 ∧ ¬ 30000 < b ∧ ¬ c < -30000 ∧ ¬ 30000 < c ∧ d < -30000) ∨ (¬ a < -30000 ∧ ¬ 30000 < a ∧ ¬ b < -30000 ∧ ¬ 30000 < b ∧ ¬ c < -30000 ∧ ¬ 30000 < c ∧ ¬ d < -30000 ∧ 30000 < d) := by omega
  clear h
  rcases h' with g0 | ⟨g0, g1⟩ | ⟨g0, g1, g2⟩ | ⟨g0, g1, g2, g3⟩ | ⟨g0, g1, g2, g3, g4⟩ | ⟨g0, g1, g2, g3, g4, g5⟩ | ⟨g0, g1, g2, g3, g4, g5, g6⟩ | ⟨g0, g1, g2, g3, g4, g5, g6, g7⟩
  all_goals
    go_enter Try.func4, Try.ntmps4
    go_wp2_with fail
    refine (first_any _).mono ?_
    rintro e w1 ⟨rfl, hp1⟩
    have P1 := Lib.hid hp1
    clear hp1
    go_wp2_with fail
    refine (first_any _).mono ?_
    rintro e w8 ⟨rfl, hp8⟩
    have P8 := Lib.hid hp8
    clear hp8
    go_wp2
    go_ret
    exact ⟨rfl, P1.out.then P8.out⟩

/-! ### Plain: the nearest doubles of small whole numbers -/
theorem prod_bd (x y : Int) (h1 : -30000 ≤ x) (h2 : x ≤ 30000) (h3 : -30000 ≤ y) (h4 : y ≤ 30000) : (x * y).natAbs ≤ 900000000 := by
  rw [Int.natAbs_mul]
  have : x.natAbs * y.natAbs ≤ 30000 * 30000 := Nat.mul_le_mul (by omega) (by omega)
  omega

/-- The difference that takes the second summand away again has the bits of the first. -/
theorem sub_back (x y : Int) (hx : x.natAbs < 4503599627370496) (hy : y.natAbs < 4503599627370496) : ∃ s, floatBits .add .f64 (floatOfInt .f64 x) (floatOfInt .f64 y) = some s ∧ IsI s (x + y) ∧
    floatBits .sub .f64 s (floatOfInt .f64 y) = some (floatOfInt .f64 x) ∧ floatBits .add .f64 (floatOfInt .f64 x) 0 = some (floatOfInt .f64 x) := by
  have r1 : Rep (floatOfInt .f64 x) (decide (x < 0)) x.natAbs 0 := rep_near _ _ 0 (by omega) (by omega) (by omega)
  have r2 : Rep (floatOfInt .f64 y) (decide (y < 0)) y.natAbs 0 := rep_near _ _ 0 (by omega) (by omega) (by omega)
  have r0 : Rep 0 false 0 0 := by
    have h0 := rep_near false 0 0 (by omega) (by omega) (by omega)
    rwa [show Ieee.double.nearest false 0 0 = 0 from by decide] at h0
  have hs := add_rep r1 r2 (by rw [sv_dec, sv_dec]; omega) (by omega) (by omega)
  rw [sv_dec, sv_dec] at hs
  have r3 : Rep (Ieee.double.nearest (if x + y = 0 then decide (x < 0) && decide (y < 0) else decide (x + y < 0)) (x + y).natAbs 0) (if x + y = 0 then decide (x < 0) && decide (y < 0) else decide (x + y < 0)) (x + y).natAbs 0 := rep_near _ _ 0 (by omega) (by omega) (by omega)
  have ht := sub_rep r3 r2 (by rw [sv_if, sv_not, sv_dec]; omega) (by omega) (by omega)
  rw [sv_if, sv_not, sv_dec] at ht
  have hz := add_rep r1 r0 (by rw [sv_dec]; simp [sv]; omega) (by omega) (by omega)
  rw [sv_dec] at hz
  have ez : x + sv false 0 = x := by simp [sv]
  rw [ez] at hz
  have e1 : x + y + -y = x := by omega
  rw [e1] at ht
  refine ⟨_, hs, ⟨_, _, r3, sv_if⟩, ?_, ?_⟩
  · refine ht.trans ?_
    have : (if x = 0 then (if x + y = 0 then decide (x < 0) && decide (y < 0) else decide (x + y < 0)) && !decide (y < 0) else decide (x < 0)) = decide (x < 0) := by
      by_cases h : x = 0
      · subst h
        by_cases h2 : y = 0
        · subst h2; simp
        · simp [h2]
      · simp [h]
    rw [this]
    rfl
  · refine hz.trans ?_
    have : (if x = 0 then decide (x < 0) && false else decide (x < 0)) = decide (x < 0) := by
      by_cases h : x = 0
      · subst h; simp
      · simp [h]
    rw [this]
    rfl

set_option maxRecDepth 100000 in
theorem main (a b c d : Int) (w : World) (a0 : -30000 ≤ a) (a1 : a ≤ 30000) (b0 : -30000 ≤ b) (b1 : b ≤ 30000) (c0 : -30000 ≤ c) (c1 : c ≤ 30000) (d0 : -30000 ≤ d) (d1 : d ≤ 30000) :
    Calls Try.prog 4 #[.int .i64 a, .int .i64 b, .int .i64 c, .int .i64 d] w fun e w' => e = .returned (.bool true) ∧ Pure w w' := by
  have p1 := prod_bd a c a0 a1 c0 c1
  have p2 := prod_bd b d b0 b1 d0 d1
  have p3 := prod_bd a d a0 a1 d0 d1
  have p4 := prod_bd b c b0 b1 c0 c1
  obtain ⟨re, im, hm, ire, iim, lre, lim⟩ := mulIs_of (isI_of a (by omega)) (isI_of b (by omega)) (isI_of c (by omega)) (isI_of d (by omega)) (by omega) (by omega) (by omega) (by omega) (by omega) (by omega)
  obtain ⟨sr, hs1, is1, hs2, hs3⟩ := sub_back a c (by omega) (by omega)
  obtain ⟨si, ht1, it1, ht2, ht3⟩ := sub_back b d (by omega) (by omega)
  have q1 := fun w : World => run_convert_float_int (P := Try.prog) w 24 3 .f64 .i64 re _ (by kernel_rfl) Try.underlying3 (isI_toInt ire (by omega) (by omega))
  have q2 := fun w : World => run_convert_float_int (P := Try.prog) w 24 3 .f64 .i64 im _ (by kernel_rfl) Try.underlying3 (isI_toInt iim (by omega) (by omega))
  have q3 := fun w : World => run_convert_float_int (P := Try.prog) w 24 3 .f64 .i64 sr _ (by kernel_rfl) Try.underlying3 (isI_toInt is1 (by omega) (by omega))
  have q4 := fun w : World => run_convert_float_int (P := Try.prog) w 24 3 .f64 .i64 si _ (by kernel_rfl) Try.underlying3 (isI_toInt it1 (by omega) (by omega))
  have hsame : sameB (floatOfInt .f64 a) (floatOfInt .f64 b) (floatOfInt .f64 a) (floatOfInt .f64 b) = true := by simp [sameB]
  have l1 : -900000000 ≤ a * c := by omega
  have l2 : a * c ≤ 900000000 := by omega
  have l3 : -900000000 ≤ b * d := by omega
  have l4 : b * d ≤ 900000000 := by omega
  have l5 : -900000000 ≤ a * d := by omega
  have l6 : a * d ≤ 900000000 := by omega
  have l7 : -900000000 ≤ b * c := by omega
  have l8 : b * c ≤ 900000000 := by omega
  have HM := Lib.hid hm; have HS1 := Lib.hid hs1; have HS2 := Lib.hid hs2; have HS3 := Lib.hid hs3; have HT1 := Lib.hid ht1; have HT2 := Lib.hid ht2; have HT3 := Lib.hid ht3
  clear hm ire iim lre lim hs1 is1 hs2 hs3 ht1 it1 ht2 ht3 p1 p2 p3 p4
  have HSAME := Lib.hid hsame
  clear hsame
  go_enter Try.func4, Try.ntmps4
  go_wp2_with fail
  refine (first_any _).mono ?_
  rintro e w1 ⟨rfl, hp1⟩
  have P1 := Lib.hid hp1
  clear hp1
  go_wp2_with fail
  refine (mul_any _ _ _ _ _ _ HM.out _).mono ?_
  rintro e w2 ⟨rfl, rfl⟩
  go_wp2_with fail
  refine (add_any _ _ _ _ _ _ HS1.out HT1.out _).mono ?_
  rintro e w2 ⟨rfl, rfl⟩
  go_wp2_with fail
  refine (first_any _).mono ?_
  rintro e w8 ⟨rfl, hp8⟩
  have P8 := Lib.hid hp8
  clear hp8
  go_wp2_with fail
  refine (sub_any _ _ _ _ _ _ HS2.out HT2.out _).mono ?_
  rintro e w2 ⟨rfl, rfl⟩
  go_wp2_with fail
  refine (add_any _ _ _ _ _ _ HS3.out HT3.out _).mono ?_
  rintro e w2 ⟨rfl, rfl⟩
  go_wp2_with fail
  refine (same_any _ _ _ _ _).mono ?_
  rintro e w2 ⟨rfl, rfl⟩
  rw [HSAME.out]
  go_wp2
  go_ret
  exact ⟨rfl, P1.out.then P8.out⟩

theorem walk (w : World) (a : Int) (_ha : -9223372036854775808 ≤ a ∧ a ≤ 9223372036854775807) (b : Int) (_hb : -9223372036854775808 ≤ b ∧ b ≤ 9223372036854775807) (c : Int) (_hc : -9223372036854775808 ≤ c ∧ c ≤ 9223372036854775807) (d : Int) (_hd : -9223372036854775808 ≤ d ∧ d ≤ 9223372036854775807) :
    Calls Try.prog 4 #[.int .i64 a, .int .i64 b, .int .i64 c, .int .i64 d] w fun e w' => e = .returned (.bool true) ∧ Pure w w' := by
  by_cases h : a < -30000 ∨ 30000 < a ∨ b < -30000 ∨ 30000 < b ∨ c < -30000 ∨ 30000 < c ∨ d < -30000 ∨ 30000 < d
  · exact out a b c d w h
  · exact main a b c d w (by omega) (by omega) (by omega) (by omega) (by omega) (by omega) (by omega) (by omega)

set_option maxRecDepth 100000 in
theorem lifted (os : Os) (started : os.Started) (H : Type) (enc : TypeId × Value → H) :
    ReturnsInHanded {} Try.checked os 4 .any (Rows.numSmallSpec.pre6 enc Try.prog Try.f4 Rows.numSmallRow.domain false) (Rows.numSmallSpec.post enc Try.prog Try.f4 false true false false) :=
  lift_law (C := Try.checked) own started (by kernel_rfl) Try.func4 laidOut (by kernel_rfl) rfl rfl Try.underlying4
    (fun ds h => by match ds, h with | [_, _, _, _], _ => rfl)
    (ChangeSpec.witness6 (enc := enc) (C := Try.checked) false ⟨#[], #[.int .i64 0, .int .i64 0, .int .i64 0, .int .i64 0], []⟩ 8 (by kernel_rfl) (by kernel_rfl) (by kernel_rfl) (by kernel_rfl))
    (fun W base args ds ps hval hA hlt => by
      have hA' : DataW.TrodAll enc Try.prog W 0 (fun _ => true) true Try.f4.params.toList args.toList ds ps := hA
      rw [Try.params4] at hA'
      have hval' : ∀ (j : Nat) t v, Try.f4.params[j]? = some t → args[j]? = some v → Value.okWide Try.prog W .any base t v := hval
      rw [Try.params4] at hval'
      obtain ⟨v0, vs0, d0, ds0, p0, q0, hargs, rfl, rfl, h0, r0⟩ := trodAll_cons hA'
      obtain ⟨v1, vs1, d1, ds1, p1, q1, rfl, rfl, rfl, h1, r1⟩ := trodAll_cons r0
      obtain ⟨v2, vs2, d2, ds2, p2, q2, rfl, rfl, rfl, h2, r2⟩ := trodAll_cons r1
      obtain ⟨v3, vs3, d3, ds3, p3, q3, rfl, rfl, rfl, h3, r3⟩ := trodAll_cons r2
      obtain ⟨rfl, rfl, rfl⟩ := trodAll_nil r3
      obtain rfl : args = #[v0, v1, v2, v3] := by cases args; simp_all
      obtain ⟨a0, rfl, rfl, rfl, w0⟩ := open_int Try.underlying3 (hval' 0 3 v0 rfl rfl) h0
      obtain ⟨a1, rfl, rfl, rfl, w1⟩ := open_int Try.underlying3 (hval' 1 3 v1 rfl rfl) h1
      obtain ⟨a2, rfl, rfl, rfl, w2⟩ := open_int Try.underlying3 (hval' 2 3 v2 rfl rfl) h2
      obtain ⟨a3, rfl, rfl, rfl, w3⟩ := open_int Try.underlying3 (hval' 3 3 v3 rfl rfl) h3
      exact (walk W a0 (int_bounds w0) a1 (int_bounds w1) a2 (int_bounds w2) a3 (int_bounds w3)).mono fun e W' ⟨he, hp⟩ => ⟨he, hp.below⟩)

/-- The statement. -/
theorem proved : Rows.NumSmallSaid :=
  OpenClaim.holds_of_wide 4 Try.f4 rfl rfl rfl rfl rfl rfl rfl ⟨rfl, rfl, rfl, rfl, rfl⟩ rfl rfl rfl rfl rfl (by kernel_rfl) Try.func4 (by kernel_rfl)
    (of_decide_eq_true (by kernel_rfl)) (by unfold Func.isWrapper; first | (rw [if_pos (by decide +kernel)]; kernel_rfl) | (rw [if_neg (by decide +kernel)]; exact ⟨rfl, rfl⟩))
    (fun os started H enc _ => lifted os started H enc)
#print axioms proved

end numSmall
end Go.Proofs.Ytfgkomkilkcfiaa
