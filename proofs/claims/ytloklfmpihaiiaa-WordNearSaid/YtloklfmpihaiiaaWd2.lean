/-
  WordBack: references come back, unlike ones are unlike words; heads come back. For every input.
-/
import Derived.Test.YtloklfmpihaiiaaWd1
namespace Go.Proofs.Ytloklfmpihaiiaa
open Go.RowKit

/-- Is, of a head: it is one just if its mode is 1. -/
theorem is_head (i m : Int) (w : World) (h0 : 0 ≤ i) (h1 : i ≤ 1099511627776) (h2 : 0 ≤ m) (h3 : m ≤ 1099511627776) :
    Calls Try.prog 11 #[.complex .f64 (floatOfInt .f64 i) (floatOfInt .f64 m)] w fun e w' => e = .returned (.bool (decide (m = 1))) ∧ w = w' := by
  have hs : ∀ x u : Nat, sameB x (floatOfInt .f64 m) u 4607182418800017408 = (partB x == partB u && decide (m = 1)) := by
    intro x u
    unfold sameB
    rw [part_f m (by omega), part_one]
    congr 1
    rw [Bool.eq_iff_iff, beq_iff_eq, decide_eq_true_eq, ← f1]
    exact ⟨f_inj (by omega) (by omega), fun h => by rw [h]⟩
  by_cases hm : m = 1
  · subst hm
    rw [f1]
    by_cases hi : i = 0
    · subst hi
      rw [f0]
      refine (is_no 0 _ 0 w index_none).mono ?_
      rintro e w' ⟨rfl, rfl⟩
      exact ⟨rfl, rfl⟩
    · refine (is_yes _ _ (i - 1) w (fun w => index_yes i w (by omega) (by omega))).mono ?_
      rintro e w' ⟨rfl, rfl⟩
      exact ⟨rfl, rfl⟩
  · have hidx : ∀ w : World, Calls Try.prog 10 #[.complex .f64 (floatOfInt .f64 i) (floatOfInt .f64 m)] w fun e w' => e = .returned (.tuple #[.int .i64 0, .bool false]) ∧ w = w' := by
      intro w
      by_cases hi : i = 0
      · subst hi
        exact index_no _ _ 0 true w (fun w => int_whole 0 w (by omega)) (.inr (by omega))
      · exact index_other i _ w (by omega) (by omega) (by rw [hs]; simp [hm])
    refine (is_no _ _ 0 w hidx).mono ?_
    rintro e w' ⟨rfl, rfl⟩
    exact ⟨by rw [hs]; simp [hm], rfl⟩

namespace wordBack
open Go.ChangeShapes Go.WideShapes Go.ChangeAt

/-- Is, of what Head gives where one of its numbers is the mode 0. -/
theorem head_is0 (i : Int) (w : World) : Calls Try.prog 12 #[.int .i64 i, .int .i64 0] w fun e w' => (∃ k : Int, 0 ≤ k ∧ k ≤ 1099511627776 ∧ e = .returned (.complex .f64 (floatOfInt .f64 k) 0)) ∧ w = w' := by
  by_cases h : i < 0 ∨ 1099511627776 < i
  · refine (head_no i 0 w (by omega)).mono ?_
    rintro e w' ⟨rfl, rfl⟩
    exact ⟨⟨0, by omega, by omega, by rw [f0]⟩, rfl⟩
  · refine (head_in i 0 w (by omega) (by omega) (by omega) (by omega)).mono ?_
    rintro e w' ⟨rfl, rfl⟩
    exact ⟨⟨i, by omega, by omega, by rw [f0]⟩, rfl⟩

set_option maxRecDepth 100000 in
set_option maxHeartbeats 1000000 in
theorem out (i j m : Int) (w : World) (h : i < 0 ∨ 1099511627776 < i ∨ j < 0 ∨ 1099511627776 < j ∨ m < 0 ∨ 1099511627776 < m) :
    Calls Try.prog 4 #[.int .i64 i, .int .i64 j, .int .i64 m] w fun e w' => e = .returned (.bool true) ∧ Pure w w' := by
  have h' : (i < 0) ∨ (¬ i < 0 ∧ 1099511627776 < i) ∨ (¬ i < 0 ∧ ¬ 1099511627776 < i ∧ j < 0) ∨ (¬ i < 0 ∧ ¬ 1099511627776 < i ∧ ¬ j < 0 ∧ 1099511627776 < j) ∨ (¬ i < 0 ∧ ¬ 1099511627776 < i ∧ ¬ j < 0 ∧ ¬ 1099511627776 < j ∧ m < 0) ∨ (¬ i < 0 ∧ ¬ 1099511627776 < i ∧ ¬ j < 0 ∧ ¬ 1099511627776 < j ∧ ¬ m < 0 ∧ 1099511627776 < m) := by omega
  clear h
  rcases h' with g1 | ⟨g1, g2⟩ | ⟨g1, g2, g3⟩ | ⟨g1, g2, g3, g4⟩ | ⟨g1, g2, g3, g4, g5⟩ | ⟨g1, g2, g3, g4, g5, g6⟩
  all_goals
    go_enter Try.func4, Try.ntmps4
    go_wp2_with fail
    refine (first_any _).mono ?_
    rintro e w1 ⟨rfl, hp1⟩
    have P1 := Lib.hid hp1
    clear hp1
    go_wp2_with fail
    refine (first_any _).mono ?_
    rintro e w8 ⟨rfl, hp8⟩
    have P8 := Lib.hid hp8
    clear hp8
    go_wp2_with fail
    refine (head_is0 i w8).mono ?_
    rintro e w2 ⟨⟨k, k0, k1, rfl⟩, rfl⟩
    go_wp2_with fail
    refine (show Calls _ _ _ _ _ from by have h := is_head k 0 w8 k0 k1 (by omega) (by omega); rw [f0] at h; exact h).mono ?_
    rintro e w2 ⟨rfl, rfl⟩
    go_wp2_with fail
    refine (show Calls _ _ _ _ _ from by have h := is_head 0 0 w8 (by omega) (by omega) (by omega) (by omega); rw [f0] at h; exact h).mono ?_
    rintro e w2 ⟨rfl, rfl⟩
    go_wp2
    go_ret
    exact ⟨rfl, P1.out.then P8.out⟩

set_option maxRecDepth 100000 in
set_option maxHeartbeats 2000000 in
theorem main (i j m : Int) (w : World) (i0 : 0 ≤ i) (i1 : i ≤ 1099511627776) (j0 : 0 ≤ j) (j1 : j ≤ 1099511627776) (m0 : 0 ≤ m) (m1 : m ≤ 1099511627776) :
    Calls Try.prog 4 #[.int .i64 i, .int .i64 j, .int .i64 m] w fun e w' => e = .returned (.bool true) ∧ Pure w w' := by
  have l1 := floatOfInt_lt (i + 1)
  have l2 := floatOfInt_lt (j + 1)
  have hsm : decide (i + 1 = j + 1) = (i == j) := by rw [Bool.eq_iff_iff]; simp
  have HSM := Lib.hid hsm
  clear hsm
  have hmm : ∃ mb : Bool, decide (m = 1) = mb ∧ (m == 1) = mb := ⟨decide (m = 1), rfl, by rw [Bool.eq_iff_iff]; simp⟩
  obtain ⟨mb, hm1, hm2⟩ := hmm
  have HM1 := Lib.hid hm1
  clear hm1
  cases hij : (i == j)
  all_goals
    cases mb
    all_goals
      go_enter Try.func4, Try.ntmps4
      go_wp2_with fail
      refine (first_any _).mono ?_
      rintro e w1 ⟨rfl, hp1⟩
      have P1 := Lib.hid hp1
      clear hp1
      go_wp2_with fail
      refine (ref_in i _ (by omega) (by omega)).mono ?_
      rintro e w2 ⟨rfl, rfl⟩
      go_wp2_with fail
      refine (index_yes (i + 1) _ (by omega) (by omega)).mono ?_
      rintro e w2 ⟨rfl, rfl⟩
      rw [show (i + 1 - 1 : Int) = i from by omega]
      go_wp2_with fail
      refine (head_in i m _ (by omega) (by omega) (by omega) (by omega)).mono ?_
      rintro e w2 ⟨rfl, rfl⟩
      go_wp2_with fail
      refine (tell_yes i m _ (by omega) (by omega) (by omega) (by omega)).mono ?_
      rintro e w2 ⟨rfl, rfl⟩
      go_wp2_with fail
      refine (ref_in i _ (by omega) (by omega)).mono ?_
      rintro e w2 ⟨rfl, rfl⟩
      go_wp2_with fail
      refine (ref_in j _ (by omega) (by omega)).mono ?_
      rintro e w2 ⟨rfl, rfl⟩
      go_wp2_with fail
      refine (word_any _ _ _ _ _ l1 (by omega) l2 (by omega)).mono ?_
      rintro e w2 ⟨rfl, rfl⟩
      rw [same_ref _ _ (by omega) (by omega), HSM.out, hij]
      go_wp2_with fail
      refine (first_any _).mono ?_
      rintro e w8 ⟨rfl, hp8⟩
      have P8 := Lib.hid hp8
      clear hp8
      go_wp2_with fail
      refine (ref_in i _ (by omega) (by omega)).mono ?_
      rintro e w2 ⟨rfl, rfl⟩
      go_wp2_with fail
      refine (is_yes _ _ (i + 1 - 1) _ (fun w => index_yes (i + 1) w (by omega) (by omega))).mono ?_
      rintro e w2 ⟨rfl, rfl⟩
      go_wp2_with fail
      refine (head_in i m _ (by omega) (by omega) (by omega) (by omega)).mono ?_
      rintro e w2 ⟨rfl, rfl⟩
      go_wp2_with fail
      refine (is_head i m _ (by omega) (by omega) (by omega) (by omega)).mono ?_
      rintro e w2 ⟨rfl, rfl⟩
      rw [HM1.out]
      go_wp2
      go_ret
      exact ⟨rfl, P1.out.then P8.out⟩

theorem walk (w : World) (i : Int) (_hi : -9223372036854775808 ≤ i ∧ i ≤ 9223372036854775807) (j : Int) (_hj : -9223372036854775808 ≤ j ∧ j ≤ 9223372036854775807) (m : Int) (_hm : -9223372036854775808 ≤ m ∧ m ≤ 9223372036854775807) :
    Calls Try.prog 4 #[.int .i64 i, .int .i64 j, .int .i64 m] w fun e w' => e = .returned (.bool true) ∧ Pure w w' := by
  by_cases h : i < 0 ∨ 1099511627776 < i ∨ j < 0 ∨ 1099511627776 < j ∨ m < 0 ∨ 1099511627776 < m
  · exact out i j m w h
  · exact main i j m w (by omega) (by omega) (by omega) (by omega) (by omega) (by omega)

set_option maxRecDepth 100000 in
theorem lifted (os : Os) (started : os.Started) (H : Type) (enc : TypeId × Value → H) :
    ReturnsInHanded {} Try.checked os 4 .any (Rows.wordBackSpec.pre6 enc Try.prog Try.f4 Rows.wordBackRow.domain false) (Rows.wordBackSpec.post enc Try.prog Try.f4 false true false false) :=
  lift_law (C := Try.checked) own started (by kernel_rfl) Try.func4 laidOut (by kernel_rfl) rfl rfl Try.underlying4
    (fun ds h => by match ds, h with | [_, _, _], _ => rfl)
    (ChangeSpec.witness6 (enc := enc) (C := Try.checked) false ⟨#[], #[.int .i64 0, .int .i64 0, .int .i64 0], []⟩ 8 (by kernel_rfl) (by kernel_rfl) (by kernel_rfl) (by kernel_rfl))
    (fun W base args ds ps hval hA hlt => by
      have hA' : DataW.TrodAll enc Try.prog W 0 (fun _ => true) true Try.f4.params.toList args.toList ds ps := hA
      rw [Try.params4] at hA'
      have hval' : ∀ (j : Nat) t v, Try.f4.params[j]? = some t → args[j]? = some v → Value.okWide Try.prog W .any base t v := hval
      rw [Try.params4] at hval'
      obtain ⟨v0, vs0, d0, ds0, p0, q0, hargs, rfl, rfl, h0, r0⟩ := trodAll_cons hA'
      obtain ⟨v1, vs1, d1, ds1, p1, q1, rfl, rfl, rfl, h1, r1⟩ := trodAll_cons r0
      obtain ⟨v2, vs2, d2, ds2, p2, q2, rfl, rfl, rfl, h2, r2⟩ := trodAll_cons r1
      obtain ⟨rfl, rfl, rfl⟩ := trodAll_nil r2
      obtain rfl : args = #[v0, v1, v2] := by cases args; simp_all
      obtain ⟨a0, rfl, rfl, rfl, w0⟩ := open_int Try.underlying3 (hval' 0 3 v0 rfl rfl) h0
      obtain ⟨a1, rfl, rfl, rfl, w1⟩ := open_int Try.underlying3 (hval' 1 3 v1 rfl rfl) h1
      obtain ⟨a2, rfl, rfl, rfl, w2⟩ := open_int Try.underlying3 (hval' 2 3 v2 rfl rfl) h2
      exact (walk W a0 (int_bounds w0) a1 (int_bounds w1) a2 (int_bounds w2)).mono fun e W' ⟨he, hp⟩ => ⟨he, hp.below⟩)

/-- The statement. -/
theorem proved : Rows.WordBackSaid :=
  OpenClaim.holds_of_wide 4 Try.f4 rfl rfl rfl rfl rfl rfl rfl ⟨rfl, rfl, rfl, rfl, rfl⟩ rfl rfl rfl rfl rfl (by kernel_rfl) Try.func4 (by kernel_rfl)
    (of_decide_eq_true (by kernel_rfl)) (by unfold Func.isWrapper; first | (rw [if_pos (by decide +kernel)]; kernel_rfl) | (rw [if_neg (by decide +kernel)]; exact ⟨rfl, rfl⟩))
    (fun os started H enc _ => lifted os started H enc)
#print axioms proved

end wordBack
end Go.Proofs.Ytloklfmpihaiiaa
