/-
  Chapter 2's own 'first', and WordFar: references to far fragments, and heads of great numbers, come back to the last one; one more is none. For every input.
-/
import Derived.Test.YtloklfmpihaiiaaWord
namespace Go.Proofs.Ytloklfmpihaiiaa
open Go.RowKit

theorem f1 : floatOfInt .f64 1 = 4607182418800017408 := by decide +kernel
theorem f0 : floatOfInt .f64 0 = 0 := by decide +kernel

theorem index_none (w : World) : Calls Try.prog 10 #[.complex .f64 0 4607182418800017408] w fun e w' => e = .returned (.tuple #[.int .i64 0, .bool false]) ∧ w = w' :=
  index_no 0 _ 0 true w (fun w => by have h := int_whole 0 w (by omega); rwa [f0] at h) (.inr (by omega))

theorem first_any (w : World) : Calls Try.prog 6 #[] w fun e w' => e = .returned (.bool true) ∧ Pure w w' := by
  go_enter Try.func6, Try.ntmps6
  go_wp2_with fail
  refine (ref_in 4 w (by omega) (by omega)).mono ?_
  rintro e w1 ⟨rfl, rfl⟩
  go_wp2_with fail
  refine (index_yes 5 w (by omega) (by omega)).mono ?_
  rintro e w1 ⟨rfl, rfl⟩
  go_wp2_with fail
  refine (none_any w).mono ?_
  rintro e w1 ⟨rfl, rfl⟩
  go_wp2_with fail
  refine (index_none w).mono ?_
  rintro e w1 ⟨rfl, rfl⟩
  go_wp2_with fail
  refine (ref_in 0 w (by omega) (by omega)).mono ?_
  rintro e w1 ⟨rfl, rfl⟩
  rw [show (0 : Int) + 1 = 1 from rfl, f1]
  go_wp2_with fail
  refine (word_any _ _ _ _ w (by omega) (by omega) (by omega) (by omega)).mono ?_
  rintro e w1 ⟨rfl, rfl⟩
  rw [show sameB 4607182418800017408 4607182418800017408 4607182418800017408 4607182418800017408 = true from by simp [sameB]]
  go_wp2_with fail
  refine (none_any w).mono ?_
  rintro e w1 ⟨rfl, rfl⟩
  go_wp2_with fail
  refine (is_no 0 _ 0 w index_none).mono ?_
  rintro e w1 ⟨rfl, rfl⟩
  rw [show sameB 0 4607182418800017408 0 4607182418800017408 = true from by simp [sameB]]
  go_wp2
  go_ret
  exact ⟨rfl, Only.refl _ _⟩

namespace wordFar
open Go.ChangeShapes Go.WideShapes Go.ChangeAt

theorem out (i : Int) (w : World) (h : i < 0 ∨ 1000 < i) :
    Calls Try.prog 5 #[.int .i64 i] w fun e w' => e = .returned (.bool true) ∧ Pure w w' := by
  have h' : (i < 0) ∨ (¬ i < 0 ∧ 1000 < i) := by omega
  clear h
  rcases h' with h1 | ⟨h1, h2⟩
  all_goals
    go_enter Try.func5, Try.ntmps5
    go_wp2_with fail
    refine (first_any _).mono ?_
    rintro e w1 ⟨rfl, hp1⟩
    have P1 := Lib.hid hp1
    clear hp1
    go_wp2_with fail
    refine (first_any _).mono ?_
    rintro e w8 ⟨rfl, hp8⟩
    have P8 := Lib.hid hp8
    clear hp8
    go_wp2
    go_ret
    exact ⟨rfl, P1.out.then P8.out⟩

set_option maxRecDepth 100000 in
theorem main (i : Int) (w : World) (h0 : 0 ≤ i) (h1 : i ≤ 1000) :
    Calls Try.prog 5 #[.int .i64 i] w fun e w' => e = .returned (.bool true) ∧ Pure w w' := by
  have l1 := floatOfInt_lt i
  go_enter Try.func5, Try.ntmps5
  go_wp2_with fail
  refine (first_any _).mono ?_
  rintro e w1 ⟨rfl, hp1⟩
  have P1 := Lib.hid hp1
  clear hp1
  go_wp2_with fail
  refine (ref_in (1099511627776 - i) _ (by omega) (by omega)).mono ?_
  rintro e w2 ⟨rfl, rfl⟩
  go_wp2_with fail
  refine (index_yes (1099511627776 - i + 1) _ (by omega) (by omega)).mono ?_
  rintro e w2 ⟨rfl, rfl⟩
  rw [show (1099511627776 - i + 1 - 1 : Int) = 1099511627776 - i from by omega]
  go_wp2_with fail
  refine (head_in (1099511627776 - i) i _ (by omega) (by omega) (by omega) (by omega)).mono ?_
  rintro e w2 ⟨rfl, rfl⟩
  go_wp2_with fail
  refine (tell_yes (1099511627776 - i) i _ (by omega) (by omega) (by omega) (by omega)).mono ?_
  rintro e w2 ⟨rfl, rfl⟩
  go_wp2_with fail
  refine (first_any _).mono ?_
  rintro e w8 ⟨rfl, hp8⟩
  have P8 := Lib.hid hp8
  clear hp8
  go_wp2_with fail
  refine (ref_no _ _ (.inr (by omega))).mono ?_
  rintro e w2 ⟨rfl, rfl⟩
  go_wp2_with fail
  refine (none_any _).mono ?_
  rintro e w2 ⟨rfl, rfl⟩
  go_wp2_with fail
  refine (word_any _ _ _ _ _ (by omega) (by omega) (by omega) (by omega)).mono ?_
  rintro e w2 ⟨rfl, rfl⟩
  rw [show sameB 0 4607182418800017408 0 4607182418800017408 = true from by simp [sameB]]
  go_wp2_with fail
  refine (head_no _ _ _ (.inr (.inl (by omega)))).mono ?_
  rintro e w2 ⟨rfl, rfl⟩
  go_wp2_with fail
  refine (word_any _ _ _ _ _ (by omega) (by omega) (by omega) (by omega)).mono ?_
  rintro e w2 ⟨rfl, rfl⟩
  rw [show sameB 0 0 0 0 = true from by simp [sameB]]
  go_wp2_with fail
  refine (head_no _ _ _ (.inr (.inr (.inl (by omega))))).mono ?_
  rintro e w2 ⟨rfl, rfl⟩
  go_wp2_with fail
  refine (word_any _ _ _ _ _ (by omega) (by omega) (by omega) (by omega)).mono ?_
  rintro e w2 ⟨rfl, rfl⟩
  rw [show sameB 0 0 0 0 = true from by simp [sameB]]
  go_wp2
  go_ret
  exact ⟨rfl, P1.out.then P8.out⟩

theorem walk (w : World) (i : Int) (_h : -9223372036854775808 ≤ i ∧ i ≤ 9223372036854775807) :
    Calls Try.prog 5 #[.int .i64 i] w fun e w' => e = .returned (.bool true) ∧ Pure w w' := by
  by_cases h : i < 0 ∨ 1000 < i
  · exact out i w h
  · exact main i w (by omega) (by omega)

set_option maxRecDepth 100000 in
theorem lifted (os : Os) (started : os.Started) (H : Type) (enc : TypeId × Value → H) :
    ReturnsInHanded {} Try.checked os 5 .any (Rows.wordFarSpec.pre6 enc Try.prog Try.f5 Rows.wordFarRow.domain false) (Rows.wordFarSpec.post enc Try.prog Try.f5 false true false false) :=
  lift_law (C := Try.checked) own started (by kernel_rfl) Try.func5 laidOut (by kernel_rfl) rfl rfl Try.underlying4
    (fun ds h => by match ds, h with | [_], _ => rfl)
    (ChangeSpec.witness6 (enc := enc) (C := Try.checked) false ⟨#[], #[.int .i64 0], []⟩ 8 (by kernel_rfl) (by kernel_rfl) (by kernel_rfl) (by kernel_rfl))
    (fun W base args ds ps hval hA hlt => by
      have hA' : DataW.TrodAll enc Try.prog W 0 (fun _ => true) true Try.f5.params.toList args.toList ds ps := hA
      rw [Try.params5] at hA'
      have hval' : ∀ (j : Nat) t v, Try.f5.params[j]? = some t → args[j]? = some v → Value.okWide Try.prog W .any base t v := hval
      rw [Try.params5] at hval'
      obtain ⟨v0, vs0, d0, ds0, p0, q0, hargs, rfl, rfl, h0, r0⟩ := trodAll_cons hA'
      obtain ⟨rfl, rfl, rfl⟩ := trodAll_nil r0
      obtain rfl : args = #[v0] := by cases args; simp_all
      obtain ⟨a0, rfl, rfl, rfl, w0⟩ := open_int Try.underlying3 (hval' 0 3 v0 rfl rfl) h0
      exact (walk W a0 (int_bounds w0)).mono fun e W' ⟨he, hp⟩ => ⟨he, hp.below⟩)

/-- The statement. -/
theorem proved : Rows.WordFarSaid :=
  OpenClaim.holds_of_wide 5 Try.f5 rfl rfl rfl rfl rfl rfl rfl ⟨rfl, rfl, rfl, rfl, rfl⟩ rfl rfl rfl rfl rfl (by kernel_rfl) Try.func5 (by kernel_rfl)
    (of_decide_eq_true (by kernel_rfl)) (by unfold Func.isWrapper; first | (rw [if_pos (by decide +kernel)]; kernel_rfl) | (rw [if_neg (by decide +kernel)]; exact ⟨rfl, rfl⟩))
    (fun os started H enc _ => lifted os started H enc)
#print axioms proved

end wordFar
end Go.Proofs.Ytloklfmpihaiiaa
