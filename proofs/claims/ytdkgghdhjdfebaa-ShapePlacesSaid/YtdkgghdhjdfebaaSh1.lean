/-
  Chapter 3's own 'first', and ShapeArrays: an array has a sentinel and a fragment for each eight elements; its spine is two words more than these, or none. For every input.
-/
import Derived.Test.YtdkgghdhjdfebaaShape
namespace Go.Proofs.Ytdkgghdhjdfebaa
open Go.RowKit

theorem first_any (w : World) : Calls Try.prog 7 #[] w fun e w' => e = .returned (.bool true) ∧ Pure w w' := by
  have hmk : ∀ w : World, (Instr.makeSlice 22 (.int .i64 7) (.int .i64 7)).run Try.prog w = .ok (.slice (some ⟨w.heap.size, 0, none⟩) 7 7) (w.alloc (.cells #[.bool false, .bool false, .bool false, .bool false, .bool false, .bool false, .bool false] 4)) := fun _ => by kernel_rfl
  go_enter Try.func7, Try.ntmps7
  go_wp2_with fail
  refine (place_yes false _ 7 7 6 _ (by omega) (by decide)).mono ?_
  rintro e w1 ⟨rfl, hp1⟩
  rw [show placeF 6 = 1 from by decide, show placeW 6 = 1 from by decide]
  have c0 := hp1.keep (p := ⟨w.heap.size + 1, 0, none⟩) (v := .bool false) (by simp)
  have c1 := hp1.keep (p := ⟨w.heap.size + 1, 1, none⟩) (v := .slice (some ⟨w.heap.size, 0, none⟩) 7 7) (by simp)
  have P1 := Lib.hid (Pure.then (((Only.refl _ w).alloc _).alloc _) hp1)
  clear hp1
  go_wp2_with fail
  refine (size_any false _ 7 7 0 w1 (by omega)).mono ?_
  rintro e w2 ⟨rfl, hp2⟩
  rw [show sizeI false 7 0 = 2 from by decide]
  have P2 := Lib.hid hp2
  clear hp2
  go_wp2_with fail
  refine (spine_any true _ 1 1 40 _ (by omega)).mono ?_
  rintro e w3 ⟨rfl, hp3⟩
  rw [show spineI true 1 40 = 7 from by decide]
  have P3 := Lib.hid hp3
  clear hp3
  go_wp2
  go_ret
  exact ⟨rfl, Pure.then (Pure.then P1.out (P2.out.alloc _)) P3.out⟩

namespace shapeArrays
open Go.ChangeShapes Go.WideShapes Go.ChangeAt

theorem walk (w : World) (r : Bool) (n : Int) (hb : -9223372036854775808 ≤ n ∧ n ≤ 9223372036854775807) :
    Calls Try.prog 4 #[.bool r, .int .i64 n] w fun e w' => e = .returned (.bool true) ∧ Pure w w' := by
  go_enter Try.func4, Try.ntmps4
  go_wp2_with fail
  refine (first_any _).mono ?_
  rintro e w1 ⟨rfl, hp1⟩
  have P1 := Lib.hid hp1
  clear hp1
  go_wp2_with fail
  have oW : Pure w ((w1.alloc (.cells #[.bool r] 4)).alloc (.cells #[.bool true, .slice (some ⟨w1.heap.size, 0, none⟩) 1 1] 24)) := (P1.out.alloc _).alloc _
  have c0 : ((w1.alloc (.cells #[.bool r] 4)).alloc (.cells #[.bool true, .slice (some ⟨w1.heap.size, 0, none⟩) 1 1] 24)).cell? ⟨w1.heap.size + 1, 0, none⟩ = some (.bool true) := by simp
  have c1 : ((w1.alloc (.cells #[.bool r] 4)).alloc (.cells #[.bool true, .slice (some ⟨w1.heap.size, 0, none⟩) 1 1] 24)).cell? ⟨w1.heap.size + 1, 1, none⟩ = some (.slice (some ⟨w1.heap.size, 0, none⟩) 1 1) := by simp
  generalize (w1.alloc (.cells #[.bool r] 4)).alloc (.cells #[.bool true, .slice (some ⟨w1.heap.size, 0, none⟩) 1 1] 24) = W at *
  generalize w1.heap.size = B at *
  have OW := Lib.hid oW
  clear oW
  have hk : ∀ a b : World, (a.cell? ⟨B + 1, 0, none⟩ = some (.bool true) ∧ a.cell? ⟨B + 1, 1, none⟩ = some (.slice (some ⟨B, 0, none⟩) 1 1) ∧ Pure w a) → Pure a b →
      (b.cell? ⟨B + 1, 0, none⟩ = some (.bool true) ∧ b.cell? ⟨B + 1, 1, none⟩ = some (.slice (some ⟨B, 0, none⟩) 1 1) ∧ Pure w b) := fun a b h k => ⟨k.keep h.1, k.keep h.2.1, h.2.2.then k⟩
  have HK := Lib.hid hk
  clear hk
  go_region_held3 (fun w' => w'.cell? ⟨B + 1, 0, none⟩ = some (.bool true) ∧ w'.cell? ⟨B + 1, 1, none⟩ = some (.slice (some ⟨B, 0, none⟩) 1 1) ∧ Pure w w') ((first | assumption | exact ⟨c0, c1, OW.out.drewN 1⟩))
    (first
      | (go_at_call 12; refine (withS (by assumption) HK.out (same_pure (data_any n _))).mono ?_; rintro e w' ⟨rfl, hs⟩)
      | (go_at_call 10; refine (withS (by assumption) HK.out (size_any true _ 1 1 n _ (by omega))).mono ?_; rintro e w' ⟨rfl, hs⟩)
      | (go_at_call 13; refine (withS (by assumption) HK.out (spine_any true _ 1 1 n _ (by omega))).mono ?_; rintro e w' ⟨rfl, hs⟩))
  rename_i hs
  have HS := Lib.hid hs.2.2
  clear hs c0 c1 OW HK
  by_cases hout : n < 0 ∨ 512 < n
  · have e1 : dataI n = 0 := by rw [dataI, if_pos (by omega)]
    have e2 : sizeI true 1 n = -1 := by rw [sizeI, if_pos (by simp; omega)]
    have e3 : spineI true 1 n = 0 := by rw [spineI, if_pos (by rw [e1]; simp)]
    rw [e1, e2, e3]
    clear e1 e2 e3
    have hout' : (n < 0) ∨ (¬ n < 0 ∧ 512 < n) := by omega
    clear hout
    rcases hout' with h1 | ⟨h1, h2⟩
    all_goals
      go_wp2_with fail
      refine (first_any _).mono ?_
      rintro e w8 ⟨rfl, hp8⟩
      have P8 := Lib.hid hp8
      clear hp8
      go_wp2
      go_ret
      exact ⟨rfl, HS.out.then P8.out⟩
  · have h1 : ¬ n < 0 := by omega
    have h2 : ¬ 512 < n := by omega
    have e2 : sizeI true 1 n = 1 + dataI n := by rw [sizeI, if_neg (by simp [mayB]; omega)]; simp
    have e3 : dataI n ≤ 4 → spineI true 1 n = 0 := by intro h; rw [spineI, if_pos (by simp [h])]
    have e4 : ¬ dataI n ≤ 4 → spineI true 1 n = dataI n + 2 := by intro h; rw [spineI, if_neg (by simp [mayB]; omega)]
    have e1 : dataI n = if n < 1 ∨ 512 < n then 0 else (n + 7) / 8 := rfl
    rw [e2]
    generalize spineI true 1 n = sp at *
    generalize dataI n = D at *
    clear hout e2
    by_cases hz : n = 0
    · subst hz
      have e5 : D = 0 := by simpa using e1
      subst e5
      have e6 : sp = 0 := e3 (by omega)
      subst e6
      clear e1 e3 e4
      go_wp2_with fail
      refine (first_any _).mono ?_
      rintro e w8 ⟨rfl, hp8⟩
      have P8 := Lib.hid hp8
      clear hp8
      go_wp2
      go_ret
      exact ⟨rfl, HS.out.then P8.out⟩
    · rw [if_neg (by omega)] at e1
      have q1 : ¬ 8 * D < n := by omega
      have q2 : ¬ n ≤ 8 * (D - 1) := by omega
      have q3 : 1 ≤ D := by omega
      have q4 : D ≤ 64 := by omega
      have q5 : (n == 0) = false := by simpa using hz
      have q6 : (1 + D != D + 1) = false := by simp; omega
      clear e1
      by_cases h4 : D ≤ 4
      · obtain rfl := e3 h4
        clear e3 e4
        go_wp2_with fail
        refine (first_any _).mono ?_
        rintro e w8 ⟨rfl, hp8⟩
        have P8 := Lib.hid hp8
        clear hp8
        go_wp2
        go_ret
        exact ⟨rfl, HS.out.then P8.out⟩
      · obtain rfl := e4 h4
        clear e3 e4
        go_wp2_with fail
        refine (first_any _).mono ?_
        rintro e w8 ⟨rfl, hp8⟩
        have P8 := Lib.hid hp8
        clear hp8
        go_wp2
        go_ret
        exact ⟨rfl, HS.out.then P8.out⟩

set_option maxRecDepth 100000 in
theorem lifted (os : Os) (started : os.Started) (H : Type) (enc : TypeId × Value → H) :
    ReturnsInHanded {} Try.checked os 4 .any (Rows.shapeArraysSpec.pre6 enc Try.prog Try.f4 Rows.shapeArraysRow.domain false) (Rows.shapeArraysSpec.post enc Try.prog Try.f4 false true false false) :=
  lift_law (C := Try.checked) own started (by kernel_rfl) Try.func4 laidOut (by kernel_rfl) rfl rfl Try.underlying4
    (fun ds h => by match ds, h with | [_, _], _ => rfl)
    (ChangeSpec.witness6 (enc := enc) (C := Try.checked) false ⟨#[], #[.bool false, .int .i64 0], []⟩ 8 (by kernel_rfl) (by kernel_rfl) (by kernel_rfl) (by kernel_rfl))
    (fun W base args ds ps hval hA hlt => by
      have hA' : DataW.TrodAll enc Try.prog W 0 (fun _ => true) true Try.f4.params.toList args.toList ds ps := hA
      rw [Try.params4] at hA'
      have hval' : ∀ (j : Nat) t v, Try.f4.params[j]? = some t → args[j]? = some v → Value.okWide Try.prog W .any base t v := hval
      rw [Try.params4] at hval'
      obtain ⟨v0, vs0, d0, ds0, p0, q0, hargs, rfl, rfl, h0, r0⟩ := trodAll_cons hA'
      obtain ⟨v1, vs1, d1, ds1, p1, q1, rfl, rfl, rfl, h1, r1⟩ := trodAll_cons r0
      obtain ⟨rfl, rfl, rfl⟩ := trodAll_nil r1
      obtain rfl : args = #[v0, v1] := by cases args; simp_all
      obtain ⟨a0, rfl, rfl, rfl⟩ := open_bool Try.underlying4 (hval' 0 4 v0 rfl rfl) h0
      obtain ⟨a1, rfl, rfl, rfl, w1⟩ := open_int Try.underlying3 (hval' 1 3 v1 rfl rfl) h1
      exact (walk W a0 a1 (int_bounds w1)).mono fun e W' ⟨he, hp⟩ => ⟨he, hp.below⟩)

/-- The statement. -/
theorem proved : Rows.ShapeArraysSaid :=
  OpenClaim.holds_of_wide 4 Try.f4 rfl rfl rfl rfl rfl rfl rfl ⟨rfl, rfl, rfl, rfl, rfl⟩ rfl rfl rfl rfl rfl (by kernel_rfl) Try.func4 (by kernel_rfl)
    (of_decide_eq_true (by kernel_rfl)) (by unfold Func.isWrapper; first | (rw [if_pos (by decide +kernel)]; kernel_rfl) | (rw [if_neg (by decide +kernel)]; exact ⟨rfl, rfl⟩))
    (fun os started H enc _ => lifted os started H enc)
#print axioms proved

end shapeArrays
end Go.Proofs.Ytdkgghdhjdfebaa
