/-
  ShapeMore: a field more never makes an object smaller, and moves none of the others. For every input.
-/
import Derived.Test.YtdkgghdhjdfebaaSh2
import Derived.BigRegion
import Derived.StillTailTactics
namespace Go.Proofs.Ytdkgghdhjdfebaa.shapeMore
open Go.RowKit Go.ChangeShapes Go.WideShapes Go.ChangeAt

theorem out (n : Int) (A : Option Addr) (m c : Nat) (w : World) (hn : -9223372036854775808 ≤ n ∧ n ≤ 9223372036854775807) (hm : m ≤ 9223372036854775807) (h : n < 0 ∨ 40 ≤ n ∨ (m : Int) < n + 1 ∨ 1000 < m) :
    Calls Try.prog 5 #[.int .i64 n, .slice A m c] w fun e w' => e = .returned (.bool true) ∧ Pure w w' := by
  have h' : (n < 0) ∨ (¬ n < 0 ∧ 40 ≤ n) ∨ (¬ n < 0 ∧ ¬ 40 ≤ n ∧ (m : Int) < n + 1) ∨ (¬ n < 0 ∧ ¬ 40 ≤ n ∧ ¬ (m : Int) < n + 1 ∧ 1000 < m) := by omega
  clear h
  rcases h' with h1 | ⟨h1, h2⟩ | ⟨h1, h2, h3⟩ | ⟨h1, h2, h3, h4⟩
  all_goals
    go_enter Try.func5, Try.ntmps5
    go_wp2_with fail
    refine (first_any _).mono ?_
    rintro e w1 ⟨rfl, hp1⟩
    have P1 := Lib.hid hp1
    clear hp1
    go_wp2_with fail
    refine (first_any _).mono ?_
    rintro e w8 ⟨rfl, hp8⟩
    have P8 := Lib.hid hp8
    clear hp8
    go_wp2
    go_ret
    exact ⟨rfl, P1.out.then P8.out⟩

/-- Two shapes in blocks X and Y, the second with a field more. -/
def Pair (w : World) (X Y : Nat) (A : Option Addr) (n n1 c : Nat) (w' : World) : Prop :=
  w'.cell? ⟨X, 0, none⟩ = some (.bool false) ∧ w'.cell? ⟨X, 1, none⟩ = some (.slice A n c) ∧ w'.cell? ⟨Y, 0, none⟩ = some (.bool false) ∧ w'.cell? ⟨Y, 1, none⟩ = some (.slice A n1 c) ∧ Pure w w'
theorem Pair.keep {w : World} {X Y : Nat} {A : Option Addr} {n n1 c : Nat} (a b : World) (h : Pair w X Y A n n1 c a) (k : Pure a b) : Pair w X Y A n n1 c b :=
  ⟨k.keep h.1, k.keep h.2.1, k.keep h.2.2.1, k.keep h.2.2.2.1, h.2.2.2.2.then k⟩
theorem div7 (n : Nat) : (n : Int) / 7 ≤ ((n + 1 : Nat) : Int) / 7 ∧ ((n + 1 : Nat) : Int) / 7 ≤ (n : Int) / 7 + 1 := by omega
theorem size_lo (n : Nat) (hn : n < 40) : sizeI false n 0 ≤ sizeI false (n + 1) 0 ∧ sizeI false (n + 1) 0 ≤ sizeI false n 0 + 1 ∧ 1 ≤ sizeI false n 0 ∧ sizeI false n 0 ≤ 20 := by
  have h1 : mayB false n = true := by simp [mayB]; omega
  have h2 : mayB false (n + 1) = true := by simp [mayB]; omega
  simp only [sizeI, h1, h2]
  have := div7 n
  by_cases a : n ≤ 6 <;> by_cases b : n + 1 ≤ 6 <;> simp [a, b] <;> omega
theorem place_lo (n : Nat) (hn : n < 40) : placeF n ≤ sizeI false (n + 1) 0 - 1 ∧ (sizeI false (n + 1) 0 = sizeI false n 0 ∨ placeF n = sizeI false (n + 1) 0 - 1) ∧ 1 ≤ placeW n := by
  have h1 : mayB false n = true := by simp [mayB]; omega
  have h2 : mayB false (n + 1) = true := by simp [mayB]; omega
  simp only [sizeI, h1, h2, placeF, placeW]
  by_cases a : n ≤ 6 <;> by_cases b : n + 1 ≤ 6 <;> by_cases d : (n : Int) < 6 <;> simp [a, b, d] <;> omega

set_option maxRecDepth 100000 in
set_option maxHeartbeats 1000000 in
theorem main (n : Nat) (b off m c : Nat) (w : World) (hn : n < 40) (hm : n + 1 ≤ m) (hm2 : m ≤ 1000) (hc : m ≤ c) (hc2 : c ≤ 9223372036854775807) :
    Calls Try.prog 5 #[.int .i64 (n : Int), .slice (some ⟨b, off, none⟩) m c] w fun e w' => e = .returned (.bool true) ∧ Pure w w' := by
  go_enter Try.func5, Try.ntmps5
  go_wp2_with fail
  refine (first_any _).mono ?_
  rintro e w1 ⟨rfl, hp1⟩
  have P1 := Lib.hid hp1
  clear hp1
  go_wp2_with fail
  go_region
  · have hT : Pair w w1.heap.size (w1.heap.size + 1) (some ⟨b, off, none⟩) n (n + 1) c ((w1.alloc (.cells #[.bool false, .slice (some ⟨b, off, none⟩) n c] 24)).alloc (.cells #[.bool false, .slice (some ⟨b, off, none⟩) (n + 1) c] 24)).drew := ⟨by simp, by simp, by simp, by simp, ((P1.out.alloc _).alloc _).drewN 1⟩
    generalize ((w1.alloc (.cells #[.bool false, .slice (some ⟨b, off, none⟩) n c] 24)).alloc (.cells #[.bool false, .slice (some ⟨b, off, none⟩) (n + 1) c] 24)).drew = W at *
    generalize w1.heap.size + 1 = Y at *
    generalize w1.heap.size = X at *
    generalize hA : (some ⟨b, off, none⟩ : Option Addr) = A at *
    clear hA
    obtain ⟨s1, s2, s3, s4⟩ := size_lo n hn
    obtain ⟨s5, s6, s7⟩ := place_lo n hn
    have m1 : n + 1 ≤ 40 := by omega
    generalize hn1 : n + 1 = n1 at *
    have m2 : n < n1 := by omega
    have m3 : n1 ≤ n + 1 := by omega
    clear hn1
    have hT0 := hT
    obtain ⟨a0, a1, b0, b1, hT4⟩ := hT0
    have HT := Lib.hid hT
    clear hT hT4
    go_wp2_with fail
    go_region_held3 (fun w' => w'.cell? ⟨X, 0, none⟩ = some (.bool false) ∧ w'.cell? ⟨X, 1, none⟩ = some (.slice A n c) ∧ w'.cell? ⟨Y, 0, none⟩ = some (.bool false) ∧ w'.cell? ⟨Y, 1, none⟩ = some (.slice A n1 c) ∧ Pure w w') ((first | assumption | exact Pair.keep W W.drew HT.out ((Only.refl _ W).drewN 1)))
      (first
        | (go_at_call_of 10 (Value.agg #[Value.bool false, Value.slice A n c]); refine (withS (by assumption) (Pair.keep (A := A) (n := n) (n1 := n1) (c := c)) (size_any false A n c 0 _ (by omega))).mono ?_; rintro e w' ⟨rfl, hs⟩)
        | (go_at_call_of 10 (Value.agg #[Value.bool false, Value.slice A n1 c]); refine (withS (by assumption) (Pair.keep (A := A) (n := n) (n1 := n1) (c := c)) (size_any false A n1 c 0 _ (by omega))).mono ?_; rintro e w' ⟨rfl, hs⟩))
    rename_i hs
    have HS : Hid (Pair w X Y A n n1 c _) := hs
    clear hs a0 a1 b0 b1 HT
    have hs6 : sizeI false n1 0 = sizeI false n 0 ∨ (¬ sizeI false n1 0 = sizeI false n 0 ∧ placeF n = sizeI false n1 0 - 1) := by omega
    clear s6
    generalize sizeI false n1 0 = y at *
    generalize sizeI false n 0 = x at *
    have S6 := Lib.hid hs6
    clear hs6
    go_wp2_with fail
    go_loopw [9] (fun i wr => ∃ k : Nat, k ≤ n ∧ i = .int .i64 k ∧ Pair w X Y A n n1 c wr) (fun i _ => n - (intOf i).toNat)
    case atStart => exact ⟨0, by omega, rfl, HS.out⟩
    case round =>
      obtain ⟨k, hk, rfl, hT⟩ := hrel
      have hT0 := hT
      obtain ⟨a0, a1, b0, b1, hT4⟩ := hT0
      have HT := Lib.hid hT
      clear hT hT4
      by_cases hlt : k < n
      · have hp : placeOk false n k = true := by simp [placeOk, mayB]; omega
        have hp' : placeOk false n1 k = true := by simp [placeOk, mayB]; omega
        have HP := Lib.hid hp
        have HP' := Lib.hid hp'
        clear hp hp'
        go_wp2_with fail
        refine (place_yes false A n c k _ (by omega) HP.out).mono ?_
        rintro e w2 ⟨rfl, hp2⟩
        have hT2 := Pair.keep _ _ HT.out hp2
        obtain ⟨a0', a1', b0', b1', hT4⟩ := hT2
        have HT2 : Hid (Pair w X Y A n n1 c w2) := ⟨a0', a1', b0', b1', hT4⟩
        clear hp2 hT4 a0' a1'
        go_wp2_with fail
        refine (place_yes false A n1 c k _ (by omega) HP'.out).mono ?_
        rintro e w3 ⟨rfl, hp3⟩
        have HT3 := Lib.hid (Pair.keep _ _ HT2.out hp3)
        clear hp3
        go_wp2_with fail
        go_roundw
        case rel => exact ⟨k + 1, by omega, by go_num, HT3.out⟩
        case measure => simp [intOf]; omega
      · obtain rfl : k = n := by omega
        have hp' : placeOk false n1 k = true := by simp [placeOk, mayB]; omega
        have HP' := Lib.hid hp'
        have hsp : spineI false k k = 0 := by simp [spineI]
        clear hp'
        go_wp2_with fail
        refine (place_yes false A n1 c k _ (by omega) HP'.out).mono ?_
        rintro e w2 ⟨rfl, hp2⟩
        have HT2 := Lib.hid (Pair.keep _ _ HT.out hp2)
        clear hp2
        generalize placeF k = pf at *
        generalize placeW k = pw at *
        go_wp2_with fail
        refine (first_any _).mono ?_
        rintro e w8 ⟨rfl, hp8⟩
        have hT3 := Pair.keep _ _ HT2.out hp8
        obtain ⟨a0', a1', b0', b1', hT4⟩ := hT3
        have P8 := Lib.hid hT4
        clear hp8 hT4 a0 a1 b0 b1 b0' b1' hk
        rcases S6.out with hyx | ⟨hyx, hpf⟩
        · subst hyx
          go_wp2_with fail
          refine (spine_any false A k c k _ (by omega)).mono ?_
          rintro e w9 ⟨rfl, hp9⟩
          have P9 := Lib.hid hp9
          clear hp9
          rw [hsp]
          go_wp2
          go_ret
          exact ⟨rfl, P8.out.then P9.out⟩
        · have hyx' : (y == x) = false := by simpa using hyx
          subst hpf
          go_wp2_with fail
          refine (spine_any false A k c k _ (by omega)).mono ?_
          rintro e w9 ⟨rfl, hp9⟩
          have P9 := Lib.hid hp9
          clear hp9
          rw [hsp]
          go_wp2
          go_ret
          exact ⟨rfl, P8.out.then P9.out⟩
  · have hT : Pair w (w1.heap.size + 1) w1.heap.size (some ⟨b, off, none⟩) n (n + 1) c ((w1.alloc (.cells #[.bool false, .slice (some ⟨b, off, none⟩) (n + 1) c] 24)).alloc (.cells #[.bool false, .slice (some ⟨b, off, none⟩) n c] 24)).drew := ⟨by simp, by simp, by simp, by simp, ((P1.out.alloc _).alloc _).drewN 1⟩
    generalize ((w1.alloc (.cells #[.bool false, .slice (some ⟨b, off, none⟩) (n + 1) c] 24)).alloc (.cells #[.bool false, .slice (some ⟨b, off, none⟩) n c] 24)).drew = W at *
    generalize w1.heap.size + 1 = X at *
    generalize w1.heap.size = Y at *
    generalize hA : (some ⟨b, off, none⟩ : Option Addr) = A at *
    clear hA
    obtain ⟨s1, s2, s3, s4⟩ := size_lo n hn
    obtain ⟨s5, s6, s7⟩ := place_lo n hn
    have m1 : n + 1 ≤ 40 := by omega
    generalize hn1 : n + 1 = n1 at *
    have m2 : n < n1 := by omega
    have m3 : n1 ≤ n + 1 := by omega
    clear hn1
    have hT0 := hT
    obtain ⟨a0, a1, b0, b1, hT4⟩ := hT0
    have HT := Lib.hid hT
    clear hT hT4
    go_wp2_with fail
    go_region_held3 (fun w' => w'.cell? ⟨X, 0, none⟩ = some (.bool false) ∧ w'.cell? ⟨X, 1, none⟩ = some (.slice A n c) ∧ w'.cell? ⟨Y, 0, none⟩ = some (.bool false) ∧ w'.cell? ⟨Y, 1, none⟩ = some (.slice A n1 c) ∧ Pure w w') ((first | assumption | exact Pair.keep W W.drew HT.out ((Only.refl _ W).drewN 1)))
      (first
        | (go_at_call_of 10 (Value.agg #[Value.bool false, Value.slice A n c]); refine (withS (by assumption) (Pair.keep (A := A) (n := n) (n1 := n1) (c := c)) (size_any false A n c 0 _ (by omega))).mono ?_; rintro e w' ⟨rfl, hs⟩)
        | (go_at_call_of 10 (Value.agg #[Value.bool false, Value.slice A n1 c]); refine (withS (by assumption) (Pair.keep (A := A) (n := n) (n1 := n1) (c := c)) (size_any false A n1 c 0 _ (by omega))).mono ?_; rintro e w' ⟨rfl, hs⟩))
    rename_i hs
    have HS : Hid (Pair w X Y A n n1 c _) := hs
    clear hs a0 a1 b0 b1 HT
    have hs6 : sizeI false n1 0 = sizeI false n 0 ∨ (¬ sizeI false n1 0 = sizeI false n 0 ∧ placeF n = sizeI false n1 0 - 1) := by omega
    clear s6
    generalize sizeI false n1 0 = y at *
    generalize sizeI false n 0 = x at *
    have S6 := Lib.hid hs6
    clear hs6
    go_wp2_with fail
    go_loopw [9] (fun i wr => ∃ k : Nat, k ≤ n ∧ i = .int .i64 k ∧ Pair w X Y A n n1 c wr) (fun i _ => n - (intOf i).toNat)
    case atStart => exact ⟨0, by omega, rfl, HS.out⟩
    case round =>
      obtain ⟨k, hk, rfl, hT⟩ := hrel
      have hT0 := hT
      obtain ⟨a0, a1, b0, b1, hT4⟩ := hT0
      have HT := Lib.hid hT
      clear hT hT4
      by_cases hlt : k < n
      · have hp : placeOk false n k = true := by simp [placeOk, mayB]; omega
        have hp' : placeOk false n1 k = true := by simp [placeOk, mayB]; omega
        have HP := Lib.hid hp
        have HP' := Lib.hid hp'
        clear hp hp'
        go_wp2_with fail
        refine (place_yes false A n c k _ (by omega) HP.out).mono ?_
        rintro e w2 ⟨rfl, hp2⟩
        have hT2 := Pair.keep _ _ HT.out hp2
        obtain ⟨a0', a1', b0', b1', hT4⟩ := hT2
        have HT2 : Hid (Pair w X Y A n n1 c w2) := ⟨a0', a1', b0', b1', hT4⟩
        clear hp2 hT4 a0' a1'
        go_wp2_with fail
        refine (place_yes false A n1 c k _ (by omega) HP'.out).mono ?_
        rintro e w3 ⟨rfl, hp3⟩
        have HT3 := Lib.hid (Pair.keep _ _ HT2.out hp3)
        clear hp3
        go_wp2_with fail
        go_roundw
        case rel => exact ⟨k + 1, by omega, by go_num, HT3.out⟩
        case measure => simp [intOf]; omega
      · obtain rfl : k = n := by omega
        have hp' : placeOk false n1 k = true := by simp [placeOk, mayB]; omega
        have HP' := Lib.hid hp'
        have hsp : spineI false k k = 0 := by simp [spineI]
        clear hp'
        go_wp2_with fail
        refine (place_yes false A n1 c k _ (by omega) HP'.out).mono ?_
        rintro e w2 ⟨rfl, hp2⟩
        have HT2 := Lib.hid (Pair.keep _ _ HT.out hp2)
        clear hp2
        generalize placeF k = pf at *
        generalize placeW k = pw at *
        go_wp2_with fail
        refine (first_any _).mono ?_
        rintro e w8 ⟨rfl, hp8⟩
        have hT3 := Pair.keep _ _ HT2.out hp8
        obtain ⟨a0', a1', b0', b1', hT4⟩ := hT3
        have P8 := Lib.hid hT4
        clear hp8 hT4 a0 a1 b0 b1 b0' b1' hk
        rcases S6.out with hyx | ⟨hyx, hpf⟩
        · subst hyx
          go_wp2_with fail
          refine (spine_any false A k c k _ (by omega)).mono ?_
          rintro e w9 ⟨rfl, hp9⟩
          have P9 := Lib.hid hp9
          clear hp9
          rw [hsp]
          go_wp2
          go_ret
          exact ⟨rfl, P8.out.then P9.out⟩
        · have hyx' : (y == x) = false := by simpa using hyx
          subst hpf
          go_wp2_with fail
          refine (spine_any false A k c k _ (by omega)).mono ?_
          rintro e w9 ⟨rfl, hp9⟩
          have P9 := Lib.hid hp9
          clear hp9
          rw [hsp]
          go_wp2
          go_ret
          exact ⟨rfl, P8.out.then P9.out⟩

theorem walk (w : World) (n : Int) (hb : -9223372036854775808 ≤ n ∧ n ≤ 9223372036854775807) (v0 : Value) (es : List Bool) (h0 : SlG w w.heap.size v0 (bools es)) :
    Calls Try.prog 5 #[.int .i64 n, v0] w fun e w' => e = .returned (.bool true) ∧ Pure w w' := by
  obtain ⟨A, c, rfl, hc, hm, ha⟩ := h0
  generalize (bools es).length = m at *
  by_cases h : n < 0 ∨ 40 ≤ n ∨ (m : Int) < n + 1 ∨ 1000 < m
  · exact out n A m c w hb (by omega) h
  · obtain ⟨k, rfl⟩ := Int.eq_ofNat_of_zero_le (show 0 ≤ n by omega)
    obtain ⟨b, off, rfl, _⟩ := ha (by omega)
    exact main k b off m c w (by omega) (by omega) (by omega) hc hm

set_option maxRecDepth 100000 in
theorem lifted (os : Os) (started : os.Started) (H : Type) (enc : TypeId × Value → H) :
    ReturnsInHanded {} Try.checked os 5 .any (Rows.shapeMoreSpec.pre6 enc Try.prog Try.f5 Rows.shapeMoreRow.domain false) (Rows.shapeMoreSpec.post enc Try.prog Try.f5 false true false false) :=
  lift_law (C := Try.checked) own started (by kernel_rfl) Try.func5 laidOut (by kernel_rfl) rfl rfl Try.underlying4
    (fun ds h => by match ds, h with | [_, _], _ => rfl)
    (ChangeSpec.witness6 (enc := enc) (C := Try.checked) false ⟨#[], #[.int .i64 0, .slice none 0 0], []⟩ 8 (by kernel_rfl) (by kernel_rfl) (by kernel_rfl) (by kernel_rfl))
    (fun W base args ds ps hval hA hlt => by
      have hA' : DataW.TrodAll enc Try.prog W 0 (fun _ => true) true Try.f5.params.toList args.toList ds ps := hA
      rw [Try.params5] at hA'
      have hval' : ∀ (j : Nat) t v, Try.f5.params[j]? = some t → args[j]? = some v → Value.okWide Try.prog W .any base t v := hval
      rw [Try.params5] at hval'
      obtain ⟨v0, vs0, d0, ds0, p0, q0, hargs, rfl, rfl, h0, r0⟩ := trodAll_cons hA'
      obtain ⟨v1, vs1, d1, ds1, p1, q1, rfl, rfl, rfl, h1, r1⟩ := trodAll_cons r0
      obtain ⟨rfl, rfl, rfl⟩ := trodAll_nil r1
      obtain rfl : args = #[v0, v1] := by cases args; simp_all
      obtain ⟨a0, rfl, rfl, rfl, w0⟩ := open_int Try.underlying3 (hval' 0 3 v0 rfl rfl) h0
      obtain ⟨xs1, s1⟩ := open_bools' Try.underlying22 Try.underlying4 (by kernel_rfl) (hval' 1 22 v1 rfl rfl) h1
      exact (walk W a0 (int_bounds w0) _ xs1 s1).mono fun e W' ⟨he, hp⟩ => ⟨he, hp.below⟩)

/-- The statement. -/
theorem proved : Rows.ShapeMoreSaid :=
  OpenClaim.holds_of_wide 5 Try.f5 rfl rfl rfl rfl rfl rfl rfl ⟨rfl, rfl, rfl, rfl, rfl⟩ rfl rfl rfl rfl rfl (by kernel_rfl) Try.func5 (by kernel_rfl)
    (of_decide_eq_true (by kernel_rfl)) (by unfold Func.isWrapper; first | (rw [if_pos (by decide +kernel)]; kernel_rfl) | (rw [if_neg (by decide +kernel)]; exact ⟨rfl, rfl⟩))
    (fun os started H enc _ => lifted os started H enc)
#print axioms proved

end Go.Proofs.Ytdkgghdhjdfebaa.shapeMore
