/-
  WordNear: a word that is nearly a reference is none: another imaginary part, no whole number, nought. For every input.
-/
import Derived.Test.YtloklfmpihaiiaaWd2
namespace Go.Proofs.Ytloklfmpihaiiaa.wordNear
open Go.RowKit Go.ChangeShapes Go.WideShapes Go.ChangeAt Ieee

/-! ### Plain: halves -/
theorem rep_twice (s : Bool) (a : Nat) (h : a < 2 ^ 52) : Rep (Ieee.double.nearest s a 0) s (2 * a) (-1) := by
  have h1 := nearest_scale s a 1 0 (by omega) (by omega) (by omega)
  have h2 := rep_near s (2 * a) (-1) (by omega) (by omega) (by omega)
  rw [show a * 2 ^ 1 = 2 * a from by omega, show (0 : Int) - ((1 : Nat) : Int) = -1 from by omega] at h1
  rwa [h1] at h2

theorem half : Rep 4602678819172646912 false 1 (-1) := ⟨52, by decide⟩

/-- A whole number and a half. -/
theorem plus_half (n : Nat) (h : n < 2 ^ 51) : ∃ r, floatBits .add .f64 (floatOfInt .f64 n) 4602678819172646912 = some r ∧ Rep r false (2 * n + 1) (-1) := by
  have r1 : Rep (floatOfInt .f64 n) false (2 * n) (-1) := by
    have h1 := rep_twice false n (by omega)
    have e : floatOfInt .f64 (n : Int) = Ieee.double.nearest false n 0 := by
      show Ieee.double.nearest (decide ((n : Int) < 0)) (n : Int).natAbs 0 = _
      rw [show decide ((n : Int) < 0) = false from by simp]
      rfl
    rwa [e]
  have e2 : sv false (2 * n) + sv false 1 = ((2 * n + 1 : Nat) : Int) := by simp [sv]
  have hs := add_rep r1 half (by rw [e2]; omega) (by omega) (by omega)
  rw [e2] at hs
  have e3 : (if ((2 * n + 1 : Nat) : Int) = 0 then false && false else decide (((2 * n + 1 : Nat) : Int) < 0)) = false := by
    rw [if_neg (by omega), decide_eq_false_iff_not]
    omega
  rw [e3] at hs
  exact ⟨_, hs, rep_near false (2 * n + 1) (-1) (by omega) (by omega) (by omega)⟩

theorem cut_half (a k : Nat) : Toward.cut .zero false (a * 2 ^ k) (k + 1) = a / 2 := by
  unfold Toward.cut
  rcases Nat.eq_zero_or_pos a with rfl | ha
  · simp
  · have hl : k ≤ (a * 2 ^ k).log2 := by rw [log2_scale a k ha]; omega
    have hm : min (k + 1) ((a * 2 ^ k).log2 + 2) = k + 1 := by omega
    simp only [hm, Nat.shiftLeft_eq, Nat.one_mul, Bool.toNat_false, Nat.add_zero]
    rw [Nat.pow_succ, Nat.mul_comm (2 ^ k) 2, Nat.mul_div_mul_right _ _ (Nat.two_pow_pos k)]

theorem half_toInt {r n : Nat} (h : Rep r false (2 * n + 1) (-1)) (hn : n < 2 ^ 51) : floatToIntVal .f64 r .i64 = some (n : Int) := by
  obtain ⟨k, hk⟩ := h
  have e : (FloatKind.f64.decode r).toInt .zero = some (n : Int) := by
    show (Ieee.double.read r).toInt .zero = _
    rw [hk]
    unfold Datum.toInt Datum.integral
    have e1 : (-1 - (k : Int)).toNat = 0 := by omega
    have e2 : (-(-1 - (k : Int))).toNat = k + 1 := by omega
    simp only [e1, e2, Nat.shiftLeft_eq, Nat.pow_zero, Nat.mul_one, cut_half]
    unfold signed
    simp
    omega
  unfold floatToIntVal
  rw [e]
  have h0 : (-9223372036854775808 : Int) ≤ (n : Int) := by omega
  have h1 : (n : Int) ≤ 9223372036854775807 := by omega
  simp [IntKind.min, IntKind.max, IntKind.signed, IntKind.bits, h0, h1]

theorem half_order {r a : Nat} (h : Rep r false a (-1)) (hn : a < 9007199254740992) : FloatKind.f64.format.order r 14069245235905429504 = some .gt ∧ FloatKind.f64.format.order r 4845873199050653696 = some .lt := by
  obtain ⟨k, hk⟩ := h
  have r1 : Ieee.double.read 14069245235905429504 = .number true 4503599627370496 1 := by decide
  have r2 : Ieee.double.read 4845873199050653696 = .number false 4503599627370496 1 := by decide
  have hp : 0 < 2 ^ k := Nat.two_pow_pos k
  have hlt : a * 2 ^ k < 9007199254740992 * 2 ^ k := Nat.mul_lt_mul_of_pos_right hn hp
  have e3 : 4503599627370496 * 2 ^ (k + 2) = 18014398509481984 * 2 ^ k := by rw [Nat.pow_succ, Nat.pow_succ]; omega
  have e4 : 9007199254740992 * 2 ^ k ≤ 18014398509481984 * 2 ^ k := Nat.mul_le_mul_right _ (by omega)
  have hm : min (-1 - (k : Int)) 1 = -1 - (k : Int) := by omega
  have e1 : ((-1 - (k : Int)) - (-1 - (k : Int))).toNat = 0 := by omega
  have e2 : ((1 : Int) - (-1 - (k : Int))).toNat = k + 2 := by omega
  constructor
  · show Ieee.double.order r _ = _
    unfold Format.order
    rw [hk, r1]
    simp only [Datum.order, hm, e1, e2, signed, Nat.shiftLeft_eq, Nat.pow_zero, Nat.mul_one, e3, if_true, Bool.false_eq_true, if_false]
    generalize a * 2 ^ k = u at *
    generalize 18014398509481984 * 2 ^ k = v at *
    congr 1
    simp only [compare, compareOfLessAndEq]
    rw [if_neg (by omega), if_neg (by omega)]
  · show Ieee.double.order r _ = _
    unfold Format.order
    rw [hk, r2]
    simp only [Datum.order, hm, e1, e2, signed, Nat.shiftLeft_eq, Nat.pow_zero, Nat.mul_one, e3, Bool.false_eq_true, if_false]
    generalize a * 2 ^ k = u at *
    generalize 18014398509481984 * 2 ^ k = v at *
    congr 1
    simp only [compare, compareOfLessAndEq]
    rw [if_pos (by omega)]

theorem half_other {r : Nat} {n : Nat} (h : Rep r false (2 * n + 1) (-1)) (hn : n < 2 ^ 51) : sameB r 0 (floatOfInt .f64 n) 0 = false := by
  have r1 : Rep (floatOfInt .f64 n) false (2 * n) (-1) := by
    have h1 := rep_twice false n (by omega)
    have e : floatOfInt .f64 (n : Int) = Ieee.double.nearest false n 0 := by
      show Ieee.double.nearest (decide ((n : Int) < 0)) (n : Int).natAbs 0 = _
      rw [show decide ((n : Int) < 0) = false from by simp]
      rfl
    rwa [e]
  have hself : FloatKind.f64.format.order r r = some .eq := by
    show Ieee.double.order r r = _
    rw [order_rep h h, compare_self]
  have hp : partB r = r := by rw [partB, if_pos hself]
  have hne : r ≠ floatOfInt .f64 n := by
    intro e
    have h1 := order_rep h r1
    rw [e] at h1
    have h2 := order_rep r1 r1
    rw [h1, compare_self] at h2
    injection h2 with h2
    simp [sv, compare, compareOfLessAndEq] at h2
    split at h2
    · cases h2
    · split at h2
      · omega
      · cases h2
  unfold sameB
  rw [hp, part_f _ (by omega)]
  simp [hne]

/-! ### Plain: which double is 1 -/
theorem read_one : Ieee.double.read 4607182418800017408 = .number false 4503599627370496 (-52) := by decide

theorem is_one (x : Nat) (hx : x < 18446744073709551616) : (FloatKind.f64.format.order x 4607182418800017408 == some .eq) = (partB x == 4607182418800017408) := by
  by_cases h1 : x = 4607182418800017408
  · subst h1; decide +kernel
  · have hr : (partB x == 4607182418800017408) = false := by
      unfold partB
      split
      · simpa using h1
      · decide
    rw [hr]
    have hsw : Ieee.double.signWeight = 9223372036854775808 := by decide
    have hbin : Ieee.double.binade = 4503599627370496 := by decide
    have hinf : Ieee.double.infRung = 9218868437227405312 := by decide
    have hlp : Ieee.double.leastPlace = -1074 := by decide
    have hne : ∀ u v : Int, u ≠ v → (some (compare u v) == some Ordering.eq) = false := by
      intro u v h
      simp only [compare, compareOfLessAndEq]
      split
      · rfl
      · first | rfl | (rw [if_neg h]; rfl)
    show (Ieee.double.order x 4607182418800017408 == some .eq) = false
    unfold Format.order
    rw [read_one]
    unfold Format.read
    dsimp only
    rw [hsw, hbin, hinf, hlp]
    have hxs : x = x / 9223372036854775808 * 9223372036854775808 + x % 9223372036854775808 := by omega
    have hs2 : x / 9223372036854775808 < 2 := by omega
    generalize x / 9223372036854775808 = t at *
    have hrl : x % 9223372036854775808 < 9223372036854775808 := Nat.mod_lt _ (by omega)
    generalize x % 9223372036854775808 = r at *
    by_cases c1 : r < 4503599627370496
    · rw [if_pos c1]
      simp only [Datum.order]
      refine hne _ _ ?_
      have em : min (-1074 : Int) (-52) = -1074 := by omega
      rw [em]
      have e1 : ((-1074 : Int) - (-1074)).toNat = 0 := by omega
      obtain ⟨k, e2⟩ : ∃ k, ((-52 : Int) - (-1074)).toNat = k := ⟨_, rfl⟩
      rw [e1, e2]
      unfold signed
      simp only [Nat.shiftLeft_eq, Nat.pow_zero, Nat.mul_one, Bool.false_eq_true, if_false]
      have hbig : 4503599627370496 ≤ 4503599627370496 * 2 ^ k := Nat.le_mul_of_pos_right _ (Nat.two_pow_pos _)
      generalize 4503599627370496 * 2 ^ k = big at *
      split <;> omega
    · rw [if_neg c1]
      by_cases c2 : r < 9218868437227405312
      · rw [if_pos c2]
        simp only [Datum.order]
        refine hne _ _ ?_
        obtain ⟨q, hq⟩ : ∃ q, q = r / 4503599627370496 := ⟨_, rfl⟩
        obtain ⟨f, hf⟩ : ∃ f, f = r % 4503599627370496 := ⟨_, rfl⟩
        rw [← hq, ← hf]
        have hq1 : 1 ≤ q := by omega
        have hfl : f < 4503599627370496 := by omega
        unfold signed
        simp only [Nat.shiftLeft_eq, Bool.false_eq_true, if_false]
        obtain ⟨e, he⟩ : ∃ e : Int, e = -1074 + ((q - 1 : Nat) : Int) := ⟨_, rfl⟩
        rw [← he]
        rcases Int.lt_trichotomy e (-52) with c | c | c
        · have em : min e (-52) = e := by omega
          rw [em]
          have e1 : (e - e).toNat = 0 := by omega
          rw [e1, Nat.pow_zero, Nat.mul_one]
          have hbig : 2 ≤ 2 ^ (-52 - e).toNat := by
            calc 2 = 2 ^ 1 := rfl
              _ ≤ 2 ^ (-52 - e).toNat := Nat.pow_le_pow_right (by omega) (by omega)
          have hb2 := Nat.mul_le_mul_left 4503599627370496 hbig
          generalize 4503599627370496 * 2 ^ (-52 - e).toNat = big at *
          split <;> omega
        · have em : min e (-52) = -52 := by omega
          rw [em]
          have e1 : (e - -52).toNat = 0 := by omega
          have e2 : ((-52 : Int) - -52).toNat = 0 := by omega
          rw [e1, e2, Nat.pow_zero, Nat.mul_one, Nat.mul_one]
          split
          · omega
          · rename_i ht
            have ht0 : t = 0 := by
              have : t = 0 ∨ t = 1 := by omega
              rcases this with h | h
              · exact h
              · subst h; simp at ht
            omega
        · have em : min e (-52) = -52 := by omega
          rw [em]
          have e2 : ((-52 : Int) - -52).toNat = 0 := by omega
          rw [e2, Nat.pow_zero, Nat.mul_one]
          have hbig : 2 ≤ 2 ^ (e - -52).toNat := by
            calc 2 = 2 ^ 1 := rfl
              _ ≤ 2 ^ (e - -52).toNat := Nat.pow_le_pow_right (by omega) (by omega)
          have hb2 := Nat.mul_le_mul (show 4503599627370496 ≤ 4503599627370496 + f by omega) hbig
          generalize (4503599627370496 + f) * 2 ^ (e - -52).toNat = big at *
          split <;> omega
      · rw [if_neg c2]
        by_cases c3 : r = 9218868437227405312
        · rw [if_pos c3]
          simp only [Datum.order]
          split <;> decide
        · rw [if_neg c3]
          rfl

/-! ### The walk -/
theorem neg_run (x : Nat) (w : World) : (Op.unary .neg (.float .f64 x)).run Try.prog w = .ok (.float .f64 (Op.negFloat .f64 x)) w := rfl

theorem out (i : Int) (x : Nat) (w : World) (h : i < 0 ∨ 1099511627776 < i) :
    Calls Try.prog 3 #[.int .i64 i, .float .f64 x] w fun e w' => e = .returned (.bool true) ∧ Pure w w' := by
  have h' : (i < 0) ∨ (¬ i < 0 ∧ 1099511627776 < i) := by omega
  have hno := h
  clear h
  have HNO := Lib.hid hno
  clear hno
  rcases h' with g1 | ⟨g1, g2⟩
  all_goals
    go_enter Try.func3, Try.ntmps3
    go_wp2_with fail
    refine (first_any _).mono ?_
    rintro e w1 ⟨rfl, hp1⟩
    have P1 := Lib.hid hp1
    clear hp1
    go_wp2_with fail
    refine (first_any _).mono ?_
    rintro e w8 ⟨rfl, hp8⟩
    have P8 := Lib.hid hp8
    clear hp8
    go_wp2_with fail
    refine (ref_no i _ HNO.out).mono ?_
    rintro e w2 ⟨rfl, rfl⟩
    go_wp2_with fail
    refine (none_any _).mono ?_
    rintro e w2 ⟨rfl, rfl⟩
    go_wp2_with fail
    refine (word_any _ _ _ _ _ (by omega) (by omega) (by omega) (by omega)).mono ?_
    rintro e w2 ⟨rfl, rfl⟩
    rw [show sameB 0 4607182418800017408 0 4607182418800017408 = true from by simp [sameB]]
    go_wp2
    go_ret
    exact ⟨rfl, P1.out.then P8.out⟩

set_option maxRecDepth 100000 in
set_option maxHeartbeats 2000000 in
theorem main (i : Int) (x : Nat) (w : World) (hx : x < 18446744073709551616) (h0 : 0 ≤ i) (h1 : i ≤ 1099511627776) :
    Calls Try.prog 3 #[.int .i64 i, .float .f64 x] w fun e w' => e = .returned (.bool true) ∧ Pure w w' := by
  obtain ⟨n, hn⟩ := Int.eq_ofNat_of_zero_le (show 0 ≤ i + 1 by omega)
  have hin : i + 1 = (n : Int) := hn
  have n1 : 1 ≤ n := by omega
  have n2 : n ≤ 1099511627777 := by omega
  clear hn
  have hpart : ∀ y : Nat, partB y ≠ 4607182418800017408 → sameB (floatOfInt .f64 n) y (floatOfInt .f64 n) 4607182418800017408 = false := by
    intro y hy
    unfold sameB
    rw [part_one]
    simp [hy]
  obtain ⟨r, hr, hrep⟩ := plus_half n (by omega)
  have hsum := fun w : World => run_float_arith (P := Try.prog) w .add 22 .f64 (floatOfInt .f64 n) 4602678819172646912 r hr
  have hA : ∀ w : World, Calls Try.prog 15 #[.complex .f64 r 0] w fun e w' => e = .returned (.tuple #[.int .i64 0, .bool false]) ∧ w = w' := by
    intro w
    obtain ⟨o1, o2⟩ := half_order hrep (by omega)
    refine (int_any r 0 n w (by rw [o1]; rfl) (by rw [o2]; rfl) (half_toInt hrep (by omega)) (by omega) (by omega)).mono ?_
    rintro e w' ⟨_, h2, h3⟩
    exact ⟨h2 (half_other hrep (by omega)), h3⟩
  have hCC : ∃ (rc : Int) (okc : Bool), (okc = false ∨ rc < 1) ∧ ∀ w : World, Calls Try.prog 15 #[.complex .f64 (Op.negFloat .f64 (floatOfInt .f64 n)) 0] w fun e w' => e = .returned (.tuple #[.int .i64 rc, .bool okc]) ∧ w = w' := by
    have hi := isI_neg (isI_of n (by omega)) (floatOfInt_lt n)
    cases hs : sameB (Op.negFloat .f64 (floatOfInt .f64 n)) 0 (floatOfInt .f64 (-(n : Int))) 0
    · refine ⟨0, false, .inl rfl, fun w => ?_⟩
      refine (int_isI _ 0 _ w hi (by omega)).mono ?_
      rintro e w' ⟨_, h2, h3⟩
      exact ⟨h2 hs, h3⟩
    · refine ⟨-(n : Int), true, .inr (by omega), fun w => ?_⟩
      refine (int_isI _ 0 _ w hi (by omega)).mono ?_
      rintro e w' ⟨h2, _, h3⟩
      exact ⟨h2 hs, h3⟩
  obtain ⟨rc, okc, hcr, hC⟩ := hCC
  have hD : ∀ w : World, Calls Try.prog 10 #[.complex .f64 (floatOfInt .f64 n) 0] w fun e w' => e = .returned (.tuple #[.int .i64 0, .bool false]) ∧ w = w' :=
    fun w => index_other n 0 w (by omega) (by omega) (hpart 0 (by rw [part_zero]; decide))
  have hE : sameB (floatOfInt .f64 n) 0 0 4607182418800017408 = false := by
    unfold sameB
    rw [part_zero, part_one]
    simp
  have hone := is_one x hx
  have hneg := neg_run
  have HA := Lib.hid hA; have HC := Lib.hid hC; have HD := Lib.hid hD; have HE := Lib.hid hE; have HP := Lib.hid hpart
  clear hA hC hD hE hpart hr hrep
  by_cases hx1 : x = 4607182418800017408
  · subst hx1
    have ho : (FloatKind.f64.format.order 4607182418800017408 4607182418800017408 == some .eq) = true := by decide +kernel
    clear hone
    go_enter Try.func3, Try.ntmps3
    go_wp2_with fail
    refine (first_any _).mono ?_
    rintro e w1 ⟨rfl, hp1⟩
    have P1 := Lib.hid hp1
    clear hp1
    go_wp2_with fail
    refine (ref_in i _ (by omega) (by omega)).mono ?_
    rintro e w2 ⟨rfl, rfl⟩
    rw [hin]
    go_wp2_with fail
    refine (index_no _ _ 0 false _ HA.out (.inl rfl)).mono ?_
    rintro e w2 ⟨rfl, rfl⟩
    go_wp2_with fail
    refine (index_yes n _ (by omega) (by omega)).mono ?_
    rintro e w2 ⟨rfl, rfl⟩
    go_wp2_with fail
    refine (index_no _ _ rc okc _ HC.out hcr).mono ?_
    rintro e w2 ⟨rfl, rfl⟩
    go_wp2_with fail
    refine (first_any _).mono ?_
    rintro e w8 ⟨rfl, hp8⟩
    have P8 := Lib.hid hp8
    clear hp8
    go_wp2_with fail
    refine (is_no _ _ 0 _ HD.out).mono ?_
    rintro e w2 ⟨rfl, rfl⟩
    rw [HE.out]
    go_wp2
    go_ret
    exact ⟨rfl, P1.out.then P8.out⟩
  · have hp1 : partB x ≠ 4607182418800017408 := by
      unfold partB
      split
      · exact hx1
      · decide
    have ho : (FloatKind.f64.format.order x 4607182418800017408 == some .eq) = false := by rw [hone]; simpa using hp1
    have HB := Lib.hid (HP.out x hp1)
    clear hone hp1 hx1
    go_enter Try.func3, Try.ntmps3
    go_wp2_with fail
    refine (first_any _).mono ?_
    rintro e w1 ⟨rfl, hp1⟩
    have P1 := Lib.hid hp1
    clear hp1
    go_wp2_with fail
    refine (ref_in i _ (by omega) (by omega)).mono ?_
    rintro e w2 ⟨rfl, rfl⟩
    rw [hin]
    go_wp2_with fail
    refine (index_no _ _ 0 false _ HA.out (.inl rfl)).mono ?_
    rintro e w2 ⟨rfl, rfl⟩
    go_wp2_with fail
    refine (index_other n x _ (by omega) (by omega) HB.out).mono ?_
    rintro e w2 ⟨rfl, rfl⟩
    go_wp2_with fail
    refine (index_no _ _ rc okc _ HC.out hcr).mono ?_
    rintro e w2 ⟨rfl, rfl⟩
    go_wp2_with fail
    refine (first_any _).mono ?_
    rintro e w8 ⟨rfl, hp8⟩
    have P8 := Lib.hid hp8
    clear hp8
    go_wp2_with fail
    refine (is_no _ _ 0 _ HD.out).mono ?_
    rintro e w2 ⟨rfl, rfl⟩
    rw [HE.out]
    go_wp2
    go_ret
    exact ⟨rfl, P1.out.then P8.out⟩

theorem walk (w : World) (i : Int) (_hi : -9223372036854775808 ≤ i ∧ i ≤ 9223372036854775807) (x : Nat) (hx : (Lit.float .f64 x).wf = true) :
    Calls Try.prog 3 #[.int .i64 i, .float .f64 x] w fun e w' => e = .returned (.bool true) ∧ Pure w w' := by
  by_cases h : i < 0 ∨ 1099511627776 < i
  · exact out i x w h
  · exact main i x w (by simpa [Lit.wf] using hx) (by omega) (by omega)

set_option maxRecDepth 100000 in
theorem lifted (os : Os) (started : os.Started) (H : Type) (enc : TypeId × Value → H) :
    ReturnsInHanded {} Try.checked os 3 .any (Rows.wordNearSpec.pre6 enc Try.prog Try.f3 Rows.wordNearRow.domain false) (Rows.wordNearSpec.post enc Try.prog Try.f3 false true false false) :=
  lift_law (C := Try.checked) own started (by kernel_rfl) Try.func3 laidOut (by kernel_rfl) rfl rfl Try.underlying4
    (fun ds h => by match ds, h with | [_, _], _ => rfl)
    (ChangeSpec.witness6 (enc := enc) (C := Try.checked) false ⟨#[], #[.int .i64 0, .float .f64 0], []⟩ 8 (by kernel_rfl) (by kernel_rfl) (by kernel_rfl) (by kernel_rfl))
    (fun W base args ds ps hval hA hlt => by
      have hA' : DataW.TrodAll enc Try.prog W 0 (fun _ => true) true Try.f3.params.toList args.toList ds ps := hA
      rw [Try.params3] at hA'
      have hval' : ∀ (j : Nat) t v, Try.f3.params[j]? = some t → args[j]? = some v → Value.okWide Try.prog W .any base t v := hval
      rw [Try.params3] at hval'
      obtain ⟨v0, vs0, d0, ds0, p0, q0, hargs, rfl, rfl, h0, r0⟩ := trodAll_cons hA'
      obtain ⟨v1, vs1, d1, ds1, p1, q1, rfl, rfl, rfl, h1, r1⟩ := trodAll_cons r0
      obtain ⟨rfl, rfl, rfl⟩ := trodAll_nil r1
      obtain rfl : args = #[v0, v1] := by cases args; simp_all
      obtain ⟨a0, rfl, rfl, rfl, w0⟩ := open_int Try.underlying3 (hval' 0 3 v0 rfl rfl) h0
      obtain ⟨a1, rfl, rfl, rfl, w1⟩ := open_float Try.underlying22 (hval' 1 22 v1 rfl rfl) h1
      exact (walk W a0 (int_bounds w0) a1 w1).mono fun e W' ⟨he, hp⟩ => ⟨he, hp.below⟩)

/-- The statement. -/
theorem proved : Rows.WordNearSaid :=
  OpenClaim.holds_of_wide 3 Try.f3 rfl rfl rfl rfl rfl rfl rfl ⟨rfl, rfl, rfl, rfl, rfl⟩ rfl rfl rfl rfl rfl (by kernel_rfl) Try.func3 (by kernel_rfl)
    (of_decide_eq_true (by kernel_rfl)) (by unfold Func.isWrapper; first | (rw [if_pos (by decide +kernel)]; kernel_rfl) | (rw [if_neg (by decide +kernel)]; exact ⟨rfl, rfl⟩))
    (fun os started H enc _ => lifted os started H enc)
#print axioms proved

end Go.Proofs.Ytloklfmpihaiiaa.wordNear
