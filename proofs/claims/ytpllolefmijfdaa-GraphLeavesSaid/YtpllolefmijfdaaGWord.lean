/-
  Contracts of package word.
-/
import Derived.Test.YtpllolefmijfdaaNum
namespace Go.Proofs.Ytpllolefmijfdaa
open Go.RowKit Ieee

/-! ### Plain -/
theorem order_low {x : Nat} {n : Int} (h : IsI x n) (hn : n.natAbs < 9007199254740992) : FloatKind.f64.format.order x 14069245235905429504 = some .gt ∧ FloatKind.f64.format.order x 4845873199050653696 = some .lt := by
  obtain ⟨s, a, ⟨k, hk⟩, rfl⟩ := h
  rw [sv_natAbs] at hn
  have r1 : Ieee.double.read 14069245235905429504 = .number true 4503599627370496 1 := by decide
  have r2 : Ieee.double.read 4845873199050653696 = .number false 4503599627370496 1 := by decide
  have hp : 0 < 2 ^ k := Nat.two_pow_pos k
  have hlt : a * 2 ^ k < 9007199254740992 * 2 ^ k := Nat.mul_lt_mul_of_pos_right hn hp
  have e3 : 4503599627370496 * 2 ^ (k + 1) = 9007199254740992 * 2 ^ k := by rw [Nat.pow_succ]; omega
  have hm : min (0 - (k : Int)) 1 = 0 - (k : Int) := by omega
  have e1 : ((0 - (k : Int)) - (0 - (k : Int))).toNat = 0 := by omega
  have e2 : ((1 : Int) - (0 - (k : Int))).toNat = k + 1 := by omega
  constructor
  · show Ieee.double.order x _ = _
    unfold Format.order
    rw [hk, r1]
    simp only [Datum.order, hm, e1, e2, signed, Nat.shiftLeft_eq, Nat.pow_zero, Nat.mul_one, e3, if_true]
    generalize a * 2 ^ k = u at *
    generalize 9007199254740992 * 2 ^ k = v at *
    congr 1
    simp only [compare, compareOfLessAndEq]
    cases s
    · rw [if_neg (by simp <;> omega), if_neg (by simp <;> omega)]
    · rw [if_neg (by simp <;> omega), if_neg (by simp <;> omega)]
  · show Ieee.double.order x _ = _
    unfold Format.order
    rw [hk, r2]
    simp only [Datum.order, hm, e1, e2, signed, Nat.shiftLeft_eq, Nat.pow_zero, Nat.mul_one, e3, Bool.false_eq_true, if_false]
    generalize a * 2 ^ k = u at *
    generalize 9007199254740992 * 2 ^ k = v at *
    congr 1
    simp only [compare, compareOfLessAndEq]
    cases s
    · rw [if_pos (by simp <;> omega)]
    · rw [if_pos (by simp <;> omega)]

theorem isI_unique {b : Nat} {m n : Int} (h1 : IsI b m) (h2 : IsI b n) : m = n := by
  have e1 := isI_order h1 h2
  have e2 := isI_order h1 h1
  rw [e2, compare_self] at e1
  injection e1 with e1
  by_cases h : m < n
  · simp [compare, compareOfLessAndEq, h] at e1
  · by_cases h' : m = n
    · exact h'
    · simp [compare, compareOfLessAndEq, h, h'] at e1

theorem f_inj {m n : Int} (hm : m.natAbs < 9007199254740992) (hn : n.natAbs < 9007199254740992) (h : floatOfInt .f64 m = floatOfInt .f64 n) : m = n := by
  have h1 := isI_of m hm
  rw [h] at h1
  exact isI_unique h1 (isI_of n hn)

theorem part_f (n : Int) (hn : n.natAbs < 9007199254740992) : partB (floatOfInt .f64 n) = floatOfInt .f64 n := isI_partB (isI_of n hn)
theorem part_one : partB 4607182418800017408 = 4607182418800017408 := by decide +kernel
theorem part_zero : partB 0 = 0 := by decide +kernel

/-- num.Int of a whole number's own word. -/
theorem int_whole (n : Int) (w : World) (hn : n.natAbs < 9007199254740992) : Calls Try.prog 41 #[.complex .f64 (floatOfInt .f64 n) 0] w fun e w' => e = .returned (.tuple #[.int .i64 n, .bool true]) ∧ w = w' := by
  have hi := isI_of n hn
  obtain ⟨o1, o2⟩ := order_low hi hn
  refine (int_any _ 0 n w (by rw [o1]; rfl) (by rw [o2]; rfl) (isI_toInt hi (by omega) (by omega)) (by omega) (by omega)).mono ?_
  rintro e w' ⟨h1, _, h3⟩
  exact ⟨h1 (by simp [sameB]), h3⟩

/-- num.Int of a whole number, whichever nought: that number, or none. -/
theorem int_isI (x y : Nat) (n : Int) (w : World) (hi : IsI x n) (hn : n.natAbs < 9007199254740992) : Calls Try.prog 41 #[.complex .f64 x y] w fun e w' =>
    (sameB x y (floatOfInt .f64 n) 0 = true → e = .returned (.tuple #[.int .i64 n, .bool true])) ∧ (sameB x y (floatOfInt .f64 n) 0 = false → e = .returned (.tuple #[.int .i64 0, .bool false])) ∧ w = w' := by
  obtain ⟨o1, o2⟩ := order_low hi hn
  exact int_any x y n w (by rw [o1]; rfl) (by rw [o2]; rfl) (isI_toInt hi (by omega) (by omega)) (by omega) (by omega)

/-! ### The walks -/
theorem none_any (w : World) : Calls Try.prog 40 #[] w fun e w' => e = .returned (.complex .f64 0 4607182418800017408) ∧ w = w' := by
  go_enter Try.func40, Try.ntmps40
  go_wp2
  go_ret
  exact ⟨rfl, rfl⟩

theorem ref_in (i : Int) (w : World) (h0 : 0 ≤ i) (h1 : i ≤ 1099511627776) : Calls Try.prog 43 #[.int .i64 i] w fun e w' => e = .returned (.complex .f64 (floatOfInt .f64 (i + 1)) 4607182418800017408) ∧ w = w' := by
  go_enter Try.func43, Try.ntmps43
  go_wp2
  go_ret
  exact ⟨rfl, rfl⟩

theorem ref_no (i : Int) (w : World) (h : i < 0 ∨ 1099511627776 < i) : Calls Try.prog 43 #[.int .i64 i] w fun e w' => e = .returned (.complex .f64 0 4607182418800017408) ∧ w = w' := by
  have h' : (i < 0) ∨ (¬ i < 0 ∧ 1099511627776 < i) := by omega
  clear h
  rcases h' with h1 | ⟨h1, h2⟩
  all_goals
    go_enter Try.func43, Try.ntmps43
    go_wp2_with fail
    refine (none_any w).mono ?_
    rintro e w1 ⟨rfl, rfl⟩
    go_wp2
    go_ret
    exact ⟨rfl, rfl⟩

/-- Index of a reference. -/
theorem index_yes (n : Int) (w : World) (h0 : 1 ≤ n) (h1 : n ≤ 1099511627777) : Calls Try.prog 24 #[.complex .f64 (floatOfInt .f64 n) 4607182418800017408] w fun e w' => e = .returned (.tuple #[.int .i64 (n - 1), .bool true]) ∧ w = w' := by
  go_enter Try.func24, Try.ntmps24
  go_wp2_with fail
  refine (int_whole n w (by omega)).mono ?_
  rintro e w1 ⟨rfl, rfl⟩
  go_wp2_with fail
  refine (ref_in (n - 1) w (by omega) (by omega)).mono ?_
  rintro e w1 ⟨rfl, rfl⟩
  have e1 : n - 1 + 1 = n := by omega
  rw [e1]
  clear e1
  go_wp2_with fail
  refine (same_any _ _ _ _ w).mono ?_
  rintro e w1 ⟨rfl, rfl⟩
  rw [show sameB (floatOfInt .f64 n) 4607182418800017408 (floatOfInt .f64 n) 4607182418800017408 = true from by simp [sameB]]
  go_wp2
  go_ret2
  exact ⟨rfl, rfl⟩

/-- Index of a whole number with another imaginary part. -/
theorem index_other (n : Int) (y : Nat) (w : World) (h0 : 1 ≤ n) (h1 : n ≤ 1099511627777) (hy : sameB (floatOfInt .f64 n) y (floatOfInt .f64 n) 4607182418800017408 = false) :
    Calls Try.prog 24 #[.complex .f64 (floatOfInt .f64 n) y] w fun e w' => e = .returned (.tuple #[.int .i64 0, .bool false]) ∧ w = w' := by
  have HY := Lib.hid hy
  clear hy
  go_enter Try.func24, Try.ntmps24
  go_wp2_with fail
  refine (int_whole n w (by omega)).mono ?_
  rintro e w1 ⟨rfl, rfl⟩
  go_wp2_with fail
  refine (ref_in (n - 1) w (by omega) (by omega)).mono ?_
  rintro e w1 ⟨rfl, rfl⟩
  have e1 : n - 1 + 1 = n := by omega
  rw [e1]
  clear e1
  go_wp2_with fail
  refine (same_any _ _ _ _ w).mono ?_
  rintro e w1 ⟨rfl, rfl⟩
  rw [HY.out]
  go_wp2
  go_ret2
  exact ⟨rfl, rfl⟩

/-- Index of a word whose real part num.Int tells to be none, or too small. -/
theorem index_no (x y : Nat) (r : Int) (ok : Bool) (w : World) (hi : ∀ w : World, Calls Try.prog 41 #[.complex .f64 x 0] w fun e w' => e = .returned (.tuple #[.int .i64 r, .bool ok]) ∧ w = w') (h : ok = false ∨ r < 1) :
    Calls Try.prog 24 #[.complex .f64 x y] w fun e w' => e = .returned (.tuple #[.int .i64 0, .bool false]) ∧ w = w' := by
  have HI := Lib.hid hi
  clear hi
  cases ok
  · clear h
    go_enter Try.func24, Try.ntmps24
    go_wp2_with fail
    refine (HI.out w).mono ?_
    rintro e w1 ⟨rfl, rfl⟩
    go_wp2
    go_ret2
    exact ⟨rfl, rfl⟩
  · have h1 : r < 1 := by rcases h with h | h; cases h; exact h
    clear h
    go_enter Try.func24, Try.ntmps24
    go_wp2_with fail
    refine (HI.out w).mono ?_
    rintro e w1 ⟨rfl, rfl⟩
    go_wp2
    go_ret2
    exact ⟨rfl, rfl⟩
/-- Two references are the same word just if they are to the same fragment. -/
theorem same_ref (m n : Int) (hm : m.natAbs < 9007199254740992) (hn : n.natAbs < 9007199254740992) : sameB (floatOfInt .f64 m) 4607182418800017408 (floatOfInt .f64 n) 4607182418800017408 = decide (m = n) := by
  unfold sameB
  rw [part_f m hm, part_f n hn, Bool.eq_iff_iff]
  simp only [beq_self_eq_true, Bool.and_true, beq_iff_eq, decide_eq_true_eq]
  exact ⟨f_inj hm hn, fun h => by rw [h]⟩

end Go.Proofs.Ytpllolefmijfdaa
