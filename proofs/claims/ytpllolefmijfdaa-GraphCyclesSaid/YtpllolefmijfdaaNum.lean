/-
  Contracts of package num, and of sporef.Word, on words whose parts are known bits.
-/
import Derived.Test.YtpllolefmijfdaaMem
import Derived.Test.YtpllolefmijfdaaFl
import Derived.Laws.Cover2
import Derived.Laws.Cover3
import Derived.Laws.ComplexArith
namespace Go.Proofs.Ytpllolefmijfdaa
open Go.RowKit

/-- What 'part' tells of a part's bits. -/
def partB (b : Nat) : Nat := if FloatKind.f64.format.order b b = some .eq then b else 9221120237041090560
def sameB (a b c d : Nat) : Bool := partB a == partB c && partB b == partB d

theorem isI_partB {x : Nat} {n : Int} (h : IsI x n) : partB x = x := by
  unfold partB
  rw [if_pos]
  rw [isI_order h h]
  simp [compare, compareOfLessAndEq]

theorem bits_run (b : Nat) (w : World) : (callFunc 44 #[.float .f64 b]).run Try.prog w = .ok (.value (.int .u64 (b : Int))) w := rfl

theorem part_any (b : Nat) (w : World) : Calls Try.prog 65 #[.float .f64 b] w fun e w' => e = .returned (.int .u64 (partB b)) ∧ w = w' := by
  by_cases h : FloatKind.f64.format.order b b = some .eq
  · have h1 : (FloatKind.f64.format.order b b != some .eq) = false := by rw [h]; rfl
    have hb := bits_run b
    have e : partB b = b := by rw [partB, if_pos h]
    clear h
    go_enter Try.func65, Try.ntmps65
    go_wp2
    go_ret
    exact ⟨by rw [e]; rfl, rfl⟩
  · have h1 : (FloatKind.f64.format.order b b != some .eq) = true := by rw [bne_iff_ne]; exact h
    have e : partB b = 9221120237041090560 := by rw [partB, if_neg h]
    clear h
    go_enter Try.func65, Try.ntmps65
    go_wp2
    go_ret
    exact ⟨by rw [e]; rfl, rfl⟩

theorem bits_any (a b : Nat) (w : World) : Calls Try.prog 60 #[.complex .f64 a b] w fun e w' => e = .returned (.tuple #[.int .u64 (partB a), .int .u64 (partB b)]) ∧ w = w' := by
  go_enter Try.func60, Try.ntmps60
  go_wp2_with fail
  refine (part_any a w).mono ?_
  rintro e w1 ⟨rfl, rfl⟩
  go_wp2_with fail
  refine (part_any b w).mono ?_
  rintro e w1 ⟨rfl, rfl⟩
  go_wp2
  go_ret2
  exact ⟨rfl, rfl⟩

theorem same_any (a b c d : Nat) (w : World) : Calls Try.prog 42 #[.complex .f64 a b, .complex .f64 c d] w fun e w' => e = .returned (.bool (sameB a b c d)) ∧ w = w' := by
  have hs : sameB a b c d = (((partB a : Int) == (partB c : Int)) && ((partB b : Int) == (partB d : Int))) := by
    unfold sameB
    have e : ∀ x y : Nat, (x == y) = ((x : Int) == (y : Int)) := by
      intro x y
      rw [Bool.eq_iff_iff, beq_iff_eq, beq_iff_eq]
      exact ⟨fun h => by rw [h], fun h => by omega⟩
    rw [e, e]
  have HS := Lib.hid hs
  clear hs
  go_enter Try.func42, Try.ntmps42
  go_wp2_with fail
  refine (bits_any a b w).mono ?_
  rintro e w1 ⟨rfl, rfl⟩
  go_wp2_with fail
  refine (bits_any c d w).mono ?_
  rintro e w1 ⟨rfl, rfl⟩
  generalize partB a = p at *
  generalize partB b = q at *
  generalize partB c = r at *
  generalize partB d = s at *
  cases h1 : ((p : Int) == (r : Int))
  · go_wp2
    go_ret
    exact ⟨ret_b (by rw [HS.out, h1]; rfl), rfl⟩
  · go_wp2
    go_ret
    exact ⟨ret_b (by rw [HS.out, h1]; rfl), rfl⟩

theorem whole_in (n : Int) (w : World) (h0 : -9007199254740992 ≤ n) (h1 : n ≤ 9007199254740992) : Calls Try.prog 59 #[.int .i64 n] w fun e w' => e = .returned (.complex .f64 (floatOfInt .f64 n) 0) ∧ w = w' := by
  go_enter Try.func59, Try.ntmps59
  go_wp2
  go_ret
  exact ⟨rfl, rfl⟩

/-- num.Int where the real part is finite and within 2^53. -/
theorem int_any (x y : Nat) (n : Int) (w : World) (hg : (FloatKind.f64.format.order x 14069245235905429504 == some .gt || FloatKind.f64.format.order x 14069245235905429504 == some .eq) = true)
    (hl : (FloatKind.f64.format.order x 4845873199050653696 == some .lt || FloatKind.f64.format.order x 4845873199050653696 == some .eq) = true)
    (hc : floatToIntVal .f64 x .i64 = some n) (h0 : -9007199254740992 ≤ n) (h1 : n ≤ 9007199254740992) :
    Calls Try.prog 41 #[.complex .f64 x y] w fun e w' => (sameB x y (floatOfInt .f64 n) 0 = true → e = .returned (.tuple #[.int .i64 n, .bool true])) ∧ (sameB x y (floatOfInt .f64 n) 0 = false → e = .returned (.tuple #[.int .i64 0, .bool false])) ∧ w = w' := by
  have hconv := fun w : World => run_convert_float_int (P := Try.prog) w 49 3 .f64 .i64 x n (by kernel_rfl) Try.underlying3 hc
  clear hc
  cases hs : sameB x y (floatOfInt .f64 n) 0
  · go_enter Try.func41, Try.ntmps41
    go_wp2_with fail
    refine (whole_in n w h0 h1).mono ?_
    rintro e w1 ⟨rfl, rfl⟩
    go_wp2_with fail
    refine (same_any x y _ _ w).mono ?_
    rintro e w1 ⟨rfl, rfl⟩
    rw [hs]
    go_wp2
    go_ret2
    exact ⟨(fun h => by cases h), (fun _ => rfl), rfl⟩
  · go_enter Try.func41, Try.ntmps41
    go_wp2_with fail
    refine (whole_in n w h0 h1).mono ?_
    rintro e w1 ⟨rfl, rfl⟩
    go_wp2_with fail
    refine (same_any x y _ _ w).mono ?_
    rintro e w1 ⟨rfl, rfl⟩
    rw [hs]
    go_wp2
    go_ret2
    exact ⟨(fun _ => rfl), (fun h => by cases h), rfl⟩

/-! ### The references' own reading of bits -/
theorem compare_self (x : Int) : compare x x = .eq := by simp [compare, compareOfLessAndEq]
theorem order_self (b : Nat) : (FloatKind.f64.format.order b b = some .eq) ↔ ¬ 9218868437227405312 < b % 9223372036854775808 := by
  have hsw : Ieee.double.signWeight = 9223372036854775808 := by decide
  have hbin : Ieee.double.binade = 4503599627370496 := by decide
  have hinf : Ieee.double.infRung = 9218868437227405312 := by decide
  show Ieee.double.order b b = some .eq ↔ _
  unfold Ieee.Format.order Ieee.Format.read
  dsimp only
  rw [hsw, hbin, hinf]
  generalize b % 9223372036854775808 = r
  by_cases h1 : r < 4503599627370496
  · rw [if_pos h1]
    simp only [Ieee.Datum.order, compare_self, true_iff]
    omega
  · rw [if_neg h1]
    by_cases h2 : r < 9218868437227405312
    · rw [if_pos h2]
      simp only [Ieee.Datum.order, compare_self, true_iff]
      omega
    · rw [if_neg h2]
      by_cases h3 : r = 9218868437227405312
      · rw [if_pos h3]
        have hc : ∀ u : Bool, compare u.toNat u.toNat = .eq := by intro u; cases u <;> rfl
        simp only [Ieee.Datum.order, hc, true_iff]
        omega
      · rw [if_neg h3]
        simp only [Ieee.Datum.order]
        constructor
        · intro h; cases h
        · intro h; omega

theorem word_part (b : Nat) (w : World) (_hb : b < 18446744073709551616) : Calls Try.prog 30 #[.float .f64 b] w fun e w' => e = .returned (.int .u64 (partB b)) ∧ w = w' := by
  have hbr := bits_run b
  by_cases h : 9218868437227405312 < b % 9223372036854775808
  · have e : partB b = 9221120237041090560 := by rw [partB, if_neg]; rw [order_self]; omega
    have h1 : 18437736874454810624 < IntKind.u64.wrap ((b : Int) * 2) := by rw [IntKind.wrap_u64]; omega
    have E := Lib.hid e
    clear e
    go_enter Try.func30, Try.ntmps30
    go_wp2
    go_ret
    exact ⟨by rw [E.out]; rfl, rfl⟩
  · have e : partB b = b := by rw [partB, if_pos]; rw [order_self]; exact h
    have h1 : ¬ 18437736874454810624 < IntKind.u64.wrap ((b : Int) * 2) := by rw [IntKind.wrap_u64]; omega
    have E := Lib.hid e
    clear e
    go_enter Try.func30, Try.ntmps30
    go_wp2
    go_ret
    exact ⟨by rw [E.out]; rfl, rfl⟩

theorem word_any (a b c d : Nat) (w : World) (ha : a < 18446744073709551616) (hb : b < 18446744073709551616) (hc : c < 18446744073709551616) (hd : d < 18446744073709551616) :
    Calls Try.prog 16 #[.complex .f64 a b, .complex .f64 c d] w fun e w' => e = .returned (.bool (sameB a b c d)) ∧ w = w' := by
  have hs : sameB a b c d = (((partB a : Int) == (partB c : Int)) && ((partB b : Int) == (partB d : Int))) := by
    unfold sameB
    have e : ∀ x y : Nat, (x == y) = ((x : Int) == (y : Int)) := by
      intro x y
      rw [Bool.eq_iff_iff, beq_iff_eq, beq_iff_eq]
      exact ⟨fun h => by rw [h], fun h => by omega⟩
    rw [e, e]
  have HS := Lib.hid hs
  clear hs
  cases h1 : ((partB a : Int) == (partB c : Int))
  · go_enter Try.func16, Try.ntmps16
    go_wp2_with fail
    refine (word_part a w ha).mono ?_
    rintro e w1 ⟨rfl, rfl⟩
    go_wp2_with fail
    refine (word_part c w hc).mono ?_
    rintro e w1 ⟨rfl, rfl⟩
    go_wp2
    go_ret
    exact ⟨ret_b (by rw [HS.out, h1]; rfl), rfl⟩
  · go_enter Try.func16, Try.ntmps16
    go_wp2_with fail
    refine (word_part a w ha).mono ?_
    rintro e w1 ⟨rfl, rfl⟩
    go_wp2_with fail
    refine (word_part c w hc).mono ?_
    rintro e w1 ⟨rfl, rfl⟩
    go_wp2_with fail
    refine (word_part b w hb).mono ?_
    rintro e w1 ⟨rfl, rfl⟩
    go_wp2_with fail
    refine (word_part d w hd).mono ?_
    rintro e w1 ⟨rfl, rfl⟩
    go_wp2
    go_ret
    exact ⟨ret_b (by rw [HS.out, h1]; rfl), rfl⟩

end Go.Proofs.Ytpllolefmijfdaa
