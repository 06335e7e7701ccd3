/-
  Contracts of num.Mul, num.Add and num.Sub on words whose parts are known bits; products of whole numbers.
-/
import Derived.Test.YtfgkomkilkcfiaaNum
namespace Go.Proofs.Ytfgkomkilkcfiaa
open Go.RowKit

/-! ### Sums and products of whole numbers -/
theorem times_any (x y r : Nat) (h : floatBits .mul .f64 x y = some r) (w : World) : Calls Try.prog 15 #[.float .f64 x, .float .f64 y] w fun e w' => e = .returned (.float .f64 r) ∧ w = w' := by
  have hm := fun (w : World) => run_float_arith (P := Try.prog) w .mul 24 .f64 x y r h
  clear h
  go_enter Try.func15, Try.ntmps15
  go_wp2
  go_ret
  exact ⟨rfl, rfl⟩

/-- What a product of two words is, by the bits of its parts. -/
structure MulIs (a b c d re im : Nat) : Prop where
  ac : ∃ p q, floatBits .mul .f64 a c = some p ∧ floatBits .mul .f64 b d = some q ∧ floatBits .sub .f64 p q = some re
  ad : ∃ p q, floatBits .mul .f64 a d = some p ∧ floatBits .mul .f64 b c = some q ∧ floatBits .add .f64 p q = some im

theorem mul_any (a b c d re im : Nat) (h : MulIs a b c d re im) (w : World) : Calls Try.prog 7 #[.complex .f64 a b, .complex .f64 c d] w fun e w' => e = .returned (.complex .f64 re im) ∧ w = w' := by
  obtain ⟨⟨p, q, h1, h2, h3⟩, ⟨u, v, h4, h5, h6⟩⟩ := h
  have s3 := fun (w : World) => run_float_arith (P := Try.prog) w .sub 24 .f64 p q re h3
  have s6 := fun (w : World) => run_float_arith (P := Try.prog) w .add 24 .f64 u v im h6
  have H1 := Lib.hid h1; have H2 := Lib.hid h2; have H4 := Lib.hid h4; have H5 := Lib.hid h5
  clear h1 h2 h3 h4 h5 h6
  go_enter Try.func7, Try.ntmps7
  go_wp2_with fail
  refine (times_any a c p H1.out w).mono ?_
  rintro e w1 ⟨rfl, rfl⟩
  go_wp2_with fail
  refine (times_any b d q H2.out w).mono ?_
  rintro e w1 ⟨rfl, rfl⟩
  go_wp2_with fail
  refine (times_any a d u H4.out w).mono ?_
  rintro e w1 ⟨rfl, rfl⟩
  go_wp2_with fail
  refine (times_any b c v H5.out w).mono ?_
  rintro e w1 ⟨rfl, rfl⟩
  go_wp2
  go_ret
  exact ⟨rfl, rfl⟩

theorem mulIs_of {a b c d : Nat} {x y u v : Int} (ha : IsI a x) (hb : IsI b y) (hc : IsI c u) (hd : IsI d v)
    (h1 : (x * u).natAbs < 9007199254740992) (h2 : (y * v).natAbs < 9007199254740992) (h3 : (x * u - y * v).natAbs < 9007199254740992)
    (h4 : (x * v).natAbs < 9007199254740992) (h5 : (y * u).natAbs < 9007199254740992) (h6 : (x * v + y * u).natAbs < 9007199254740992) :
    ∃ re im, MulIs a b c d re im ∧ IsI re (x * u - y * v) ∧ IsI im (x * v + y * u) ∧ re < 18446744073709551616 ∧ im < 18446744073709551616 := by
  obtain ⟨p, e1, i1⟩ := isI_mul ha hc h1
  obtain ⟨q, e2, i2⟩ := isI_mul hb hd h2
  obtain ⟨re, e3, i3⟩ := isI_sub i1 i2 h3
  obtain ⟨p', e4, i4⟩ := isI_mul ha hd h4
  obtain ⟨q', e5, i5⟩ := isI_mul hb hc h5
  obtain ⟨im, e6, i6⟩ := isI_add i4 i5 h6
  exact ⟨re, im, ⟨⟨p, q, e1, e2, e3⟩, ⟨p', q', e4, e5, e6⟩⟩, i3, i6, floatBits_lt e3, floatBits_lt e6⟩

theorem add_any (a b c d re im : Nat) (h1 : floatBits .add .f64 a c = some re) (h2 : floatBits .add .f64 b d = some im) (w : World) : Calls Try.prog 9 #[.complex .f64 a b, .complex .f64 c d] w fun e w' => e = .returned (.complex .f64 re im) ∧ w = w' := by
  have s1 := fun (w : World) => run_float_arith (P := Try.prog) w .add 24 .f64 a c re h1
  have s2 := fun (w : World) => run_float_arith (P := Try.prog) w .add 24 .f64 b d im h2
  clear h1 h2
  go_enter Try.func9, Try.ntmps9
  go_wp2
  go_ret
  exact ⟨rfl, rfl⟩
theorem sub_any (a b c d re im : Nat) (h1 : floatBits .sub .f64 a c = some re) (h2 : floatBits .sub .f64 b d = some im) (w : World) : Calls Try.prog 11 #[.complex .f64 a b, .complex .f64 c d] w fun e w' => e = .returned (.complex .f64 re im) ∧ w = w' := by
  have s1 := fun (w : World) => run_float_arith (P := Try.prog) w .sub 24 .f64 a c re h1
  have s2 := fun (w : World) => run_float_arith (P := Try.prog) w .sub 24 .f64 b d im h2
  clear h1 h2
  go_enter Try.func11, Try.ntmps11
  go_wp2
  go_ret
  exact ⟨rfl, rfl⟩

end Go.Proofs.Ytfgkomkilkcfiaa
