/-
  NumUnits: a number times i is turned about, four times it is as it was; times its conjugate it is not below 0. For every input.
-/
import Derived.Test.YtfgkomkilkcfiaaNm1
namespace Go.Proofs.Ytfgkomkilkcfiaa.numUnits
open Go.RowKit Go.ChangeShapes Go.WideShapes Go.ChangeAt Ieee

/-! ### Plain: doubles that are not below 0 -/
theorem read_low (s : Bool) (r : Nat) (h : r < 2047 * 2 ^ 52) : ∃ m e, Ieee.double.read (Ieee.double.word s r) = .number s m e := by
  have hlp : Ieee.double.leastPlace = -1074 := by decide
  have hbin : Ieee.double.binade = 2 ^ 52 := by decide
  have hinf : Ieee.double.infRung = 2047 * 2 ^ 52 := by decide
  have hsw : Ieee.double.signWeight = 2 ^ 63 := by decide
  have hneg : ((Ieee.double.word s r) / 2 ^ 63 % 2 == 1) = s := by
    unfold Format.word
    rw [hsw]
    cases s
    · have : r / 2 ^ 63 = 0 := Nat.div_eq_of_lt (by omega)
      simp [this]
    · have : (2 ^ 63 + r) / 2 ^ 63 = 1 := by omega
      simp [this]
  have hmod : (Ieee.double.word s r) % 2 ^ 63 = r := by
    unfold Format.word
    rw [hsw]
    have hr : r < 2 ^ 63 := by omega
    cases s
    · exact Nat.mod_eq_of_lt hr
    · simp only [if_true]; omega
  unfold Format.read
  dsimp only
  rw [hsw, hbin, hinf, hlp, hneg, hmod]
  by_cases h1 : r < 2 ^ 52
  · rw [if_pos h1]; exact ⟨_, _, rfl⟩
  · rw [if_neg h1, if_pos h]; exact ⟨_, _, rfl⟩

theorem near_fin (s : Bool) (v j : Nat) (h : v < 2 ^ 101) : ∃ m e, Ieee.double.read (Ieee.double.nearest s (v * 2 ^ j) (0 - (j : Int))) = .number s m e := by
  have hlp : Ieee.double.leastPlace = -1074 := by decide
  have hfb : (Ieee.double.fractionBits : Int) = 52 := by decide
  have hbin : Ieee.double.binade = 2 ^ 52 := by decide
  have hinf : Ieee.double.infRung = 2047 * 2 ^ 52 := by decide
  rcases Nat.eq_zero_or_pos v with rfl | hv
  · rw [Nat.zero_mul]
    unfold Format.nearest
    rw [if_pos rfl]
    exact read_low s 0 (by omega)
  · have hne : v * 2 ^ j ≠ 0 := by have := Nat.mul_pos hv (Nat.two_pow_pos j); omega
    have hl : v.log2 < 101 := (Nat.log2_lt (by omega)).2 h
    have hlt := Nat.lt_log2_self (n := v)
    unfold Format.nearest
    rw [if_neg hne]
    simp only [hlp, hfb, hbin, hinf, log2_scale v j hv]
    have hlast : max (0 - (j : Int) + ((v.log2 + j : Nat) : Int) - 52) (-1074) = (v.log2 : Int) - 52 := by omega
    rw [hlast]
    have hk : Toward.cut .even s ((v * 2 ^ j) <<< ((0 - (j : Int)) - ((v.log2 : Int) - 52)).toNat) (((v.log2 : Int) - 52) - (0 - (j : Int))).toNat ≤ 2 ^ 53 := by
      by_cases hj : v.log2 + j ≤ 52
      · have e1 : ((0 - (j : Int)) - ((v.log2 : Int) - 52)).toNat = 52 - v.log2 - j := by omega
        have e2 : (((v.log2 : Int) - 52) - (0 - (j : Int))).toNat = 0 := by omega
        rw [e1, e2, Nat.shiftLeft_eq, Nat.mul_assoc, ← Nat.pow_add, show j + (52 - v.log2 - j) = 52 - v.log2 from by omega]
        have := cut_exact s (v * 2 ^ (52 - v.log2)) 0 .even
        rw [Nat.pow_zero, Nat.mul_one] at this
        rw [this]
        have h1 : v * 2 ^ (52 - v.log2) < 2 ^ (v.log2 + 1) * 2 ^ (52 - v.log2) := Nat.mul_lt_mul_of_pos_right hlt (Nat.two_pow_pos _)
        rw [← Nat.pow_add, show v.log2 + 1 + (52 - v.log2) = 53 from by omega] at h1
        omega
      · have e1 : ((0 - (j : Int)) - ((v.log2 : Int) - 52)).toNat = 0 := by omega
        have e2 : (((v.log2 : Int) - 52) - (0 - (j : Int))).toNat = v.log2 + j - 52 := by omega
        rw [e1, e2, Nat.shiftLeft_eq, Nat.pow_zero, Nat.mul_one]
        unfold Toward.cut
        have hm : min (v.log2 + j - 52) ((v * 2 ^ j).log2 + 2) = v.log2 + j - 52 := by rw [log2_scale v j hv]; omega
        simp only [hm, Nat.shiftLeft_eq, Nat.one_mul]
        have h1 : v * 2 ^ j < 2 ^ (v.log2 + 1) * 2 ^ j := Nat.mul_lt_mul_of_pos_right hlt (Nat.two_pow_pos _)
        rw [← Nat.pow_add, show v.log2 + 1 + j = 53 + (v.log2 + j - 52) from by omega, Nat.pow_add] at h1
        have h2 : v * 2 ^ j / 2 ^ (v.log2 + j - 52) < 2 ^ 53 := (Nat.div_lt_iff_lt_mul (Nat.two_pow_pos _)).2 h1
        have h3 : ∀ t : Bool, t.toNat ≤ 1 := by intro t; cases t <;> decide
        have := h3 (decide (2 ^ (v.log2 + j - 52) < 2 * (v * 2 ^ j % 2 ^ (v.log2 + j - 52))) || (2 ^ (v.log2 + j - 52) == 2 * (v * 2 ^ j % 2 ^ (v.log2 + j - 52)) && v * 2 ^ j / 2 ^ (v.log2 + j - 52) % 2 == 1))
        omega
    generalize Toward.cut .even s ((v * 2 ^ j) <<< ((0 - (j : Int)) - ((v.log2 : Int) - 52)).toNat) (((v.log2 : Int) - 52) - (0 - (j : Int))).toNat = kept at *
    have hT : ((v.log2 : Int) - 52 - (-1074)).toNat ≤ 1123 := by omega
    generalize ((v.log2 : Int) - 52 - (-1074)).toNat = T at *
    have hle : T * 2 ^ 52 + kept < 2047 * 2 ^ 52 := by omega
    rw [Nat.min_eq_left (Nat.le_of_lt hle)]
    exact read_low s _ hle

theorem mul_raw {x y : Nat} {s t : Bool} {a b : Nat} (hx : Rep x s a 0) (hy : Rep y t b 0) : ∃ j : Nat, Ieee.double.mul x y = some (Ieee.double.nearest (s ^^ t) (a * b * 2 ^ j) (0 - (j : Int))) := by
  obtain ⟨k, hk⟩ := hx
  obtain ⟨l, hl⟩ := hy
  refine ⟨k + l, ?_⟩
  unfold Format.mul
  rw [hk, hl]
  simp only [Datum.product, Option.map_some, Format.write]
  have e1 : a * 2 ^ k * (b * 2 ^ l) = a * b * 2 ^ (k + l) := by rw [Nat.pow_add, Nat.mul_mul_mul_comm]
  have e2 : 0 - (k : Int) + (0 - (l : Int)) = 0 - ((k + l : Nat) : Int) := by omega
  rw [e1, e2]

/-- Numbers that are added, whatever they are, give a word. -/
theorem add_num {x y : Nat} {s t : Bool} {m n : Nat} {i j : Int} (hx : Ieee.double.read x = .number s m i) (hy : Ieee.double.read y = .number t n j) : ∃ r, Ieee.double.add x y = some r := by
  unfold Format.add
  rw [hx, hy]
  exact ⟨_, rfl⟩

theorem read_near (s : Bool) (m : Nat) (e : Int) : (∃ a b, Ieee.double.read (Ieee.double.nearest s m e) = .number s a b) ∨ Ieee.double.read (Ieee.double.nearest s m e) = .infinity s := by
  have hinf : Ieee.double.infRung = 2047 * 2 ^ 52 := by decide
  unfold Format.nearest
  dsimp only
  split
  · exact .inl (read_low s 0 (by omega))
  · rw [hinf]
    generalize (_ * _ + _ : Nat) = r
    by_cases h : r < 2047 * 2 ^ 52
    · rw [Nat.min_eq_left (Nat.le_of_lt h)]
      exact .inl (read_low s r h)
    · rw [Nat.min_eq_right (by omega)]
      right
      cases s <;> decide +kernel

/-- The difference of a number not below 0 and one not above 0 is not below 0. -/
theorem sub_ge {x y : Nat} {m n : Nat} {i j : Int} (hx : Ieee.double.read x = .number false m i) (hy : Ieee.double.read y = .number true n j) :
    ∃ r, Ieee.double.sub x y = some r ∧ (FloatKind.f64.format.order r 0 == some .gt || FloatKind.f64.format.order r 0 == some .eq) = true := by
  unfold Format.sub
  rw [hx, hy]
  simp only [Datum.opposite, Datum.sum, signed, Bool.not_true, Option.map_some, Format.write, Bool.and_self]
  have hs : (if ((m <<< (i - min i j).toNat : Nat) : Int) + ((n <<< (j - min i j).toNat : Nat) : Int) = 0 then false else decide (((m <<< (i - min i j).toNat : Nat) : Int) + ((n <<< (j - min i j).toNat : Nat) : Int) < 0)) = false := by
    have hnn : ∀ u v : Nat, (if (u : Int) + (v : Int) = 0 then false else decide ((u : Int) + (v : Int) < 0)) = false := by
      intro u v
      split
      · rfl
      · rw [decide_eq_false_iff_not]; omega
    exact hnn _ _
  simp only [Bool.false_eq_true, if_false, hs]
  refine ⟨_, rfl, ?_⟩
  have h0 : Ieee.double.read 0 = .number false 0 (-1074) := by decide
  show (Ieee.double.order _ 0 == some .gt || Ieee.double.order _ 0 == some .eq) = true
  unfold Format.order
  rw [h0]
  rcases read_near false (((m <<< (i - min i j).toNat : Nat) : Int) + ((n <<< (j - min i j).toNat : Nat) : Int)).natAbs (min i j) with ⟨a, b, h⟩ | h
  · rw [h]
    simp only [Datum.order, signed, Bool.false_eq_true, if_false]
    generalize (a <<< (b - min b (-1074)).toNat : Nat) = u
    have hz : ((0 <<< (-1074 - min b (-1074)).toNat : Nat) : Int) = 0 := by rw [Nat.zero_shiftLeft]; rfl
    rw [hz]
    rcases Nat.eq_zero_or_pos u with rfl | hu
    · decide
    · have : compare (u : Int) 0 = .gt := by
        simp only [compare, compareOfLessAndEq]
        rw [if_neg (by omega), if_neg (by omega)]
      rw [this]
      decide
  · rw [h]
    decide

/-! ### Plain: turning about -/
def rotP (a b : Int) : Nat → Int × Int
  | 0 => (a, b)
  | j + 1 => (-(rotP a b j).2, (rotP a b j).1)
theorem rotP_bd (a b : Int) (ha : a.natAbs ≤ 1125899906842624) (hb : b.natAbs ≤ 1125899906842624) : ∀ j, (rotP a b j).1.natAbs ≤ 1125899906842624 ∧ (rotP a b j).2.natAbs ≤ 1125899906842624
  | 0 => ⟨ha, hb⟩
  | j + 1 => ⟨by simp only [rotP]; have := (rotP_bd a b ha hb j).2; omega, (rotP_bd a b ha hb j).1⟩
theorem unit_im : IsI 4607182418800017408 1 := by
  have h := isI_of 1 (by omega)
  rwa [show floatOfInt .f64 1 = 4607182418800017408 from by decide +kernel] at h
theorem unit_re : IsI 0 0 := by
  have h := isI_of 0 (by omega)
  rwa [show floatOfInt .f64 0 = 0 from by decide +kernel] at h
/-- A number times i. -/
theorem times_i {re im : Nat} {x y : Int} (h1 : IsI re x) (h2 : IsI im y) (hx : x.natAbs ≤ 1125899906842624) (hy : y.natAbs ≤ 1125899906842624) :
    ∃ r q, MulIs re im 0 4607182418800017408 r q ∧ IsI r (-y) ∧ IsI q x := by
  obtain ⟨r, q, h, i1, i2, _, _⟩ := mulIs_of h1 h2 unit_re unit_im (by simp) (by simp; omega) (by simp; omega) (by simp; omega) (by simp) (by simp; omega)
  refine ⟨r, q, h, ?_, ?_⟩
  · have e : x * 0 - y * 1 = -y := by omega
    rwa [e] at i1
  · have e : x * 1 + y * 0 = x := by omega
    rwa [e] at i2
/-- Equal whole numbers are equal as doubles. -/
theorem eq_of_isI {x y : Nat} {n : Int} (hx : IsI x n) (hy : IsI y n) : (FloatKind.f64.format.order x y == some .eq) = true := by
  rw [isI_order hx hy, compare_self]
  rfl
/-- A number times its conjugate. -/
theorem times_conj (a b : Int) (ha : a.natAbs ≤ 1125899906842624) (hb : b.natAbs ≤ 1125899906842624) :
    ∃ r q, MulIs (floatOfInt .f64 a) (floatOfInt .f64 b) (floatOfInt .f64 a) (Op.negFloat .f64 (floatOfInt .f64 b)) r q ∧ (FloatKind.f64.format.order r 0 == some .gt || FloatKind.f64.format.order r 0 == some .eq) = true := by
  have r1 : Rep (floatOfInt .f64 a) (decide (a < 0)) a.natAbs 0 := rep_near _ _ 0 (by omega) (by omega) (by omega)
  have r2 : Rep (floatOfInt .f64 b) (decide (b < 0)) b.natAbs 0 := rep_near _ _ 0 (by omega) (by omega) (by omega)
  have r3 := rep_neg r2 (floatOfInt_lt b)
  have hbd : ∀ x y : Nat, x ≤ 1125899906842624 → y ≤ 1125899906842624 → x * y < 2 ^ 101 := by
    intro x y h1 h2
    have := Nat.mul_le_mul h1 h2
    omega
  obtain ⟨j1, e1⟩ := mul_raw r1 r1
  obtain ⟨j2, e2⟩ := mul_raw r2 r3
  obtain ⟨j3, e3⟩ := mul_raw r1 r3
  obtain ⟨j4, e4⟩ := mul_raw r2 r1
  obtain ⟨m1, q1, f1⟩ := near_fin (decide (a < 0) ^^ decide (a < 0)) (a.natAbs * a.natAbs) j1 (hbd _ _ ha ha)
  obtain ⟨m2, q2, f2⟩ := near_fin (decide (b < 0) ^^ !decide (b < 0)) (b.natAbs * b.natAbs) j2 (hbd _ _ hb hb)
  obtain ⟨m3, q3, f3⟩ := near_fin (decide (a < 0) ^^ !decide (b < 0)) (a.natAbs * b.natAbs) j3 (hbd _ _ ha hb)
  obtain ⟨m4, q4, f4⟩ := near_fin (decide (b < 0) ^^ decide (a < 0)) (b.natAbs * a.natAbs) j4 (hbd _ _ hb ha)
  obtain ⟨im, e5⟩ := add_num f3 f4
  obtain ⟨re, e6, hge⟩ := sub_ge (m := m1) (n := m2) (i := q1) (j := q2) (by rw [f1]; congr 1; simp) (by rw [f2]; congr 1; cases decide (b < 0) <;> rfl)
  exact ⟨re, im, ⟨⟨_, _, e1, e2, e6⟩, ⟨_, _, e3, e4, e5⟩⟩, hge⟩

theorem neg_run (x : Nat) (w : World) : (Op.unary .neg (.float .f64 x)).run Try.prog w = .ok (.float .f64 (Op.negFloat .f64 x)) w := rfl

theorem conj_any (a b : Nat) (w : World) : Calls Try.prog 8 #[.complex .f64 a b] w fun e w' => e = .returned (.complex .f64 a (Op.negFloat .f64 b)) ∧ w = w' := by
  have hn := neg_run
  go_enter Try.func8, Try.ntmps8
  go_wp2
  go_ret
  exact ⟨rfl, rfl⟩

set_option maxRecDepth 100000 in
set_option maxHeartbeats 1000000 in
theorem out (a b : Int) (w : World) (h : a < -1125899906842624 ∨ 1125899906842624 < a ∨ b < -1125899906842624 ∨ 1125899906842624 < b) :
    Calls Try.prog 3 #[.int .i64 a, .int .i64 b] w fun e w' => e = .returned (.bool true) ∧ Pure w w' := by
  have h' : (a < -1125899906842624) ∨ (¬ a < -1125899906842624 ∧ 1125899906842624 < a) ∨ (¬ a < -1125899906842624 ∧ ¬ 1125899906842624 < a ∧ b < -1125899906842624) ∨ (¬ a < -1125899906842624 ∧ ¬ 1125899906842624 < a ∧ ¬ b < -1125899906842624 ∧ 1125899906842624 < b) := by omega
  clear h
  rcases h' with g0 | ⟨g0, g1⟩ | ⟨g0, g1, g2⟩ | ⟨g0, g1, g2, g3⟩
  all_goals
    go_enter Try.func3, Try.ntmps3
    go_wp2_with fail
    refine (first_any _).mono ?_
    rintro e w1 ⟨rfl, hp1⟩
    have P1 := Lib.hid hp1
    clear hp1
    go_wp2_with fail
    refine (first_any _).mono ?_
    rintro e w8 ⟨rfl, hp8⟩
    have P8 := Lib.hid hp8
    clear hp8
    go_wp2
    go_ret
    exact ⟨rfl, P1.out.then P8.out⟩

set_option maxRecDepth 100000 in
theorem main (a b : Int) (w : World) (a0 : -1125899906842624 ≤ a) (a1 : a ≤ 1125899906842624) (b0 : -1125899906842624 ≤ b) (b1 : b ≤ 1125899906842624) :
    Calls Try.prog 3 #[.int .i64 a, .int .i64 b] w fun e w' => e = .returned (.bool true) ∧ Pure w w' := by
  have ha : a.natAbs ≤ 1125899906842624 := by omega
  have hb : b.natAbs ≤ 1125899906842624 := by omega
  have iA := isI_of a (by omega)
  have iB := isI_of b (by omega)
  obtain ⟨tr, ti, hT, hT1, hT2⟩ := times_i iA iB ha hb
  have t1 := eq_of_isI hT1 (isI_neg iB (floatOfInt_lt b))
  have t2 := eq_of_isI hT2 iA
  obtain ⟨cr, ci, hC, hC1⟩ := times_conj a b ha hb
  have IA := Lib.hid iA; have IB := Lib.hid iB; have HT := Lib.hid hT; have HC := Lib.hid hC
  have HBD := Lib.hid (rotP_bd a b ha hb)
  clear iA iB hT hT1 hT2 hC ha hb
  have hn := neg_run
  go_enter Try.func3, Try.ntmps3
  go_wp2_with fail
  refine (first_any _).mono ?_
  rintro e w1 ⟨rfl, hp1⟩
  have P1 := Lib.hid hp1
  clear hp1
  go_wp2_with fail
  go_loop [6, 7] (fun z i => ∃ (k re im : Nat), k ≤ 4 ∧ i = .int .i64 k ∧ z = .complex .f64 re im ∧ IsI re (rotP a b k).1 ∧ IsI im (rotP a b k).2) (fun _ i => 4 - (intOf i).toNat)
  case atStart => exact ⟨0, _, _, by omega, rfl, rfl, IA.out, IB.out⟩
  case round =>
    obtain ⟨k, re, im, hk, rfl, rfl, i1, i2⟩ := hrel
    by_cases hlt : k < 4
    · obtain ⟨r, q, hM, j1, j2⟩ := times_i i1 i2 (HBD.out k).1 (HBD.out k).2
      have HM := Lib.hid hM; have J1 := Lib.hid j1; have J2 := Lib.hid j2
      clear hM j1 j2 i1 i2
      go_wp2_with fail
      refine (mul_any _ _ _ _ _ _ HM.out _).mono ?_
      rintro e w2 ⟨rfl, rfl⟩
      go_wp2_with fail
      go_round
      case rel => exact ⟨k + 1, r, q, by omega, by go_num, rfl, J1.out, J2.out⟩
      case measure => simp [intOf]; omega
    · obtain rfl : k = 4 := by omega
      have e1 : (rotP a b 4).1 = a := by simp [rotP]
      have e2 : (rotP a b 4).2 = b := by simp [rotP]
      rw [e1] at i1
      rw [e2] at i2
      have t3 := eq_of_isI i1 IA.out
      have t4 := eq_of_isI i2 IB.out
      clear i1 i2 e1 e2
      go_wp2_with fail
      refine (mul_any _ _ _ _ _ _ HT.out _).mono ?_
      rintro e w2 ⟨rfl, rfl⟩
      go_wp2_with fail
      refine (first_any _).mono ?_
      rintro e w8 ⟨rfl, hp8⟩
      have P8 := Lib.hid hp8
      clear hp8
      go_wp2_with fail
      refine (conj_any _ _ _).mono ?_
      rintro e w2 ⟨rfl, rfl⟩
      go_wp2_with fail
      refine (mul_any _ _ _ _ _ _ HC.out _).mono ?_
      rintro e w2 ⟨rfl, rfl⟩
      go_wp2
      go_ret
      exact ⟨rfl, P1.out.then P8.out⟩

theorem walk (w : World) (a : Int) (_ha : -9223372036854775808 ≤ a ∧ a ≤ 9223372036854775807) (b : Int) (_hb : -9223372036854775808 ≤ b ∧ b ≤ 9223372036854775807) :
    Calls Try.prog 3 #[.int .i64 a, .int .i64 b] w fun e w' => e = .returned (.bool true) ∧ Pure w w' := by
  by_cases h : a < -1125899906842624 ∨ 1125899906842624 < a ∨ b < -1125899906842624 ∨ 1125899906842624 < b
  · exact out a b w h
  · exact main a b w (by omega) (by omega) (by omega) (by omega)

set_option maxRecDepth 100000 in
theorem lifted (os : Os) (started : os.Started) (H : Type) (enc : TypeId × Value → H) :
    ReturnsInHanded {} Try.checked os 3 .any (Rows.numUnitsSpec.pre6 enc Try.prog Try.f3 Rows.numUnitsRow.domain false) (Rows.numUnitsSpec.post enc Try.prog Try.f3 false true false false) :=
  lift_law (C := Try.checked) own started (by kernel_rfl) Try.func3 laidOut (by kernel_rfl) rfl rfl Try.underlying4
    (fun ds h => by match ds, h with | [_, _], _ => rfl)
    (ChangeSpec.witness6 (enc := enc) (C := Try.checked) false ⟨#[], #[.int .i64 0, .int .i64 0], []⟩ 8 (by kernel_rfl) (by kernel_rfl) (by kernel_rfl) (by kernel_rfl))
    (fun W base args ds ps hval hA hlt => by
      have hA' : DataW.TrodAll enc Try.prog W 0 (fun _ => true) true Try.f3.params.toList args.toList ds ps := hA
      rw [Try.params3] at hA'
      have hval' : ∀ (j : Nat) t v, Try.f3.params[j]? = some t → args[j]? = some v → Value.okWide Try.prog W .any base t v := hval
      rw [Try.params3] at hval'
      obtain ⟨v0, vs0, d0, ds0, p0, q0, hargs, rfl, rfl, h0, r0⟩ := trodAll_cons hA'
      obtain ⟨v1, vs1, d1, ds1, p1, q1, rfl, rfl, rfl, h1, r1⟩ := trodAll_cons r0
      obtain ⟨rfl, rfl, rfl⟩ := trodAll_nil r1
      obtain rfl : args = #[v0, v1] := by cases args; simp_all
      obtain ⟨a0, rfl, rfl, rfl, w0⟩ := open_int Try.underlying3 (hval' 0 3 v0 rfl rfl) h0
      obtain ⟨a1, rfl, rfl, rfl, w1⟩ := open_int Try.underlying3 (hval' 1 3 v1 rfl rfl) h1
      exact (walk W a0 (int_bounds w0) a1 (int_bounds w1)).mono fun e W' ⟨he, hp⟩ => ⟨he, hp.below⟩)

/-- The statement. -/
theorem proved : Rows.NumUnitsSaid :=
  OpenClaim.holds_of_wide 3 Try.f3 rfl rfl rfl rfl rfl rfl rfl ⟨rfl, rfl, rfl, rfl, rfl⟩ rfl rfl rfl rfl rfl (by kernel_rfl) Try.func3 (by kernel_rfl)
    (of_decide_eq_true (by kernel_rfl)) (by unfold Func.isWrapper; first | (rw [if_pos (by decide +kernel)]; kernel_rfl) | (rw [if_neg (by decide +kernel)]; exact ⟨rfl, rfl⟩))
    (fun os started H enc _ => lifted os started H enc)
#print axioms proved

end Go.Proofs.Ytfgkomkilkcfiaa.numUnits
