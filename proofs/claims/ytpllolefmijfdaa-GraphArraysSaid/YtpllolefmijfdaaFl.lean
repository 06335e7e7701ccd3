/-
  PLAIN LAWS on the model's float64: whole numbers below 2^53 (and their halves) are added, subtracted, multiplied, compared and converted exactly. No function of the program is walked here.
-/
import Derived.Laws.FloatArith
namespace Go.Proofs.Ytpllolefmijfdaa
open Ieee

/-- The double whose bits are b is a number of sign s and of magnitude a * 2 ^ q. -/
def Rep (b : Nat) (s : Bool) (a : Nat) (q : Int) : Prop := ∃ k : Nat, Ieee.double.read b = .number s (a * 2 ^ k) (q - k)

theorem cut_exact (s : Bool) (a k : Nat) (w : Toward) : Toward.cut w s (a * 2 ^ k) k = a := by
  have hp : 0 < 2 ^ k := Nat.two_pow_pos k
  unfold Toward.cut
  rcases Nat.eq_zero_or_pos a with rfl | ha
  · simp only [Nat.zero_mul, Nat.zero_div, Nat.zero_mod]
    have h1 : 0 < 1 <<< min k (Nat.log2 0 + 2) := by rw [Nat.shiftLeft_eq]; have := Nat.two_pow_pos (min k (Nat.log2 0 + 2)); omega
    have h2 : ¬ (1 <<< min k (Nat.log2 0 + 2) = 0) := by omega
    cases w <;> simp
  · have hne : a * 2 ^ k ≠ 0 := by have := Nat.mul_pos ha hp; omega
    have hl : k ≤ (a * 2 ^ k).log2 := by
      rw [Nat.le_log2 hne]
      exact Nat.le_mul_of_pos_left _ ha
    have hm : min k ((a * 2 ^ k).log2 + 2) = k := by omega
    simp only [hm, Nat.shiftLeft_eq, Nat.one_mul, Nat.mul_div_cancel _ hp, Nat.mul_mod_left]
    have h2 : ¬ (2 ^ k = 0) := by omega
    cases w <;> simp

theorem log2_scale (a j : Nat) (ha : 0 < a) : (a * 2 ^ j).log2 = a.log2 + j := by
  have hne : a * 2 ^ j ≠ 0 := by have := Nat.mul_pos ha (Nat.two_pow_pos j); omega
  rw [Nat.log2_eq_iff hne]
  have h1 := Nat.log2_self_le (n := a) (by omega)
  have h2 := Nat.lt_log2_self (n := a)
  constructor
  · rw [Nat.pow_add]; exact Nat.mul_le_mul_right _ h1
  · rw [show a.log2 + j + 1 = (a.log2 + 1) + j from by omega, Nat.pow_add]
    exact Nat.mul_lt_mul_of_pos_right h2 (Nat.two_pow_pos j)

theorem log2_le52 (a : Nat) (ha : 0 < a) (h : a < 2 ^ 53) : a.log2 ≤ 52 := by
  have := (Nat.log2_lt (n := a) (k := 53) (by omega)).2 h
  omega

/-- The significand that stands for a: 53 digits. -/
def signif (a : Nat) : Nat := a * 2 ^ (52 - a.log2)
theorem signif_in (a : Nat) (ha : 0 < a) (h : a < 2 ^ 53) : 2 ^ 52 ≤ signif a ∧ signif a < 2 ^ 53 := by
  have hl := log2_le52 a ha h
  have h1 := Nat.log2_self_le (n := a) (by omega)
  have h2 := Nat.lt_log2_self (n := a)
  unfold signif
  constructor
  · calc 2 ^ 52 = 2 ^ a.log2 * 2 ^ (52 - a.log2) := by rw [← Nat.pow_add]; congr 1; omega
      _ ≤ a * 2 ^ (52 - a.log2) := Nat.mul_le_mul_right _ h1
  · calc a * 2 ^ (52 - a.log2) < 2 ^ (a.log2 + 1) * 2 ^ (52 - a.log2) := Nat.mul_lt_mul_of_pos_right h2 (Nat.two_pow_pos _)
      _ = 2 ^ 53 := by rw [← Nat.pow_add]; congr 1; omega

/-- The rung of a * 2 ^ q. -/
def rungOf (a : Nat) (q : Int) : Nat := (q - (52 - a.log2 : Nat) + 1074).toNat * 2 ^ 52 + signif a

theorem nearest_norm (s : Bool) (a j : Nat) (q : Int) (ha : 0 < a) (h : a < 2 ^ 53) (hq0 : -1000 ≤ q) (hq1 : q ≤ 900) :
    Ieee.double.nearest s (a * 2 ^ j) (q - j) = Ieee.double.word s (rungOf a q) := by
  have hl := log2_le52 a ha h
  have hs := signif_in a ha h
  have hne : a * 2 ^ j ≠ 0 := by have := Nat.mul_pos ha (Nat.two_pow_pos j); omega
  have hlp : Ieee.double.leastPlace = -1074 := by decide
  have hfb : (Ieee.double.fractionBits : Int) = 52 := by decide
  have hbin : Ieee.double.binade = 2 ^ 52 := by decide
  have hinf : Ieee.double.infRung = 2047 * 2 ^ 52 := by decide
  unfold Format.nearest
  rw [if_neg hne]
  simp only [hlp, hfb, hbin, hinf, log2_scale a j ha]
  have hlast : max (q - (j : Int) + ((a.log2 + j : Nat) : Int) - 52) (-1074) = q - (52 - a.log2 : Nat) := by omega
  rw [hlast]
  have hkept : Toward.cut .even s ((a * 2 ^ j) <<< ((q - (j : Int)) - (q - (52 - a.log2 : Nat))).toNat) ((q - (52 - a.log2 : Nat)) - (q - (j : Int))).toNat = signif a := by
    by_cases hj : j ≤ 52 - a.log2
    · have e1 : ((q - (j : Int)) - (q - (52 - a.log2 : Nat))).toNat = 52 - a.log2 - j := by omega
      have e2 : ((q - (52 - a.log2 : Nat)) - (q - (j : Int))).toNat = 0 := by omega
      rw [e1, e2, Nat.shiftLeft_eq, Nat.mul_assoc, ← Nat.pow_add, show j + (52 - a.log2 - j) = 52 - a.log2 from by omega]
      have := cut_exact s (a * 2 ^ (52 - a.log2)) 0 .even
      rw [Nat.pow_zero, Nat.mul_one] at this
      exact this
    · have e1 : ((q - (j : Int)) - (q - (52 - a.log2 : Nat))).toNat = 0 := by omega
      have e2 : ((q - (52 - a.log2 : Nat)) - (q - (j : Int))).toNat = j - (52 - a.log2) := by omega
      rw [e1, e2, Nat.shiftLeft_eq, Nat.pow_zero, Nat.mul_one]
      have e3 : a * 2 ^ j = signif a * 2 ^ (j - (52 - a.log2)) := by
        unfold signif
        rw [Nat.mul_assoc, ← Nat.pow_add]
        congr 2
        omega
      rw [e3]
      exact cut_exact s _ _ .even
  rw [hkept]
  have hr : (q - (52 - a.log2 : Nat) - (-1074)).toNat * 2 ^ 52 + signif a = rungOf a q := by
    unfold rungOf
    rw [show q - ((52 - a.log2 : Nat) : Int) - (-1074) = q - ((52 - a.log2 : Nat) : Int) + 1074 from by omega]
  rw [hr]
  have hle : rungOf a q ≤ 2047 * 2 ^ 52 := by
    unfold rungOf
    have h1974 : (q - (52 - a.log2 : Nat) + 1074).toNat ≤ 1974 := by omega
    generalize (q - ((52 - a.log2 : Nat) : Int) + 1074).toNat = T at *
    have := hs.2
    omega
  rw [Nat.min_eq_left hle]

theorem read_word (s : Bool) (a : Nat) (q : Int) (ha : 0 < a) (h : a < 2 ^ 53) (hq0 : -1000 ≤ q) (hq1 : q ≤ 900) :
    Ieee.double.read (Ieee.double.word s (rungOf a q)) = .number s (signif a) (q - (52 - a.log2 : Nat)) := by
  have hl := log2_le52 a ha h
  have hs := signif_in a ha h
  have hlp : Ieee.double.leastPlace = -1074 := by decide
  have hbin : Ieee.double.binade = 2 ^ 52 := by decide
  have hinf : Ieee.double.infRung = 2047 * 2 ^ 52 := by decide
  have hsw : Ieee.double.signWeight = 2 ^ 63 := by decide
  have hT : (q - (52 - a.log2 : Nat) + 1074).toNat ≤ 1974 := by omega
  obtain ⟨T, hTe⟩ : ∃ T, T = (q - (52 - a.log2 : Nat) + 1074).toNat := ⟨_, rfl⟩
  have hr : rungOf a q = T * 2 ^ 52 + signif a := by unfold rungOf; rw [hTe]
  have hrlt : T * 2 ^ 52 + signif a < 2 ^ 63 := by
    rw [← hTe] at hT
    have := Nat.mul_le_mul_right (2 ^ 52) hT
    omega
  have hd : (T * 2 ^ 52 + signif a) / 2 ^ 52 = T + 1 := by
    rw [Nat.mul_comm, Nat.mul_add_div (by decide)]
    congr 1
    omega
  have hm : (T * 2 ^ 52 + signif a) % 2 ^ 52 = signif a - 2 ^ 52 := by
    rw [Nat.mul_comm, Nat.mul_add_mod]
    omega
  have hneg : ((Ieee.double.word s (rungOf a q)) / 2 ^ 63 % 2 == 1) = s := by
    unfold Format.word
    rw [hsw, hr]
    cases s
    · have : (T * 2 ^ 52 + signif a) / 2 ^ 63 = 0 := Nat.div_eq_of_lt hrlt
      simp [this]
    · have : (2 ^ 63 + (T * 2 ^ 52 + signif a)) / 2 ^ 63 = 1 := by omega
      simp [this]
  have hmod : (Ieee.double.word s (rungOf a q)) % 2 ^ 63 = T * 2 ^ 52 + signif a := by
    unfold Format.word
    rw [hsw, hr]
    cases s
    · exact Nat.mod_eq_of_lt hrlt
    · simp only [if_true]
      omega
  unfold Format.read
  dsimp only
  rw [hsw, hbin, hinf, hlp, hneg, hmod, hd, hm]
  rw [if_neg (by omega), if_pos (by rw [← hTe] at hT; have := Nat.mul_le_mul_right (2 ^ 52) hT; omega)]
  have e1 : 2 ^ 52 + (signif a - 2 ^ 52) = signif a := by omega
  have e2 : (-1074 : Int) + ((T + 1 - 1 : Nat) : Int) = q - (52 - a.log2 : Nat) := by omega
  rw [e1, e2]

theorem rep_nearest (s : Bool) (a j : Nat) (q : Int) (h : a < 2 ^ 53) (hq0 : -1000 ≤ q) (hq1 : q ≤ 900) : Rep (Ieee.double.nearest s (a * 2 ^ j) (q - j)) s a q := by
  rcases Nat.eq_zero_or_pos a with rfl | ha
  · refine ⟨(q + 1074).toNat, ?_⟩
    have e : q - ((q + 1074).toNat : Int) = -1074 := by omega
    rw [e, Nat.zero_mul, Nat.zero_mul]
    have e2 : Ieee.double.nearest s 0 (q - j) = Ieee.double.word s 0 := by
      unfold Format.nearest
      rw [if_pos rfl]
    rw [e2]
    cases s <;> decide
  · exact ⟨52 - a.log2, by rw [nearest_norm s a j q ha h hq0 hq1, read_word s a q ha h hq0 hq1]; rfl⟩

theorem nearest_scale (s : Bool) (a j : Nat) (q : Int) (h : a < 2 ^ 53) (hq0 : -1000 ≤ q) (hq1 : q ≤ 900) : Ieee.double.nearest s (a * 2 ^ j) (q - j) = Ieee.double.nearest s a q := by
  rcases Nat.eq_zero_or_pos a with rfl | ha
  · unfold Format.nearest
    rw [if_pos (by simp), if_pos rfl]
  · have h0 := nearest_norm s a 0 q ha h hq0 hq1
    rw [Nat.pow_zero, Nat.mul_one, show q - ((0 : Nat) : Int) = q from by omega] at h0
    rw [nearest_norm s a j q ha h hq0 hq1, h0]

theorem rep_near (s : Bool) (a : Nat) (q : Int) (h : a < 2 ^ 53) (hq0 : -1000 ≤ q) (hq1 : q ≤ 900) : Rep (Ieee.double.nearest s a q) s a q := by
  rw [← nearest_scale s a 0 q h hq0 hq1]
  exact rep_nearest s a 0 q h hq0 hq1

/-- The signed number of a sign and a magnitude. -/
def sv (s : Bool) (a : Nat) : Int := if s then -(a : Int) else a
theorem sv_natAbs (s : Bool) (a : Nat) : (sv s a).natAbs = a := by unfold sv; split <;> omega

theorem mul_rep {x y : Nat} {s t : Bool} {a b : Nat} {p q : Int} (hx : Rep x s a p) (hy : Rep y t b q) (hab : a * b < 2 ^ 53) (h0 : -1000 ≤ p + q) (h1 : p + q ≤ 900) :
    Ieee.double.mul x y = some (Ieee.double.nearest (s ^^ t) (a * b) (p + q)) := by
  obtain ⟨k, hk⟩ := hx
  obtain ⟨l, hl⟩ := hy
  unfold Format.mul
  rw [hk, hl]
  simp only [Datum.product, Option.map_some, Format.write]
  have e1 : a * 2 ^ k * (b * 2 ^ l) = a * b * 2 ^ (k + l) := by rw [Nat.pow_add, Nat.mul_mul_mul_comm]
  have e2 : p - (k : Int) + (q - (l : Int)) = p + q - ((k + l : Nat) : Int) := by omega
  rw [e1, e2, nearest_scale _ _ _ _ hab h0 h1]

theorem signed_scale (s : Bool) (a k m : Nat) (h : k ≤ m) : signed s (a * 2 ^ k) (m - k) = sv s a * (2 ^ m : Nat) := by
  unfold signed sv
  have e : (a * 2 ^ k) <<< (m - k) = a * 2 ^ m := by
    rw [Nat.shiftLeft_eq, Nat.mul_assoc, ← Nat.pow_add]
    congr 2
    omega
  rw [e]
  cases s
  · simp
  · simp [Int.neg_mul]

theorem sum_eq (s t : Bool) (a b k l : Nat) (q : Int) : Datum.sum (.number s (a * 2 ^ k) (q - k)) (.number t (b * 2 ^ l) (q - l)) =
    some (.number (if sv s a + sv t b = 0 then s && t else decide (sv s a + sv t b < 0)) ((sv s a + sv t b).natAbs * 2 ^ max k l) (q - (max k l : Nat))) := by
  have hp : 0 < 2 ^ max k l := Nat.two_pow_pos _
  have hmin : min (q - (k : Int)) (q - (l : Int)) = q - (max k l : Nat) := by omega
  have e1 : ((q - (k : Int)) - (q - (max k l : Nat))).toNat = max k l - k := by omega
  have e2 : ((q - (l : Int)) - (q - (max k l : Nat))).toNat = max k l - l := by omega
  simp only [Datum.sum, hmin, e1, e2]
  rw [signed_scale s a k _ (by omega), signed_scale t b l _ (by omega), ← Int.add_mul]
  have e3 : ((sv s a + sv t b) * ((2 ^ max k l : Nat) : Int)).natAbs = (sv s a + sv t b).natAbs * 2 ^ max k l := by
    rw [Int.natAbs_mul]; simp
  have e4 : ((sv s a + sv t b) * ((2 ^ max k l : Nat) : Int) = 0) = (sv s a + sv t b = 0) := by
    rw [eq_iff_iff, Int.mul_eq_zero]
    constructor
    · rintro (h | h)
      · exact h
      · omega
    · exact .inl
  have e5 : decide ((sv s a + sv t b) * ((2 ^ max k l : Nat) : Int) < 0) = decide (sv s a + sv t b < 0) := by
    rw [decide_eq_decide]
    constructor
    · intro h
      by_cases h' : sv s a + sv t b < 0
      · exact h'
      · exact absurd h (Int.not_lt.2 (Int.mul_nonneg (by omega) (by omega)))
    · intro h
      exact Int.mul_neg_of_neg_of_pos h (by omega)
  rw [e3]
  simp only [e4, e5]

theorem add_rep {x y : Nat} {s t : Bool} {a b : Nat} {q : Int} (hx : Rep x s a q) (hy : Rep y t b q) (hab : (sv s a + sv t b).natAbs < 2 ^ 53) (h0 : -1000 ≤ q) (h1 : q ≤ 900) :
    Ieee.double.add x y = some (Ieee.double.nearest (if sv s a + sv t b = 0 then s && t else decide (sv s a + sv t b < 0)) (sv s a + sv t b).natAbs q) := by
  obtain ⟨k, hk⟩ := hx
  obtain ⟨l, hl⟩ := hy
  unfold Format.add
  rw [hk, hl, sum_eq]
  simp only [Option.map_some, Format.write]
  rw [nearest_scale _ _ _ _ hab h0 h1]

theorem sub_rep {x y : Nat} {s t : Bool} {a b : Nat} {q : Int} (hx : Rep x s a q) (hy : Rep y t b q) (hab : (sv s a + sv (!t) b).natAbs < 2 ^ 53) (h0 : -1000 ≤ q) (h1 : q ≤ 900) :
    Ieee.double.sub x y = some (Ieee.double.nearest (if sv s a + sv (!t) b = 0 then s && !t else decide (sv s a + sv (!t) b < 0)) (sv s a + sv (!t) b).natAbs q) := by
  obtain ⟨k, hk⟩ := hx
  obtain ⟨l, hl⟩ := hy
  unfold Format.sub
  rw [hk, hl]
  simp only [Datum.opposite]
  rw [sum_eq]
  simp only [Option.map_some, Format.write]
  rw [nearest_scale _ _ _ _ hab h0 h1]

theorem order_rep {x y : Nat} {s t : Bool} {a b : Nat} {q : Int} (hx : Rep x s a q) (hy : Rep y t b q) : Ieee.double.order x y = some (compare (sv s a) (sv t b)) := by
  obtain ⟨k, hk⟩ := hx
  obtain ⟨l, hl⟩ := hy
  have hp : 0 < ((2 ^ max k l : Nat) : Int) := by have := Nat.two_pow_pos (max k l); omega
  have hmin : min (q - (k : Int)) (q - (l : Int)) = q - (max k l : Nat) := by omega
  have e1 : ((q - (k : Int)) - (q - (max k l : Nat))).toNat = max k l - k := by omega
  have e2 : ((q - (l : Int)) - (q - (max k l : Nat))).toNat = max k l - l := by omega
  unfold Format.order
  rw [hk, hl]
  simp only [Datum.order, hmin, e1, e2]
  rw [signed_scale s a k _ (by omega), signed_scale t b l _ (by omega)]
  congr 1
  simp only [compare, compareOfLessAndEq]
  have c1 : (sv s a * ((2 ^ max k l : Nat) : Int) < sv t b * ((2 ^ max k l : Nat) : Int)) = (sv s a < sv t b) := by
    rw [eq_iff_iff]
    exact ⟨fun h => Int.lt_of_mul_lt_mul_right h (by omega), fun h => Int.mul_lt_mul_of_pos_right h hp⟩
  have c2 : (sv s a * ((2 ^ max k l : Nat) : Int) = sv t b * ((2 ^ max k l : Nat) : Int)) = (sv s a = sv t b) := by
    rw [eq_iff_iff]
    exact ⟨fun h => Int.eq_of_mul_eq_mul_right (by omega) h, fun h => by rw [h]⟩
  simp only [c1, c2]

/-! ### Whole numbers -/
/-- The double whose bits are b is the whole number n (either nought is 0). -/
def IsI (b : Nat) (n : Int) : Prop := ∃ s a, Rep b s a 0 ∧ sv s a = n

theorem isI_near (s : Bool) (a : Nat) (h : a < 2 ^ 53) : IsI (Ieee.double.nearest s a 0) (sv s a) := ⟨s, a, rep_near s a 0 h (by omega) (by omega), rfl⟩

theorem sv_dec (n : Int) : sv (decide (n < 0)) n.natAbs = n := by
  unfold sv
  by_cases h : n < 0 <;> simp [h] <;> omega

theorem sv_if {n : Int} {u : Bool} : sv (if n = 0 then u else decide (n < 0)) n.natAbs = n := by
  by_cases h : n = 0
  · subst h; cases u <;> simp [sv]
  · rw [if_neg h, sv_dec]

theorem sv_mul (s t : Bool) (a b : Nat) : sv (s ^^ t) (a * b) = sv s a * sv t b := by
  cases s <;> cases t <;> simp [sv, Int.neg_mul, Int.mul_neg]

theorem isI_mul {x y : Nat} {m n : Int} (hx : IsI x m) (hy : IsI y n) (h : (m * n).natAbs < 9007199254740992) : ∃ r, floatBits .mul .f64 x y = some r ∧ IsI r (m * n) := by
  obtain ⟨s, a, ha, rfl⟩ := hx
  obtain ⟨t, b, hb, rfl⟩ := hy
  have hab : a * b < 2 ^ 53 := by rw [Int.natAbs_mul, sv_natAbs, sv_natAbs] at h; simpa using h
  refine ⟨_, mul_rep ha hb hab (by omega) (by omega), ?_⟩
  rw [← sv_mul]
  exact isI_near _ _ hab

theorem isI_add {x y : Nat} {m n : Int} (hx : IsI x m) (hy : IsI y n) (h : (m + n).natAbs < 9007199254740992) : ∃ r, floatBits .add .f64 x y = some r ∧ IsI r (m + n) := by
  obtain ⟨s, a, ha, rfl⟩ := hx
  obtain ⟨t, b, hb, rfl⟩ := hy
  refine ⟨_, add_rep ha hb (by simpa using h) (by omega) (by omega), _, _, rep_near _ _ 0 (by simpa using h) (by omega) (by omega), sv_if⟩

theorem sv_not (t : Bool) (b : Nat) : sv (!t) b = -sv t b := by cases t <;> simp [sv]

theorem isI_sub {x y : Nat} {m n : Int} (hx : IsI x m) (hy : IsI y n) (h : (m - n).natAbs < 9007199254740992) : ∃ r, floatBits .sub .f64 x y = some r ∧ IsI r (m - n) := by
  obtain ⟨s, a, ha, rfl⟩ := hx
  obtain ⟨t, b, hb, rfl⟩ := hy
  have e : sv s a - sv t b = sv s a + sv (!t) b := by rw [sv_not]; omega
  rw [e] at h ⊢
  refine ⟨_, sub_rep ha hb (by simpa using h) (by omega) (by omega), _, _, rep_near _ _ 0 (by simpa using h) (by omega) (by omega), sv_if⟩

theorem isI_of (n : Int) (h : n.natAbs < 9007199254740992) : IsI (floatOfInt .f64 n) n :=
  ⟨decide (n < 0), n.natAbs, rep_near _ _ 0 (by simpa using h) (by omega) (by omega), sv_dec n⟩

theorem isI_order {x y : Nat} {m n : Int} (hx : IsI x m) (hy : IsI y n) : FloatKind.f64.format.order x y = some (compare m n) := by
  obtain ⟨s, a, ha, rfl⟩ := hx
  obtain ⟨t, b, hb, rfl⟩ := hy
  exact order_rep ha hb

theorem isI_toInt {x : Nat} {n : Int} (hx : IsI x n) (h0 : -9223372036854775808 ≤ n) (h1 : n ≤ 9223372036854775807) : floatToIntVal .f64 x .i64 = some n := by
  obtain ⟨s, a, ⟨k, hk⟩, rfl⟩ := hx
  have e : (FloatKind.f64.decode x).toInt .zero = some (sv s a) := by
    show (Ieee.double.read x).toInt .zero = _
    rw [hk]
    unfold Datum.toInt Datum.integral
    have e1 : (0 - (k : Int)).toNat = 0 := by omega
    have e2 : (-(0 - (k : Int))).toNat = k := by omega
    simp only [e1, e2, Nat.shiftLeft_eq, Nat.pow_zero, Nat.mul_one, cut_exact]
    unfold signed sv
    simp
  unfold floatToIntVal
  rw [e]
  simp [IntKind.min, IntKind.max, IntKind.signed, IntKind.bits, h0, h1]

theorem negFloat_lt {x : Nat} (h : x < 18446744073709551616) : Op.negFloat .f64 x < 18446744073709551616 := by
  unfold Op.negFloat
  exact Nat.xor_lt_two_pow (n := 64) (by omega) (by decide)

theorem rep_neg {x : Nat} {s : Bool} {a : Nat} {q : Int} (h : Rep x s a q) (hx : x < 18446744073709551616) : Rep (Op.negFloat .f64 x) (!s) a q := by
  obtain ⟨k, hk⟩ := h
  refine ⟨k, ?_⟩
  have e0 : Op.negFloat .f64 x = x ^^^ 2 ^ 63 := rfl
  have hsw : Ieee.double.signWeight = 2 ^ 63 := by decide
  have hm : (x ^^^ 2 ^ 63) % 2 ^ 63 = x % 2 ^ 63 := by
    rw [Nat.xor_mod_two_pow, Nat.mod_self, Nat.xor_zero]
  have hd : ((x ^^^ 2 ^ 63) / 2 ^ 63 % 2 == 1) = !(x / 2 ^ 63 % 2 == 1) := by
    rw [Nat.xor_div_two_pow, Nat.div_self (by decide)]
    have : x / 2 ^ 63 = 0 ∨ x / 2 ^ 63 = 1 := by omega
    rcases this with e | e <;> rw [e] <;> decide
  rw [e0]
  unfold Format.read at hk ⊢
  dsimp only at hk ⊢
  rw [hsw] at hk ⊢
  rw [hm, hd]
  split at hk
  · rename_i h1; rw [if_pos h1]; injection hk with i1 i2 i3; rw [i1, i2, i3]
  · rename_i h1
    rw [if_neg h1]
    split at hk
    · rename_i h2; rw [if_pos h2]; injection hk with i1 i2 i3; rw [i1, i2, i3]
    · split at hk <;> cases hk

theorem isI_neg {x : Nat} {n : Int} (h : IsI x n) (hx : x < 18446744073709551616) : IsI (Op.negFloat .f64 x) (-n) := by
  obtain ⟨s, a, ha, rfl⟩ := h
  exact ⟨!s, a, rep_neg ha hx, sv_not s a⟩

theorem floatBits_lt {op : BinOp} {x y r : Nat} (h : floatBits op .f64 x y = some r) : r < 18446744073709551616 := by
  have := floatBits_wf h
  simpa [Lit.wf] using this
theorem floatOfInt_lt (n : Int) : floatOfInt .f64 n < 18446744073709551616 := by
  have := floatOfInt_wf .f64 n
  simpa [Lit.wf] using this

end Go.Proofs.Ytpllolefmijfdaa
