/-
  Chapter 19: strconv.ParseUint at base 16, strconv.Atoi; the numbers read back.
-/
import Derived.Test.YtelkimgcbkmdmaaDoorOm
import Derived.Lib.AtoiAllCases
namespace Go.Proofs.YtelkimgcbkmdmaaDoor
open Go.RowKit

theorem dec_code (d : Nat) (h : d < 10) : (UInt8.ofNat (48 + d)).toNat = 48 + d := by simp; omega
theorem parse_append (l r : List UInt8) : ∀ acc v, Lib.parseUint10 acc l = .ok v → Lib.parseUint10 acc (l ++ r) = Lib.parseUint10 v r := by
  induction l with
  | nil => intro acc v h; simp only [Lib.parseUint10] at h; injection h with h; rw [h]; rfl
  | cons c l ih =>
    intro acc v h
    simp only [Lib.parseUint10, List.cons_append] at h ⊢
    split at h
    · rename_i h1
      rw [if_pos h1]
      split at h
      · cases h
      · rename_i h2
        rw [if_neg h2]
        split at h
        · cases h
        · rename_i h3
          rw [if_neg h3]
          exact ih _ _ h
    · cases h
theorem parse_dec (u : Nat) (h : u < 18446744073709551616) : Lib.parseUint10 0 (Lib.decDigits u) = .ok u := by
  induction u using Nat.strongRecOn with
  | ind u ih =>
    by_cases hu : u < 10
    · rw [Lib.decDigits, dif_pos hu]
      simp only [Lib.parseUint10, dec_code u hu]
      rw [if_pos (by omega), if_neg (by omega), if_neg (by omega)]
      congr 1; omega
    · rw [Lib.decDigits, dif_neg hu, parse_append _ _ _ _ (ih (u / 10) (by omega) (by omega))]
      simp only [Lib.parseUint10, dec_code (u % 10) (by omega)]
      rw [if_pos (by omega), if_neg (by omega), if_neg (by omega)]
      congr 1; omega
theorem dec_head (u : Nat) : ∃ c r, Lib.decDigits u = c :: r ∧ 48 ≤ c.toNat ∧ c.toNat ≤ 57 := by
  induction u using Nat.strongRecOn with
  | ind u ih =>
    by_cases hu : u < 10
    · rw [Lib.decDigits, dif_pos hu]
      exact ⟨_, _, rfl, by rw [dec_code u hu]; omega, by rw [dec_code u hu]; omega⟩
    · obtain ⟨c, r, h1, h2, h3⟩ := ih (u / 10) (by omega)
      rw [Lib.decDigits, dif_neg hu, h1]
      exact ⟨c, _, rfl, h2, h3⟩
theorem mag_dec (u : Nat) (h : u < 18446744073709551616) : Lib.parseMag (Lib.decDigits u) = .ok u := by
  obtain ⟨c, r, h1, -, -⟩ := dec_head u
  rw [Lib.parseMag, if_neg (by rw [h1]; simp), parse_dec u h]
theorem atoi_itoa (x : Int) (h0 : -9223372036854775808 ≤ x) (h1 : x ≤ 9223372036854775807) : Lib.atoiAll (Lib.itoa x) = .ok x := by
  unfold Lib.itoa
  split
  · show Lib.atoiAll (45 :: Lib.decDigits x.natAbs) = .ok x
    rw [Lib.atoiAll_minus, mag_dec _ (by omega)]
    simp only [Lib.signed]
    rw [if_neg (by omega)]
    congr 1; omega
  · obtain ⟨c, r, h2, h3, h4⟩ := dec_head x.toNat
    have hm := mag_dec x.toNat (by omega)
    rw [h2] at hm ⊢
    rw [Lib.atoiAll_plain c r (by omega) (by omega), hm]
    simp only [Lib.signless]
    rw [if_neg (by omega)]
    congr 1; omega
theorem atoi_range (l : List UInt8) (v : Int) (h : Lib.atoiAll l = .ok v) : -9223372036854775808 ≤ v ∧ v ≤ 9223372036854775807 := by
  unfold Lib.atoiAll at h
  split at h
  · cases h
  · simp only at h
    split at h
    · cases h
    · cases h
    · split at h
      · cases h
      · split at h
        · cases h
        · injection h with h
          subst h
          split <;> omega
theorem atoi_any (l : List UInt8) (w : World) (hl : l.length ≤ 1000) (he : Env w) : Calls Tryd.prog 12 #[.string (str l)] w fun e w' => ∃ (v : Int) (er : Value), e = .returned (.tuple #[.int .i64 v, er]) ∧ (-9223372036854775808 ≤ v ∧ v ≤ 9223372036854775807) ∧ (∀ x : Int, -9223372036854775808 ≤ x → x ≤ 9223372036854775807 → l = Lib.itoa x → v = x) ∧ Pure w w' := by
  have hsz := str_size l
  have hdl : (str l).data.toList = l := by simp [str]
  have hcan : ∀ x : Int, -9223372036854775808 ≤ x → x ≤ 9223372036854775807 → l = Lib.itoa x → Lib.atoiAll (str l).data.toList = .ok x := fun x h0 h1 h => by rw [hdl, h]; exact atoi_itoa x h0 h1
  obtain ⟨t1, p1, hs⟩ := he.syn
  obtain ⟨t2, p2, hr⟩ := he.rng
  rcases ha : Lib.atoiAll (str l).data.toList with v | _ | _
  ·
    refine (Tryd.strconv_Atoi_ok (str l) (by omega) v ha w).mono ?_
    rintro e w' ⟨rfl, hw⟩
    refine ⟨v, _, rfl, atoi_range _ v ha, fun x h0 h1 h => ?_, ?_⟩
    · have := (hcan x h0 h1 h).symm.trans ha
      injection this with h; exact h.symm
    · rcases hw with rfl | ⟨t, rfl⟩
      · exact Only.refl _ _
      · exact Only.of_below (bytes_below w _ t) _
  ·
    refine (Tryd.strconv_Atoi_syntax_var (str l) (by omega) (ha.trans rfl) t1 p1 w hs).mono ?_
    rintro e w' ⟨N, rfl, -, -, hb⟩
    exact ⟨0, _, rfl, by omega, fun x h0 h1 h => (by have := (hcan x h0 h1 h).symm.trans ha; cases this), Only.of_below hb _⟩
  ·
    refine (Tryd.strconv_Atoi_range_var (str l) (by omega) ha t2 p2 w hr).mono ?_
    rintro e w' ⟨N, rfl, -, -, hb⟩
    refine ⟨_, _, rfl, ?_, fun x h0 h1 h => (by have := (hcan x h0 h1 h).symm.trans ha; cases this), Only.of_below hb _⟩
    unfold Lib.atoiSat
    split <;> omega

theorem uint_any (l : List UInt8) (w : World) (hl : l.length ≤ 1000) (he : Env w) : Calls Tryd.prog 14 #[.string (str l), .int .i64 16, .int .i64 64] w fun e w' => ∃ (u : Nat) (er : Value), e = .returned (.tuple #[.int .u64 u, er]) ∧ u < 18446744073709551616 ∧ (∀ x : Nat, x < 18446744073709551616 → l = hexL x → u = x) ∧ Pure w w' := by
  have hsz := str_size l
  have HE := Lib.hid he
  clear he
  go_enter Tryd.func14, Tryd.ntmps14
  go_wp2_with fail
  refine (uint_in l w hl).mono ?_
  rintro e w1 ⟨u, er, rfl, hu, her, hx, hp⟩
  have HX := Lib.hid hx
  obtain ⟨h0, h1⟩ := hu
  have HP := Lib.hid hp
  clear hx hp
  have fin : ∀ (er : Value) (w' : World), Pure w1 w' → ∃ (v : Nat) (er' : Value), (Ending.returned (.tuple #[.int .u64 u, er]) : Ending) = .returned (.tuple #[.int .u64 (v : Int), er']) ∧ v < 18446744073709551616 ∧ (∀ x : Nat, x < 18446744073709551616 → l = hexL x → v = x) ∧ Pure w w' := fun er w' hp => by
    have hu : u = (u.toNat : Int) := by omega
    refine ⟨u.toNat, er, by rw [← hu], by omega, fun x hx he => ?_, HP.out.then hp⟩
    have := HX.out x hx he
    omega
  have FIN := Lib.hid fin
  clear fin
  rcases her with rfl | rfl | rfl
  · go_wp2_with fail
    go_ret2
    exact FIN.out _ _ (Only.refl _ _)
  · obtain ⟨t, p, hv⟩ := (HE.out.pure HP.out).rng
    have hc := cell_of_var (g := 2) (by kernel_rfl) hv
    go_wp2_with fail
    refine (Tryd.strconv_toError_range _ (str l) 16 64 _ w1 (by omega) hc (.inr ⟨t, p, rfl⟩)).mono ?_
    rintro e w2 ⟨N, rfl, -, -, hb⟩
    have HB := Lib.hid hb
    clear hb
    go_wp2_with fail
    go_ret2
    exact FIN.out _ _ (Only.of_below HB.out _)
  · obtain ⟨t, p, hv⟩ := (HE.out.pure HP.out).syn
    have hc := cell_of_var (g := 1) (by kernel_rfl) hv
    go_wp2_with fail
    refine (Tryd.strconv_toError_syntax _ (str l) 16 64 _ w1 (by omega) hc (.inr ⟨t, p, rfl⟩)).mono ?_
    rintro e w2 ⟨N, rfl, -, -, hb⟩
    have HB := Lib.hid hb
    clear hb
    go_wp2_with fail
    go_ret2
    exact FIN.out _ _ (Only.of_below HB.out _)

/-- The reference's number at a numeral. -/
theorem numGo_append (l r : List UInt8) : ∀ n cnt, numGo n cnt (l ++ r) = (numGo n cnt l).bind fun m => numGo m (cnt + l.length) r := by
  induction l with
  | nil => intro n cnt; rfl
  | cons c l ih =>
    intro n cnt
    simp only [List.cons_append, numGo, List.length_cons]
    split
    · rfl
    · split
      · rfl
      · rw [ih]; simp [Nat.add_assoc, Nat.add_comm 1]
theorem numGo_dec (u : Nat) (h : u ≤ 9223372036854775808) : numGo 0 0 (Lib.decDigits u) = some (-(u : Int)) := by
  induction u using Nat.strongRecOn with
  | ind u ih =>
    by_cases hu : u < 10
    · rw [Lib.decDigits, dif_pos hu]
      simp only [numGo, dec_code u hu]
      rw [if_neg (by omega)]
      have hm : wrap64 (wrap64 (10 * 0) - (((48 + u : Nat) : Int) - 48)) = -(u : Int) := by unfold wrap64; omega
      rw [hm, if_neg (by omega)]
    · have hln := decDigits_short 17 (u / 10) (by omega)
      rw [Lib.decDigits, dif_neg hu, numGo_append, ih (u / 10) (by omega) (by omega)]
      simp only [Option.bind_some, numGo, dec_code (u % 10) (by omega)]
      rw [if_neg (by omega)]
      have hm : wrap64 (wrap64 (10 * -((u / 10 : Nat) : Int)) - (((48 + u % 10 : Nat) : Int) - 48)) = -(u : Int) := by unfold wrap64; omega
      rw [hm, if_neg (by omega)]
theorem numR_itoa (x : Int) (h0 : -9223372036854775808 ≤ x) (h1 : x ≤ 9223372036854775807) : numR (Lib.itoa x) = (x, true) := by
  by_cases hn : x < 0
  · have he : Lib.itoa x = 45 :: Lib.decDigits x.natAbs := by unfold Lib.itoa; rw [if_pos hn]
    unfold numR
    rw [if_pos (by rw [he]; rfl), show (Lib.itoa x).tail = Lib.decDigits x.natAbs from by rw [he]; rfl, numGo_dec _ (by omega)]
    have hx : -((x.natAbs : Nat) : Int) = x := by omega
    simp only [hx, decide_true]
  · have he : Lib.itoa x = Lib.decDigits x.toNat := by unfold Lib.itoa; rw [if_neg hn]
    obtain ⟨c, r, h2, h3, h4⟩ := dec_head x.toNat
    have hne : ¬ (Lib.itoa x).head? = some 45 := by
      rw [he, h2]
      intro hc
      simp at hc
      subst hc
      exact absurd h3 (by decide)
    unfold numR
    rw [if_neg hne]
    rw [show numGo 0 0 (Lib.itoa x) = some (-((x.toNat : Nat) : Int)) from he ▸ numGo_dec _ (by omega)]
    have hx : - -((x.toNat : Nat) : Int) = x := by omega
    simp only
    rw [if_neg (by omega), hx]
    simp

end Go.Proofs.YtelkimgcbkmdmaaDoor
