/-
  Chapter 19: ParseUint at base 16 and 64 bits; Atoi.
-/
import Derived.Test.YtelkimgcbkmdmaaDoorOl
import Derived.Lib.ConvBytes
namespace Go.Proofs.YtelkimgcbkmdmaaDoor
open Go.RowKit

theorem bytes_below (w : World) (e : TypeId) (s : ByteArray) : Below w.heap.size w (Lib.bytesWorld w e s) :=
  ⟨rfl, rfl, rfl, by rw [Lib.bytesWorld_size]; omega, fun j hj => Lib.bytesWorld_at_old w e s j hj⟩
theorem cell_of_var {w : World} {n : String} {g : Nat} {v : Value} (hg : Tryd.prog.globalNamed n = some g) (h : w.var? Tryd.prog n = some #[v]) : w.cell? ⟨g, 0, none⟩ = some v := by
  unfold World.var? at h
  rw [hg] at h
  simp only [Option.bind_some] at h
  unfold World.cell?
  cases hb : w.heap[g]? with
  | none => rw [hb] at h; cases h
  | some o =>
    rw [hb] at h
    cases o with
    | cells cs e fz => simp at h; subst h; simp
    | _ => cases h

theorem hd_code (d : Nat) (h : d < 16) : (hd d).toNat = if d < 10 then 48 + d else 87 + d := by
  rcases (by omega : d = 0 ∨ d = 1 ∨ d = 2 ∨ d = 3 ∨ d = 4 ∨ d = 5 ∨ d = 6 ∨ d = 7 ∨ d = 8 ∨ d = 9 ∨ d = 10 ∨ d = 11 ∨ d = 12 ∨ d = 13 ∨ d = 14 ∨ d = 15) with rfl | rfl | rfl | rfl | rfl | rfl | rfl | rfl | rfl | rfl | rfl | rfl | rfl | rfl | rfl | rfl <;> rfl
theorem hexL_get (x k : Nat) (hk : k < 16) : (hexL x)[k]? = some (hd (x / 2 ^ (60 - 4 * k) % 16)) := by
  simp [hexL, hk]
theorem hex_step (x k : Nat) (hk : k < 16) : x / 2 ^ (60 - 4 * k) = x / 2 ^ (64 - 4 * k) * 16 + x / 2 ^ (60 - 4 * k) % 16 := by
  have h : x / 2 ^ (64 - 4 * k) = x / 2 ^ (60 - 4 * k) / 16 := by
    rw [Nat.div_div_eq_div_mul, show 64 - 4 * k = (60 - 4 * k) + 4 from by omega, Nat.pow_add]
  rw [h]; omega
theorem hex_small (x k : Nat) (hx : x < 18446744073709551616) (hk : k < 16) : x / 2 ^ (64 - 4 * k) < 1152921504606846976 := by
  have : 2 ^ 4 ≤ 2 ^ (64 - 4 * k) := Nat.pow_le_pow_right (by omega) (by omega)
  rw [Nat.div_lt_iff_lt_mul (by omega)]
  omega
theorem low_hex (c : Nat) (h0 : 97 ≤ c) (h1 : c ≤ 102) : bits .or .u8 (c : Int) 32 = (c : Int) := by
  rcases (by omega : c = 97 ∨ c = 98 ∨ c = 99 ∨ c = 100 ∨ c = 101 ∨ c = 102) with rfl | rfl | rfl | rfl | rfl | rfl <;> decide
theorem low_range (c : Nat) (h : c < 256) : 0 ≤ bits .or .u8 (c : Int) 32 ∧ bits .or .u8 (c : Int) 32 ≤ 255 := by
  have : ∀ c : Nat, c < 256 → 0 ≤ bits .or .u8 (c : Int) 32 ∧ bits .or .u8 (c : Int) 32 ≤ 255 := by decide +kernel
  exact this c h
theorem lower_run (c : Int) (w : World) : Calls Tryd.prog 49 #[.int .u8 c] w fun e w' => e = .returned (.int .u8 (bits .or .u8 c 32)) ∧ w = w' := (Tryd.internal_strconv_lower c w).mono fun _ _ ⟨a, b⟩ => ⟨a, b.symm⟩

set_option maxRecDepth 100000 in
set_option maxHeartbeats 4000000 in
theorem uint_in (l : List UInt8) (w : World) (hl : l.length ≤ 1000) : Calls Tryd.prog 28 #[.string (str l), .int .i64 16, .int .i64 64] w fun e w' => ∃ (u : Int) (er : Value), e = .returned (.tuple #[.int .u64 u, er]) ∧ (0 ≤ u ∧ u < 18446744073709551616) ∧ (er = .nilIface ∨ er = .iface 76 (.int .i64 1) ∨ er = .iface 76 (.int .i64 2)) ∧ (∀ x : Nat, x < 18446744073709551616 → l = hexL x → u = (x : Int)) ∧ Pure w w' := by
  have hsz := str_size l
  by_cases h0 : l = []
  · subst h0
    refine (Tryd.internal_strconv_ParseUint_empty 16 64 w).mono ?_
    rintro e w' ⟨rfl, rfl⟩
    exact ⟨0, _, rfl, by omega, .inr (.inr rfl), fun x _ he => by have := congrArg List.length he; simp [hexL_len] at this, Only.refl _ _⟩
  have hne : (str l).size ≠ 0 := by rw [hsz]; exact fun e => h0 (List.length_eq_zero_iff.1 e)
  have hemp : (str l).toList.isEmpty = false := by
    rw [str_toList]; cases l with
    | nil => exact absurd rfl h0
    | cons a b => rfl
  have hcv := Lib.run_convert_string_bytes (P := Tryd.prog) w 9 69 5 (str l) (u := .string) Tryd.underlying9 Tryd.underlying69 Tryd.underlying5
  have hB : ∀ j, j < (str l).size → (Lib.bytesWorld w 5 (str l)).cell? ⟨w.heap.size, j, none⟩ = some (.int .u8 (l.getD j 0).toNat) := fun j hj => Lib.bytesWorld_cell w 5 (str l) j hj
  have HP := Lib.hid (Only.of_below (bytes_below w 5 (str l)) (fun _ => False) : Pure w _)
  obtain ⟨W1, hW1⟩ : ∃ W1, W1 = Lib.bytesWorld w 5 (str l) := ⟨_, rfl⟩
  rw [← hW1] at hcv hB HP
  clear hW1
  rw [hsz] at hB
  have hmv : IntKind.u64.wrap (IntKind.u64.wrap 18446744073709551616 - 1) = 18446744073709551615 := by
    rw [IntKind.wrap_u64, IntKind.wrap_u64]
    decide
  go_enter Tryd.func28, Tryd.ntmps28
  go_wp2_with fail
  go_loop [12, 13, 101] (fun vu vn vi => ∃ (k : Nat) (a : Int), vu = .bool false ∧ vn = .int .u64 a ∧ vi = .int .i64 k ∧ k ≤ l.length ∧ Hid (0 ≤ a ∧ a < 18446744073709551616 ∧ ∀ x : Nat, x < 18446744073709551616 → l = hexL x → a = ((x / 2 ^ (64 - 4 * k) : Nat) : Int)))
    (fun _ _ vi => l.length - (intOf vi).toNat)
  case atStart => exact ⟨0, 0, rfl, rfl, rfl, by omega, by omega, by omega, fun x hx _ => by rw [Nat.div_eq_of_lt (by omega)]; rfl⟩
  case round =>
    obtain ⟨k, a, rfl, rfl, rfl, hk, hh⟩ := hrel
    have HH := Lib.hid hh.out
    obtain ⟨a0, a1, -⟩ := hh.out
    clear hh
    by_cases hlt : k < l.length
    · have hc := hB k hlt
      obtain ⟨c, hb⟩ : ∃ c, l[k]? = some c := ⟨_, List.getElem?_eq_getElem hlt⟩
      have hget : l.getD k 0 = c := by simp [List.getD, hb]
      rw [hget] at hc
      have HC : Hid (∀ x : Nat, x < 18446744073709551616 → l = hexL x → k < 16 ∧ c = hd (x / 2 ^ (60 - 4 * k) % 16)) := Lib.hid fun x _ he => by
        have hk16 : k < 16 := by rw [he, hexL_len] at hlt; exact hlt
        refine ⟨hk16, ?_⟩
        rw [he, hexL_get x k hk16] at hb
        exact (Option.some.inj hb).symm
      have HCN : Hid (∀ x : Nat, x < 18446744073709551616 → l = hexL x → ∃ d, d < 16 ∧ d = x / 2 ^ (60 - 4 * k) % 16 ∧ k < 16 ∧ c.toNat = if d < 10 then 48 + d else 87 + d) := Lib.hid fun x hx he => by
        obtain ⟨h1, h2⟩ := HC.out x hx he
        exact ⟨x / 2 ^ (60 - 4 * k) % 16, by omega, rfl, h1, by rw [h2]; exact hd_code _ (by omega)⟩
      have hc256 : c.toNat < 256 := c.toNat_lt
      clear hB hget HC hb
      generalize c.toNat = cn at *
      obtain ⟨m0, m1⟩ := low_range cn hc256
      have HM := Lib.hid (low_hex cn)
      by_cases hdig : 48 ≤ cn ∧ cn ≤ 57
      · obtain ⟨hd0, hd1⟩ := hdig
        by_cases hcut : a < 1152921504606846976
        · have HN : Hid (0 ≤ a * 16 + ((cn : Int) - 48) ∧ a * 16 + ((cn : Int) - 48) < 18446744073709551616 ∧ ∀ x : Nat, x < 18446744073709551616 → l = hexL x → a * 16 + ((cn : Int) - 48) = ((x / 2 ^ (64 - 4 * (k + 1)) : Nat) : Int)) := Lib.hid ⟨by omega, by omega, fun x hx he => by
            obtain ⟨d, h1, h2, h3, h4⟩ := HCN.out x hx he
            have h5 := HH.out.2.2 x hx he
            have h6 := hex_step x k h3
            rw [show 64 - 4 * (k + 1) = 60 - 4 * k from by omega, h6, ← h2]
            split at h4 <;> omega⟩
          have iov : a * 16 + ((cn : Int) - 48) < 18446744073709551616 := by omega
          clear hc256 m0 m1
          go_wp2_with fail
          refine ⟨⟨k + 1, a * 16 + ((cn : Int) - 48), rfl, (by first | rfl | (congr 1; omega)), (by first | rfl | (congr 1; omega)), by omega, HN⟩, by simp [intOf]; omega⟩
        · have HX : Hid (∀ x : Nat, x < 18446744073709551616 → l ≠ hexL x) := Lib.hid fun x hx he => by
            obtain ⟨d, h1, h2, h3, h4⟩ := HCN.out x hx he
            have h5 := HH.out.2.2 x hx he
            have h6 := hex_small x k hx h3
            omega
          have hcut' : 1152921504606846976 ≤ a := by omega
          clear hc256 m0 m1 hcut
          go_wp2_with fail
          go_ret2
          exact ⟨_, _, rfl, by omega, .inr (.inl rfl), fun x hx he => absurd he (HX.out x hx), HP.out⟩
      · have HB : Hid (∀ x : Nat, x < 18446744073709551616 → l = hexL x → ∃ d, 10 ≤ d ∧ d < 16 ∧ d = x / 2 ^ (60 - 4 * k) % 16 ∧ k < 16 ∧ bits .or .u8 (cn : Int) 32 = 87 + d) := Lib.hid fun x hx he => by
          obtain ⟨d, h1, h2, h3, h4⟩ := HCN.out x hx he
          split at h4
          · omega
          · exact ⟨d, by omega, h1, h2, h3, by rw [HM.out (by omega) (by omega)]; omega⟩
        clear HCN HM
        by_cases h95 : cn = 95
        · subst h95
          have h127 : bits .or .u8 (95 : Int) 32 = 127 := by decide
          have HX : Hid (∀ x : Nat, x < 18446744073709551616 → l ≠ hexL x) := Lib.hid fun x hx he => by
            obtain ⟨d, h1, h2, h3, h4, h5⟩ := HB.out x hx he
            rw [show ((95 : Nat) : Int) = 95 from rfl, h127] at h5
            omega
          clear hc256 m0 m1 hdig HB
          go_wp2_with fail
          refine (lower_run _ _).mono ?_
          rintro e w2 ⟨rfl, rfl⟩
          go_wp2_with fail
          refine (lower_run _ _).mono ?_
          rintro e w2 ⟨rfl, rfl⟩
          go_wp2_with fail
          go_ret2
          exact ⟨_, _, rfl, by omega, .inr (.inr rfl), fun x hx he => absurd he (HX.out x hx), HP.out⟩
        · have HL := fun w => lower_run (cn : Int) w
          generalize hm : bits .or .u8 (cn : Int) 32 = m at *
          clear hm
          have hsp : cn < 48 ∨ 57 < cn := by omega
          clear hdig
          rcases hsp with hsp | hsp
          all_goals
            go_wp2_with fail
            refine (HL _).mono ?_
            rintro e w2 ⟨rfl, rfl⟩
            by_cases hm0 : 97 ≤ m
            · go_wp2_with fail
              refine (HL _).mono ?_
              rintro e w2 ⟨rfl, rfl⟩
              by_cases hm1 : m ≤ 122
              · go_wp2_with fail
                refine (HL _).mono ?_
                rintro e w2 ⟨rfl, rfl⟩
                by_cases hm2 : m ≤ 102
                · by_cases hcut : a < 1152921504606846976
                  · have HN : Hid (0 ≤ a * 16 + (m - 97 + 10) ∧ a * 16 + (m - 97 + 10) < 18446744073709551616 ∧ ∀ x : Nat, x < 18446744073709551616 → l = hexL x → a * 16 + (m - 97 + 10) = ((x / 2 ^ (64 - 4 * (k + 1)) : Nat) : Int)) := Lib.hid ⟨by omega, by omega, fun x hx he => by
                      obtain ⟨d, h1, h2, h3, h4, h7⟩ := HB.out x hx he
                      have h5 := HH.out.2.2 x hx he
                      have h6 := hex_step x k h4
                      rw [show 64 - 4 * (k + 1) = 60 - 4 * k from by omega, h6, ← h3]
                      omega⟩
                    have iov : a * 16 + (m - 97 + 10) < 18446744073709551616 := by omega
                    clear hc256 HL
                    go_wp2_with fail
                    refine ⟨⟨k + 1, a * 16 + (m - 97 + 10), rfl, (by first | rfl | (congr 1; omega)), (by first | rfl | (congr 1; omega)), by omega, HN⟩, by simp [intOf]; omega⟩
                  · have HX : Hid (∀ x : Nat, x < 18446744073709551616 → l ≠ hexL x) := Lib.hid fun x hx he => by
                      obtain ⟨d, h1, h2, h3, h4, h7⟩ := HB.out x hx he
                      have h5 := HH.out.2.2 x hx he
                      have h6 := hex_small x k hx h4
                      omega
                    have hcut' : 1152921504606846976 ≤ a := by omega
                    clear hc256 HL hcut
                    go_wp2_with fail
                    go_ret2
                    exact ⟨_, _, rfl, by omega, .inr (.inl rfl), fun x hx he => absurd he (HX.out x hx), HP.out⟩
                · have HX : Hid (∀ x : Nat, x < 18446744073709551616 → l ≠ hexL x) := Lib.hid fun x hx he => by
                    obtain ⟨d, h1, h2, h3, h4, h7⟩ := HB.out x hx he
                    omega
                  have hm3 : 102 < m := by omega
                  clear hc256 HL hm2
                  go_wp2_with fail
                  go_ret2
                  exact ⟨_, _, rfl, by omega, .inr (.inr rfl), fun x hx he => absurd he (HX.out x hx), HP.out⟩
              · have HX : Hid (∀ x : Nat, x < 18446744073709551616 → l ≠ hexL x) := Lib.hid fun x hx he => by
                  obtain ⟨d, h1, h2, h3, h4, h7⟩ := HB.out x hx he
                  omega
                have hm3 : 122 < m := by omega
                clear hc256 HL hm1
                go_wp2_with fail
                go_ret2
                exact ⟨_, _, rfl, by omega, .inr (.inr rfl), fun x hx he => absurd he (HX.out x hx), HP.out⟩
            · have HX : Hid (∀ x : Nat, x < 18446744073709551616 → l ≠ hexL x) := Lib.hid fun x hx he => by
                obtain ⟨d, h1, h2, h3, h4, h7⟩ := HB.out x hx he
                omega
              have hm3 : m < 97 := by omega
              clear hc256 HL hm0
              go_wp2_with fail
              go_ret2
              exact ⟨_, _, rfl, by omega, .inr (.inr rfl), fun x hx he => absurd he (HX.out x hx), HP.out⟩
    · obtain rfl : k = l.length := by omega
      clear hB
      go_wp2_with fail
      go_ret2
      exact ⟨_, _, rfl, ⟨a0, a1⟩, .inl rfl, fun x hx he => by
        have h5 := HH.out.2.2 x hx he
        have h6 : l.length = 16 := by rw [he, hexL_len]
        rw [h6] at h5
        simpa using h5, HP.out⟩

end Go.Proofs.YtelkimgcbkmdmaaDoor
