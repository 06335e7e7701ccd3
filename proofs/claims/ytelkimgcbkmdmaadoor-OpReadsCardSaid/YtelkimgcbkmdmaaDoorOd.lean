/-
  Chapter 19: the contract of the reference's number.
-/
import Derived.Test.YtelkimgcbkmdmaaDoorOc
namespace Go.Proofs.YtelkimgcbkmdmaaDoor
open Go.RowKit

/-- The digits from a place on: the negative number so far, how many digits before. -/
def numGo (n : Int) (cnt : Nat) : List UInt8 → Option Int
  | [] => some n
  | c :: r => if c.toNat < 48 ∨ 57 < c.toNat ∨ 18 < cnt then none else
    let m := wrap64 (wrap64 (10 * n) - ((c.toNat : Int) - 48))
    if 0 < m then none else numGo m (cnt + 1) r
def numR (l : List UInt8) : Int × Bool :=
  if l.head? = some 45 then (match numGo 0 0 l.tail with
    | none => (0, false)
    | some n => (n, decide (Lib.itoa n = l)))
  else match numGo 0 0 l with
    | none => (0, false)
    | some n => if n = -9223372036854775808 then (0, false) else (-n, decide (Lib.itoa (-n) = l))
theorem wrap64_range (z : Int) : -9223372036854775808 ≤ wrap64 z ∧ wrap64 z ≤ 9223372036854775807 := by unfold wrap64; omega
theorem numGo_range (l : List UInt8) : ∀ (n : Int) (cnt : Nat) (m : Int), -9223372036854775808 ≤ n → n ≤ 0 → numGo n cnt l = some m → -9223372036854775808 ≤ m ∧ m ≤ 0 := by
  induction l with
  | nil =>
    intro n cnt m h0 h1 h
    simp only [numGo, Option.some.injEq] at h
    omega
  | cons c r ih =>
    intro n cnt m h0 h1 h
    simp only [numGo] at h
    split at h
    · cases h
    · split at h
      · cases h
      · rename_i h2
        exact ih _ _ _ (wrap64_range _).1 (by omega) h

set_option maxRecDepth 100000 in
set_option maxHeartbeats 2000000 in
theorem num_neg (l : List UInt8) (w : World) (hl : l.length ≤ 1000) (hh : l.head? = some 45) : Calls Tryd.prog 30 #[.string (str l)] w fun e w' => e = .returned (.tuple #[.int .i64 (numR l).1, .bool (numR l).2]) ∧ Pure w w' := by
  have hpos : 0 < l.length := by cases l with
    | nil => simp at hh
    | cons a r => simp
  have h0 : l[0]? = some 45 := by rw [← hh]; cases l <;> rfl
  have hat0 := str_at l 0 45 h0
  have hR : numR l = (match numGo 0 0 (l.drop 1) with
    | none => (0, false)
    | some n => (n, decide (Lib.itoa n = l))) := by rw [numR, if_pos hh, List.drop_one]
  have HR := Lib.hid hR
  clear hh h0 hR
  have hsz := str_size l
  go_enter Tryd.func30, Tryd.ntmps30
  go_wp2_with fail
  go_loopw [4, 6] (fun v i wr => ∃ (k : Nat) (n : Int), 1 ≤ k ∧ k ≤ l.length ∧ i = .int .i64 k ∧ v = .int .i64 n ∧ w = wr ∧ -9223372036854775808 ≤ n ∧ n ≤ 0 ∧ numGo 0 0 (l.drop 1) = numGo n (k - 1) (l.drop k)) (fun _ i _ => l.length - (intOf i).toNat)
  case atStart => exact ⟨1, 0, by omega, by omega, rfl, rfl, rfl, by omega, by omega, rfl⟩
  case round =>
    obtain ⟨k, n, hk0, hk, rfl, rfl, rfl, hn0, hn1, hgo⟩ := hrel
    by_cases hlt : k < l.length
    · obtain ⟨b, hb⟩ : ∃ b, l[k]? = some b := ⟨_, List.getElem?_eq_getElem hlt⟩
      have hat := str_at l k b hb
      have hdr : l.drop k = b :: l.drop (k + 1) := by
        rw [List.drop_eq_getElem_cons hlt]
        rw [List.getElem?_eq_getElem hlt] at hb
        injection hb with hb
        rw [hb]
      obtain ⟨bn, hbn⟩ : ∃ bn, b.toNat = bn := ⟨_, rfl⟩
      rw [hdr] at hgo
      simp only [numGo, hbn] at hgo
      by_cases hex : bn < 48 ∨ 57 < bn ∨ 18 < (k - 1)
      · rw [if_pos hex] at hgo
        have HG := Lib.hid hgo
        have h5 : bn < 48 ∨ (48 ≤ bn ∧ 57 < bn) ∨ (48 ≤ bn ∧ bn ≤ 57 ∧ 1 + 18 < k) := by omega
        clear hb hdr hgo hex
        rcases h5 with h5 | ⟨h5, h6⟩ | ⟨h5, h6, h7⟩
        all_goals
          go_wp2_with fail
          refine bodyPost_ret (v := .tuple #[.int .i64 0, .bool false]) (by simp [results, Tryd.results30, go_sem]) rfl ⟨?_, Only.refl _ _⟩
          rw [HR.out, HG.out]
      · rw [if_neg hex] at hgo
        have h5 : 48 ≤ bn := by omega
        have h6 : bn ≤ 57 := by omega
        have h7 : ¬ (1 + 18 < (k : Int)) := by omega
        have hw8 : IntKind.u8.wrap ((bn : Int) - 48) = (bn : Int) - 48 := by rw [IntKind.wrap_u8]; omega
        obtain ⟨m, hm⟩ : ∃ m, wrap64 (wrap64 (10 * n) - ((bn : Int) - 48)) = m := ⟨_, rfl⟩
        rw [hm] at hgo
        have hmr := wrap64_range (wrap64 (10 * n) - ((bn : Int) - 48))
        rw [hm] at hmr
        by_cases hpos : 0 < m
        · rw [if_pos hpos] at hgo
          have HG := Lib.hid hgo
          clear hb hdr hgo hex
          go_wp2_with fail
          refine bodyPost_ret (v := .tuple #[.int .i64 0, .bool false]) (by simp [results, Tryd.results30, go_sem]) rfl ⟨?_, Only.refl _ _⟩
          rw [HR.out, HG.out]
        · rw [if_neg hpos] at hgo
          have HG := Lib.hid hgo
          clear hb hdr hgo hex
          go_wp2_with fail
          go_roundw
          case rel => first | exact ⟨k + 1, m, by omega, by omega, by go_num, by rw [hm], trivial, hmr.1, by omega, by rw [HG.out]; congr 1; omega⟩ | exact ⟨_, _, _, _, ⟨k + 1, by omega, by omega, rfl, m, rfl, hmr.1, by omega, by rw [HG.out]⟩, rfl, rfl, rfl, by go_num⟩
          case measure => simp [intOf]; omega
    · obtain rfl : k = l.length := by omega
      rw [List.drop_length] at hgo
      simp only [numGo] at hgo
      have HG := Lib.hid hgo
      clear hgo
      go_wp2_with fail
      refine (dec_any n _ hn0 (by omega)).mono ?_
      rintro e w1 ⟨rfl, hp⟩
      have HP := Lib.hid hp
      clear hp
      go_wp2_with fail
      refine bodyPost_ret (v := .tuple #[.int .i64 n, .bool (decide (Lib.itoa n = l))]) ?_ rfl ⟨?_, HP.out⟩
      · simp [results, Tryd.results30, go_sem, str_toList, beq_dec]
      · rw [HR.out, HG.out]

set_option maxRecDepth 100000 in
set_option maxHeartbeats 2000000 in
theorem num_pos (l : List UInt8) (w : World) (hl : l.length ≤ 1000) (hh : l.head? ≠ some 45) (h00 : 0 < l.length) : Calls Tryd.prog 30 #[.string (str l)] w fun e w' => e = .returned (.tuple #[.int .i64 (numR l).1, .bool (numR l).2]) ∧ Pure w w' := by
  have hR : numR l = (match numGo 0 0 l with
    | none => (0, false)
    | some n => if n = -9223372036854775808 then (0, false) else (-n, decide (Lib.itoa (-n) = l))) := by rw [numR, if_neg hh]
  have HR := Lib.hid hR
  obtain ⟨b0, h01, h02⟩ : ∃ b0 : UInt8, l[0]? = some b0 ∧ ¬ b0.toNat = 45 := by
    cases l with
    | nil => exact absurd h00 (by simp)
    | cons a r => exact ⟨a, rfl, fun e => hh (by simp; exact UInt8.toNat_inj.1 e)⟩
  have hat0 := str_at l 0 b0 h01
  clear hh hR h01
  have hsz := str_size l
  go_enter Tryd.func30, Tryd.ntmps30
  go_wp2_with fail
  go_loopw [4, 6] (fun v i wr => ∃ (k : Nat) (n : Int), k ≤ 1000 ∧ k ≤ l.length ∧ i = .int .i64 k ∧ v = .int .i64 n ∧ w = wr ∧ -9223372036854775808 ≤ n ∧ n ≤ 0 ∧ numGo 0 0 l = numGo n k (l.drop k)) (fun _ i _ => l.length - (intOf i).toNat)
  case atStart => exact ⟨0, 0, by omega, by omega, rfl, rfl, rfl, by omega, by omega, rfl⟩
  case round =>
    obtain ⟨k, n, hk0, hk, rfl, rfl, rfl, hn0, hn1, hgo⟩ := hrel
    by_cases hlt : k < l.length
    · obtain ⟨b, hb⟩ : ∃ b, l[k]? = some b := ⟨_, List.getElem?_eq_getElem hlt⟩
      have hat := str_at l k b hb
      have hdr : l.drop k = b :: l.drop (k + 1) := by
        rw [List.drop_eq_getElem_cons hlt]
        rw [List.getElem?_eq_getElem hlt] at hb
        injection hb with hb
        rw [hb]
      obtain ⟨bn, hbn⟩ : ∃ bn, b.toNat = bn := ⟨_, rfl⟩
      rw [hdr] at hgo
      simp only [numGo, hbn] at hgo
      by_cases hex : bn < 48 ∨ 57 < bn ∨ 18 < k
      · rw [if_pos hex] at hgo
        have HG := Lib.hid hgo
        have h5 : bn < 48 ∨ (48 ≤ bn ∧ 57 < bn) ∨ (48 ≤ bn ∧ bn ≤ 57 ∧ 0 + 18 < k) := by omega
        clear hb hdr hgo hex
        rcases h5 with h5 | ⟨h5, h6⟩ | ⟨h5, h6, h7⟩
        all_goals
          go_wp2_with fail
          refine bodyPost_ret (v := .tuple #[.int .i64 0, .bool false]) (by simp [results, Tryd.results30, go_sem]) rfl ⟨?_, Only.refl _ _⟩
          rw [HR.out, HG.out]
      · rw [if_neg hex] at hgo
        have h5 : 48 ≤ bn := by omega
        have h6 : bn ≤ 57 := by omega
        have h7 : ¬ (0 + 18 < (k : Int)) := by omega
        have hw8 : IntKind.u8.wrap ((bn : Int) - 48) = (bn : Int) - 48 := by rw [IntKind.wrap_u8]; omega
        obtain ⟨m, hm⟩ : ∃ m, wrap64 (wrap64 (10 * n) - ((bn : Int) - 48)) = m := ⟨_, rfl⟩
        rw [hm] at hgo
        have hmr := wrap64_range (wrap64 (10 * n) - ((bn : Int) - 48))
        rw [hm] at hmr
        by_cases hpos : 0 < m
        · rw [if_pos hpos] at hgo
          have HG := Lib.hid hgo
          clear hb hdr hgo hex
          go_wp2_with fail
          refine bodyPost_ret (v := .tuple #[.int .i64 0, .bool false]) (by simp [results, Tryd.results30, go_sem]) rfl ⟨?_, Only.refl _ _⟩
          rw [HR.out, HG.out]
        · rw [if_neg hpos] at hgo
          have HG := Lib.hid hgo
          clear hb hdr hgo hex
          go_wp2_with fail
          go_roundw
          case rel => first | exact ⟨k + 1, m, by omega, by omega, by go_num, by rw [hm], trivial, hmr.1, by omega, by rw [HG.out]⟩ | exact ⟨_, _, _, _, ⟨k + 1, by omega, by omega, rfl, m, rfl, hmr.1, by omega, by rw [HG.out]⟩, rfl, rfl, rfl, by go_num⟩
          case measure => simp [intOf]; omega
    · obtain rfl : k = l.length := by omega
      rw [List.drop_length] at hgo
      simp only [numGo] at hgo
      have HG := Lib.hid hgo
      clear hgo
      by_cases hmin : n = -9223372036854775808
      · subst hmin
        have hw : wrap64 9223372036854775808 = -9223372036854775808 := by unfold wrap64; omega
        go_wp2_with fail
        refine bodyPost_ret (v := .tuple #[.int .i64 0, .bool false]) (by simp [results, Tryd.results30, go_sem]) rfl ⟨?_, Only.refl _ _⟩
        rw [HR.out, HG.out]
        rfl
      · have hR2 : numR l = (-n, decide (Lib.itoa (-n) = l)) := by rw [HR.out, HG.out]; exact if_neg hmin
        have HR2 := Lib.hid hR2
        clear hR2
        have hw : wrap64 (-n) = -n := by unfold wrap64; omega
        by_cases hz : n = 0
        · subst hz
          go_wp2_with fail
          refine (dec_any 0 _ (by omega) (by omega)).mono ?_
          rintro e w1 ⟨rfl, hp⟩
          have HP := Lib.hid hp
          clear hp
          go_wp2_with fail
          refine bodyPost_ret (v := .tuple #[.int .i64 0, .bool (decide (Lib.itoa 0 = l))]) ?_ rfl ⟨?_, HP.out⟩
          · simp [results, Tryd.results30, go_sem, str_toList, beq_dec]
          · rw [HR2.out]; rfl
        · have hne : ¬ n = -n := by omega
          go_wp2_with fail
          refine (dec_any (-n) _ (by omega) (by omega)).mono ?_
          rintro e w1 ⟨rfl, hp⟩
          have HP := Lib.hid hp
          clear hp
          go_wp2_with fail
          refine bodyPost_ret (v := .tuple #[.int .i64 (-n), .bool (decide (Lib.itoa (-n) = l))]) ?_ rfl ⟨?_, HP.out⟩
          · simp [results, Tryd.results30, go_sem, str_toList, beq_dec]
          · rw [HR2.out]

set_option maxRecDepth 100000 in
theorem num_nil (w : World) : Calls Tryd.prog 30 #[.string (str [])] w fun e w' => e = .returned (.tuple #[.int .i64 (numR []).1, .bool (numR []).2]) ∧ Pure w w' := by
  have hsz : (str []).size = 0 := rfl
  have hR : numR [] = (0, decide (Lib.itoa 0 = [])) := rfl
  have HR := Lib.hid hR
  clear hR
  go_enter Tryd.func30, Tryd.ntmps30
  go_wp2_with fail
  go_loopw [4, 6] (fun v i wr => i = .int .i64 0 ∧ v = .int .i64 0 ∧ w = wr) (fun _ _ _ => 0)
  case atStart => exact ⟨rfl, rfl, rfl⟩
  case round =>
    obtain ⟨rfl, rfl, rfl⟩ := hrel
    go_wp2_with fail
    refine (dec_any 0 _ (by omega) (by omega)).mono ?_
    rintro e w1 ⟨rfl, hp⟩
    have HP := Lib.hid hp
    clear hp
    go_wp2_with fail
    refine bodyPost_ret (v := .tuple #[.int .i64 0, .bool (decide (Lib.itoa 0 = []))]) ?_ rfl ⟨?_, HP.out⟩
    · simp [results, Tryd.results30, go_sem, str_toList, Lib.itoa, Lib.decDigits]
    · rw [HR.out]

/-- The reference's number, of any text. -/
theorem num_any (l : List UInt8) (w : World) (hl : l.length ≤ 1000) : Calls Tryd.prog 30 #[.string (str l)] w fun e w' => e = .returned (.tuple #[.int .i64 (numR l).1, .bool (numR l).2]) ∧ Pure w w' := by
  by_cases h : l.head? = some 45
  · exact num_neg l w hl h
  · rcases Nat.eq_zero_or_pos l.length with h0 | h0
    · rw [List.eq_nil_of_length_eq_zero h0]; exact num_nil w
    · exact num_pos l w hl h h0

end Go.Proofs.YtelkimgcbkmdmaaDoor
