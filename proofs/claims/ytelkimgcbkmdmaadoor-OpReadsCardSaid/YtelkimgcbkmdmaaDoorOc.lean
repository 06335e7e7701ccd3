/-
  Chapter 19: the contracts of the reference's hex and number.
-/
import Derived.Test.YtelkimgcbkmdmaaDoorOb
namespace Go.Proofs.YtelkimgcbkmdmaaDoor
open Go.RowKit

def hexF (u : Nat) (b : UInt8) : Nat := if 48 ≤ b.toNat ∧ b.toNat ≤ 57 then (u * 16 % 18446744073709551616) ||| (b.toNat - 48) else if 97 ≤ b.toNat ∧ b.toNat ≤ 102 then (u * 16 % 18446744073709551616) ||| (b.toNat - 87) else u
def hexV (l : List UInt8) : Nat := l.foldl hexF 0

theorem str_inj {a b : List UInt8} : str a = str b ↔ a = b := ⟨fun h => by rw [← str_list a, h, str_list], fun h => by rw [h]⟩
theorem toList_loop (bs : ByteArray) : ∀ (n i : Nat) (r : List UInt8), bs.size - i = n → ByteArray.toList.loop bs i r = r.reverse ++ bs.data.toList.drop i := by
  intro n
  induction n with
  | zero =>
    intro i r h
    unfold ByteArray.toList.loop
    rw [if_neg (by omega), List.drop_eq_nil_of_le (by have : bs.data.size - i = 0 := h; simp; omega), List.append_nil]
  | succ n ih =>
    intro i r h
    unfold ByteArray.toList.loop
    have hi : i < bs.data.toList.length := by have : bs.data.size - i = n + 1 := h; simp; omega
    rw [if_pos (by omega), ih (i + 1) _ (by omega), List.drop_eq_getElem_cons hi, List.reverse_cons, List.append_assoc]
    congr 2
    simp only [ByteArray.get!, List.cons_append, List.nil_append, List.cons.injEq, and_true]
    rw [getElem!_pos bs.data i (by simpa using hi)]
    simp
theorem beq_dec (a b : List UInt8) : (a == b) = decide (a = b) := by by_cases h : a = b <;> simp [h]
theorem str_toList (l : List UInt8) : (str l).toList = l := by
  unfold ByteArray.toList
  rw [toList_loop _ _ _ _ rfl]
  simp [str]
theorem str_at (l : List UInt8) (k : Nat) (b : UInt8) (h : l[k]? = some b) (h' : k < (str l).size) : (str l)[k] = b := by
  have hk := (List.getElem?_eq_some_iff.1 h).1
  have := (List.getElem?_eq_some_iff.1 h).2
  rw [← this]
  rfl

theorem hexV_snoc (l : List UInt8) (k : Nat) (b : UInt8) (h : l[k]? = some b) : hexV (l.take (k + 1)) = hexF (hexV (l.take k)) b := by
  simp [hexV, List.take_add_one, h]
theorem or_step (u : Nat) (d : Nat) (z : Int) (hd : d < 16) (hz : z = (d : Int)) : bits .or .u64 (IntKind.u64.wrap ((u : Int) * 16)) z = ((u * 16 % 18446744073709551616 ||| d : Nat) : Int) := by
  subst hz
  have hw : IntKind.u64.wrap ((u : Int) * 16) = ((u * 16 % 18446744073709551616 : Nat) : Int) := by
    rw [IntKind.wrap_u64]; omega
  rw [hw]
  exact bits_or_u64_nat _ _ (Nat.mod_lt _ (by decide)) (by omega)
theorem hexF_lt (u : Nat) (b : UInt8) (hu : u < 18446744073709551616) : hexF u b < 18446744073709551616 := by
  unfold hexF
  split
  · exact Nat.or_lt_two_pow (n := 64) (Nat.mod_lt _ (by decide)) (by omega)
  · split
    · exact Nat.or_lt_two_pow (n := 64) (Nat.mod_lt _ (by decide)) (by omega)
    · exact hu
theorem hexV_lt (l : List UInt8) : hexV l < 18446744073709551616 := by
  have : ∀ (l : List UInt8) (u : Nat), u < 18446744073709551616 → l.foldl hexF u < 18446744073709551616 := by
    intro l
    induction l with
    | nil => exact fun u h => h
    | cons b l ih => exact fun u h => ih _ (hexF_lt u b h)
  exact this l 0 (by omega)

set_option maxRecDepth 100000 in
set_option maxHeartbeats 1000000 in
theorem rhex_any (l : List UInt8) (w : World) (hl : l.length ≤ 1000) : Calls Tryd.prog 29 #[.string (str l)] w fun e w' => e = .returned (.tuple #[.int .u64 (hexV l), .bool (decide (hexL (hexV l) = l))]) ∧ Pure w w' := by
  have hsz := str_size l
  go_enter Tryd.func29, Tryd.ntmps29
  go_wp2_with fail
  go_loopw [4, 5] (fun v i wr => ∃ k : Nat, k ≤ l.length ∧ i = .int .i64 k ∧ v = .int .u64 (hexV (l.take k)) ∧ w = wr) (fun _ i _ => l.length - (intOf i).toNat)
  case atStart => exact ⟨0, Nat.zero_le _, rfl, rfl, rfl⟩
  case round =>
    obtain ⟨k, hk, rfl, rfl, rfl⟩ := hrel
    by_cases hlt : k < l.length
    · obtain ⟨b, hb⟩ : ∃ b, l[k]? = some b := ⟨_, List.getElem?_eq_getElem hlt⟩
      have hat := str_at l k b hb
      have hsn := hexV_snoc l k b hb
      obtain ⟨u, hu⟩ : ∃ u, hexV (l.take k) = u := ⟨_, rfl⟩
      rw [hu] at hsn
      unfold hexF at hsn
      rw [hu]
      obtain ⟨bn, hbn⟩ : ∃ bn, b.toNat = bn := ⟨_, rfl⟩
      rw [hbn] at hsn
      clear hu
      by_cases h1 : 48 ≤ bn ∧ bn ≤ 57
      · rw [if_pos h1] at hsn
        obtain ⟨h1, h2⟩ := h1
        have HS := Lib.hid hsn
        have HO := Lib.hid (or_step u (bn - 48) ((bn : Int) - 48) (by omega) (by omega))
        clear hb hsn
        go_wp2_with fail
        go_roundw
        case rel => exact ⟨k + 1, by omega, by go_num, by rw [HS.out, HO.out], trivial⟩
        case measure => simp [intOf]; omega
      · rw [if_neg h1] at hsn
        by_cases h2 : 97 ≤ bn ∧ bn ≤ 102
        · rw [if_pos h2] at hsn
          obtain ⟨h2, h3⟩ := h2
          have h4 : ¬ bn ≤ 57 := by omega
          have HS := Lib.hid hsn
          have HO := Lib.hid (or_step u (bn - 87) ((bn : Int) - 97 + 10) (by omega) (by omega))
          have hw8 : IntKind.u8.wrap ((bn : Int) - 97) = (bn : Int) - 97 := by rw [IntKind.wrap_u8]; omega
          have hw9 : IntKind.u8.wrap ((bn : Int) - 97 + 10) = (bn : Int) - 97 + 10 := by rw [IntKind.wrap_u8]; omega
          clear hb hsn h1
          go_wp2_with fail
          go_roundw
          case rel => exact ⟨k + 1, by omega, by go_num, by rw [HS.out, HO.out], trivial⟩
          case measure => simp [intOf]; omega
        · rw [if_neg h2] at hsn
          have HS := Lib.hid hsn
          have h5 : bn < 48 ∨ (57 < bn ∧ bn < 97) ∨ 102 < bn := by omega
          clear hb hsn h1 h2
          rcases h5 with h5 | ⟨h5, h6⟩ | h5
          · have h7 : bn < 97 := by omega
            go_wp2_with fail
            go_roundw
            case rel => exact ⟨k + 1, by omega, by go_num, by rw [HS.out], trivial⟩
            case measure => simp [intOf]; omega
          · have h7 : 48 ≤ bn := by omega
            go_wp2_with fail
            go_roundw
            case rel => exact ⟨k + 1, by omega, by go_num, by rw [HS.out], trivial⟩
            case measure => simp [intOf]; omega
          · have h7 : 48 ≤ bn := by omega
            have h8 : 57 < bn := by omega
            have h9 : 97 ≤ bn := by omega
            go_wp2_with fail
            go_roundw
            case rel => exact ⟨k + 1, by omega, by go_num, by rw [HS.out], trivial⟩
            case measure => simp [intOf]; omega
    · obtain rfl : k = l.length := by omega
      rw [List.take_length]
      go_wp2_with fail
      refine (hex_out (hexV l) _ (hexV_lt l)).mono ?_
      rintro e w1 ⟨rfl, hp⟩
      have HP := Lib.hid hp
      clear hp
      go_wp2_with fail
      refine bodyPost_ret (v := .tuple #[.int .u64 (hexV l), .bool (decide (hexL (hexV l) = l))]) ?_ rfl ⟨rfl, HP.out⟩
      simp [results, Tryd.results29, go_sem, str_toList, beq_dec]

end Go.Proofs.YtelkimgcbkmdmaaDoor
