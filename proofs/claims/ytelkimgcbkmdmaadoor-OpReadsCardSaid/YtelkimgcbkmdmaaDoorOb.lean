/-
  Chapter 19: the contracts of the reference's sixteen digits.
-/
import Derived.Test.YtelkimgcbkmdmaaDoorOa
import Derived.Laws.BitsAllLaws
namespace Go.Proofs.YtelkimgcbkmdmaaDoor
open Go.RowKit

def hexDigits : List UInt8 := [48, 49, 50, 51, 52, 53, 54, 55, 56, 57, 97, 98, 99, 100, 101, 102]
/-- The digit of a number below 16. -/
def hd (d : Nat) : UInt8 := hexDigits.getD d 0
/-- Sixteen digits. -/
def hexL (u : Nat) : List UInt8 := (List.range 16).map fun i => hd (u / 2 ^ (60 - 4 * i) % 16)
/-- The first k of them laid. -/
def hexJ (u k : Nat) : List Value := (List.range 16).map fun i => Value.int .u8 (if i < k then ((hd (u / 2 ^ (60 - 4 * i) % 16)).toNat : Int) else 0)

theorem hexJ_zero (u : Nat) : hexJ u 0 = List.replicate 16 (.int .u8 0) := by simp [hexJ, List.map_const']
theorem hexJ_len (u k : Nat) : (hexJ u k).length = 16 := by simp [hexJ]
theorem hexJ_set (u k : Nat) : (hexJ u k).set k (.int .u8 ((hd (u / 2 ^ (60 - 4 * k) % 16)).toNat : Int)) = hexJ u (k + 1) := by
  apply List.ext_getElem
  · simp [hexJ]
  · intro i h1 h2
    rw [List.getElem_set]
    by_cases h : k = i
    · subst h
      simp [hexJ]
    · rw [if_neg h]
      have : i < k ↔ i < k + 1 := by omega
      simp [hexJ, this]
theorem hexJ_get (u k i : Nat) (hi : i < 16) : ∃ z : Int, (hexJ u k)[i]? = some (.int .u8 z) := ⟨_, by simp only [hexJ]; rw [List.getElem?_map, List.getElem?_range hi]; rfl⟩
theorem hexJ_end (u i : Nat) (hi : i < 16) : (hexJ u 16)[i]? = some (.int .u8 (((hexL u).getD i 0).toNat : Int)) := by
  simp [hexJ, hexL, hi, List.getD]
theorem hd_lit (d : Nat) (h : d < 16) (h' : d < ByteArray.size { data := #[48, 49, 50, 51, 52, 53, 54, 55, 56, 57, 97, 98, 99, 100, 101, 102] }) : ({ data := #[48, 49, 50, 51, 52, 53, 54, 55, 56, 57, 97, 98, 99, 100, 101, 102] } : ByteArray)[d] = hd d := by
  rcases (by omega : d = 0 ∨ d = 1 ∨ d = 2 ∨ d = 3 ∨ d = 4 ∨ d = 5 ∨ d = 6 ∨ d = 7 ∨ d = 8 ∨ d = 9 ∨ d = 10 ∨ d = 11 ∨ d = 12 ∨ d = 13 ∨ d = 14 ∨ d = 15) with rfl | rfl | rfl | rfl | rfl | rfl | rfl | rfl | rfl | rfl | rfl | rfl | rfl | rfl | rfl | rfl <;> rfl
theorem and15 (v : Nat) (hv : v < 18446744073709551616) : bits .and .u64 (v : Int) 15 = ((v % 16 : Nat) : Int) := by
  have h := bits_and_u64_nat v 15 hv (by omega)
  rw [show (15 : Int) = ((15 : Nat) : Int) from rfl, h]
  congr 1
  exact Nat.and_two_pow_sub_one_eq_mod v 4
theorem hex_wr {w : World} {B k : Nat} {u : Nat} {T : TypeId} (h : w.heap[B]? = some (.cells (hexJ u k).toArray T (0, 0))) : (w.setCell ⟨B, k, none⟩ (.int .u8 ((hd (u / 2 ^ (60 - 4 * k) % 16)).toNat : Int))).heap[B]? = some (.cells (hexJ u (k + 1)).toArray T (0, 0)) := by
  simp [World.setCell, Array.getElem?_modify, h, ← hexJ_set u k]

set_option maxRecDepth 100000 in
set_option maxHeartbeats 1000000 in
theorem hex_out (u : Nat) (w : World) (hu : u < 18446744073709551616) : Calls Tryd.prog 32 #[.int .u64 u] w fun e w' => e = .returned (.string (str (hexL u))) ∧ Pure w w' := by
  go_enter Tryd.func32, Tryd.ntmps32
  go_wp2_with fail
  go_loopw [4] (fun i wr => ∃ k : Nat, k ≤ 16 ∧ i = .int .i64 k ∧ Pure w wr ∧ wr.heap[w.heap.size]? = some (.cells (hexJ u k).toArray 83 (0, 0))) (fun i _ => 16 - (intOf i).toNat)
  case atStart => exact ⟨0, by omega, rfl, (Only.refl _ _).alloc _, by rw [hexJ_zero]; exact heap_alloc_new w _⟩
  case round =>
    obtain ⟨k, hk, rfl, hp, hb⟩ := hrel
    have HP := Lib.hid hp
    have HB := Lib.hid hb
    by_cases hlt : k < 16
    · obtain ⟨v, hv⟩ : ∃ v, u / 2 ^ (60 - 4 * k) = v := ⟨_, rfl⟩
      have hvl : v < 18446744073709551616 := by rw [← hv]; exact Nat.lt_of_le_of_lt (Nat.div_le_self _ _) hu
      have hvi : (u : Int) / 2 ^ (60 - 4 * k) = (v : Int) := by rw [← hv]; simp
      have ha := and15 v hvl
      obtain ⟨d, hd0⟩ : ∃ d, v % 16 = d := ⟨_, rfl⟩
      have hdl : d < 16 := by omega
      rw [hd0] at ha
      obtain ⟨z, hz⟩ := hexJ_get u k k hlt
      have s0 : wr.cell? ⟨w.heap.size, k, none⟩ = some (.int .u8 z) := by rw [cell_of_row _ _ _ _ _ _ hb, List.getElem?_toArray]; exact hz
      have s1 := frozen_of_row wr w.heap.size k _ _ hb
      have HD0 := Lib.hid hd0
      have HV := Lib.hid hv
      have HHD := Lib.hid (hd_lit d hdl)
      clear hp hb hz hd0 hv
      go_wp2_with fail
      go_roundw
      case rel =>
        refine ⟨k + 1, by omega, by go_num, HP.out.setCell (p := ⟨w.heap.size, k, none⟩) (fun h => absurd h (Nat.lt_irrefl _)) _, ?_⟩
        rw [HHD.out]
        have := hex_wr (k := k) HB.out
        rwa [HV.out, HD0.out] at this
      case measure => simp [intOf]; omega
    · obtain rfl : k = 16 := by omega
      have hc := run_convert_bytes_back wr 69 9 5 ⟨w.heap.size, 0, none⟩ 16 (hexL u) Tryd.underlying69 Tryd.underlying5 Tryd.underlying9 (fun j hj => by
        have hj' : j < 16 := by simpa [hexL] using hj
        rw [show (⟨w.heap.size, 0, none⟩ : Addr).add j = ⟨w.heap.size, j, none⟩ from by unfold Addr.add; split <;> simp_all, cell_of_row _ _ _ _ _ _ hb, List.getElem?_toArray, hexJ_end u j hj', List.getD_eq_getElem?_getD, List.getElem?_eq_getElem hj]
        rfl)
      rw [show (hexL u).length = 16 from by simp [hexL]] at hc
      clear hp hb
      go_wp2_with fail
      go_ret
      exact ⟨rfl, HP.out⟩

end Go.Proofs.YtelkimgcbkmdmaaDoor
