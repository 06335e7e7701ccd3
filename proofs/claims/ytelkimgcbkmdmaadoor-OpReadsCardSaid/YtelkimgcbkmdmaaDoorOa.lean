/-
  Chapter 19: the contracts of the reference's small functions: decimal digits.
-/
import Derived.Test.YtelkimgcbkmdmaaDoorMem
import Derived.Lib.ItoaNum
import Derived.Laws.IdiomStrings
import Derived.IntWalk
namespace Go.Proofs.YtelkimgcbkmdmaaDoor
open Go.RowKit

theorem Src.row (w : World) (e : TypeId) (cs : Array Value) (size m B : Nat) (hl : cs.size = m * size) (hB : w.heap.size = B) : Src (w.alloc (.cells cs e)) size (some ⟨B, 0, none⟩) m cs.toList := by
  subst hB
  refine ⟨by simpa using hl, fun _ => ⟨_, 0, rfl, fun j u hu => ?_⟩⟩
  rw [cell_of_row _ w.heap.size _ cs e (0, 0) (heap_alloc_new w _), Nat.zero_add]
  simpa using hu

/-- Bytes as a string. -/
def str (l : List UInt8) : ByteArray := ⟨l.toArray⟩
theorem str_append (a b : List UInt8) : str a ++ str b = str (a ++ b) := by
  apply ByteArray.ext
  simp [str]
theorem str_list (l : List UInt8) : (str l).data.toList = l := by simp [str]
theorem str_size (l : List UInt8) : (str l).size = l.length := by simp [str, ByteArray.size]

theorem decDigits_len (n : Nat) : (Lib.decDigits n).length ≤ n + 1 := by
  induction n using Nat.strongRecOn with
  | _ n ih =>
    rw [Lib.decDigits]
    split
    · simp
    · have := ih (n / 10) (by omega)
      rw [List.length_append, List.length_singleton]
      omega
/-- A digit, made of a block of one byte. -/
theorem conv_one (w : World) (b : UInt8) (B : Nat) (hb : w.cell? ⟨B, 0, none⟩ = some (.int .u8 (b.toNat : Int))) : (convert 69 9 (.slice (some ⟨B, 0, none⟩) 1 1)).run Tryd.prog w = .ok (.string (str [b])) w :=
  run_convert_bytes_back w 69 9 5 ⟨B, 0, none⟩ 1 [b] Tryd.underlying69 Tryd.underlying5 Tryd.underlying9 (fun j hj => by
    have : j = 0 := by simp at hj; omega
    subst this
    exact hb)
theorem dig_nat (d : Nat) (h : d < 10) : (UInt8.ofNat (48 + d)).toNat = 48 + d := by
  rw [UInt8.toNat_ofNat']
  omega
theorem u8_dig (d : Nat) (h : d < 10) : IntKind.u8.wrap (48 + (d : Int)) = 48 + (d : Int) := by
  rcases (by omega : d = 0 ∨ d = 1 ∨ d = 2 ∨ d = 3 ∨ d = 4 ∨ d = 5 ∨ d = 6 ∨ d = 7 ∨ d = 8 ∨ d = 9) with rfl | rfl | rfl | rfl | rfl | rfl | rfl | rfl | rfl | rfl <;> rfl
/-- The block of a digit, as the walk has it. -/
theorem dig_block (w : World) (d : Nat) (h : d < 10) : (w.alloc (.cells #[.int .u8 (48 + (d : Int))] 5)).cell? ⟨w.heap.size, 0, none⟩ = some (.int .u8 ((UInt8.ofNat (48 + d)).toNat : Int)) := by
  rw [dig_nat d h, cell_of_row _ _ _ _ _ _ (heap_alloc_new w (.cells #[.int .u8 (48 + (d : Int))] 5))]
  simp

set_option maxRecDepth 100000 in
theorem dec_small (n : Nat) (w : World) (h : n < 10) : Calls Tryd.prog 31 #[.int .i64 n] w fun e w' => e = .returned (.string (str (Lib.decDigits n))) ∧ Pure w w' := by
  have h0 : ¬ (n : Int) < 0 := by omega
  have h1 : (n : Int) < 10 := by omega
  have hw := u8_dig n h
  have hc := conv_one _ _ _ (dig_block w n h)
  have hd : Lib.decDigits n = [UInt8.ofNat (48 + n)] := by rw [Lib.decDigits, dif_pos h]
  obtain ⟨b, hb⟩ : ∃ b, UInt8.ofNat (48 + n) = b := ⟨_, rfl⟩
  rw [hb] at hc hd
  have HD := Lib.hid hd
  clear hb hd
  go_enter Tryd.func31, Tryd.ntmps31
  go_wp2_with fail
  go_ret
  exact ⟨by rw [HD.out]; rfl, (Only.refl _ _).alloc _⟩

set_option maxRecDepth 100000 in
set_option maxHeartbeats 1000000 in
theorem dec_nat (n : Nat) : ∀ (w : World), n ≤ 9223372036854775807 → Calls Tryd.prog 31 #[.int .i64 n] w fun e w' => e = .returned (.string (str (Lib.decDigits n))) ∧ Pure w w' := by
  induction n using Nat.strongRecOn with
  | _ n ih =>
    intro w hn
    by_cases h : n < 10
    · exact dec_small n w h
    · have h0 : ¬ (n : Int) < 0 := by omega
      have h1 : ¬ (n : Int) < 10 := by omega
      have hd : Lib.decDigits n = Lib.decDigits (n / 10) ++ [UInt8.ofNat (48 + n % 10)] := by rw [Lib.decDigits, dif_neg h]
      have IH := Lib.hid (fun w => ih (n / 10) (by omega) w (by omega))
      have hdm : n % 10 < 10 := Nat.mod_lt _ (by decide)
      clear ih
      obtain ⟨q, hq0⟩ : ∃ q, n / 10 = q := ⟨_, rfl⟩
      obtain ⟨d, hd0⟩ : ∃ d, n % 10 = d := ⟨_, rfl⟩
      rw [hq0] at hd IH
      rw [hd0] at hd hdm
      have hq : Int.tdiv (n : Int) 10 = (q : Int) := by rw [← hq0]; rfl
      have hr : Int.tmod (n : Int) 10 = (d : Int) := by rw [← hd0]; rfl
      have hwq : IntKind.i64.wrap (q : Int) = (q : Int) := IntWalk.i64_in _ (by omega)
      have hw48 : IntKind.i64.wrap (48 + (d : Int)) = 48 + (d : Int) := IntWalk.i64_in _ (by omega)
      have hq' : (n : Int) / 10 = (q : Int) := by omega
      have hr' : (n : Int) % 10 = (d : Int) := by omega
      have hw := u8_dig d hdm
      have hc := fun (w : World) => conv_one _ _ _ (dig_block w d hdm)
      have hcd := fun (w : World) => conv_one (w.alloc (.cells #[.int .u8 (48 + (d : Int))] 5)).drew _ _ (dig_block w d hdm)
      have hc2 := fun (w w' : World) (hp : Pure (w.alloc (.cells #[.int .u8 (48 + (d : Int))] 5)) w') => conv_one w' _ _ (Pure.keep hp (dig_block w d hdm))
      have hq63 : q ≤ 922337203685477580 := by omega
      obtain ⟨b, hb⟩ : ∃ b, UInt8.ofNat (48 + d) = b := ⟨_, rfl⟩
      simp only [hb] at hc hcd hc2 hd
      have hsz : ¬ 9223372036854775807 < (str (Lib.decDigits q)).size + (str [b]).size := by
        have := decDigits_len q
        rw [str_size, str_size, List.length_singleton]; omega
      have HD := Lib.hid hd
      have HC2 := Lib.hid hc2
      clear hb hd hq0 hd0 hc2
      go_enter Tryd.func31, Tryd.ntmps31
      go_wp2_with fail
      go_region_with (first | (go_at_call 31; refine (IH.out _).mono ?_; rintro e w1 ⟨rfl, hp⟩; have HP := Lib.hid hp; have hcc : (convert 69 9 (.slice (some ⟨w.heap.size, 0, none⟩) 1 1)).run Tryd.prog w1 = .ok (.string (str [b])) w1 := HC2.out w w1 (Pure.then ((Only.refl _ _).drewN 1) hp); clear hp) | (go_at_call 31; refine (IH.out _).mono ?_; rintro e w1 ⟨rfl, hp⟩; have HP := Lib.hid hp; clear hp))
      all_goals
        go_wp2_with fail
        go_ret
        refine ⟨by rw [HD.out, ← str_append]; rfl, ?_⟩
        first
        | exact (Pure.then ((Only.refl _ w).drewN 1) HP.out).alloc _
        | exact Pure.then (((Only.refl _ w).alloc _).drewN 1) HP.out
        | exact Pure.then (((Only.refl _ w).drewN 1).alloc _) HP.out

/-- Negative ones. -/
theorem dec_neg_small (n : Nat) (w : World) (h0 : 0 < n) (h : n < 10) : Calls Tryd.prog 31 #[.int .i64 (-(n : Int))] w fun e w' => e = .returned (.string (str (45 :: Lib.decDigits n))) ∧ Pure w w' := by
  have h1 : -(n : Int) < 0 := by omega
  have hq : Int.tdiv (-(n : Int)) 10 = 0 := by rw [Int.neg_tdiv]; show -(((n / 10 : Nat) : Int)) = 0; omega
  have hr : Int.tmod (-(n : Int)) 10 = -(n : Int) := by rw [Int.neg_tmod]; show -(((n % 10 : Nat) : Int)) = _; omega
  have hw48 : IntKind.i64.wrap (48 - -(n : Int)) = 48 + (n : Int) := by rw [IntWalk.i64_in _ (by omega)]; omega
  have hw := u8_dig n h
  have hc := conv_one _ _ _ (dig_block w n h)
  have hd : Lib.decDigits n = [UInt8.ofNat (48 + n)] := by rw [Lib.decDigits, dif_pos h]
  obtain ⟨b, hb⟩ : ∃ b, UInt8.ofNat (48 + n) = b := ⟨_, rfl⟩
  rw [hb] at hc hd
  have hsz : (str [b]).size = 1 := by rw [str_size]; rfl
  have HD := Lib.hid hd
  clear hb hd
  go_enter Tryd.func31, Tryd.ntmps31
  go_wp2_with fail
  go_ret
  refine ⟨?_, (Only.refl _ _).alloc _⟩
  rw [HD.out]
  rfl

set_option maxRecDepth 100000 in
set_option maxHeartbeats 1000000 in
theorem dec_neg (n : Nat) (w : World) (h : ¬ n < 10) (hn : n ≤ 9223372036854775808) : Calls Tryd.prog 31 #[.int .i64 (-(n : Int))] w fun e w' => e = .returned (.string (str (45 :: Lib.decDigits n))) ∧ Pure w w' := by
  have h1 : -(n : Int) < 0 := by omega
  have hd : Lib.decDigits n = Lib.decDigits (n / 10) ++ [UInt8.ofNat (48 + n % 10)] := by rw [Lib.decDigits, dif_neg h]
  have IH := Lib.hid (fun w => dec_nat (n / 10) w (by omega))
  have hdm : n % 10 < 10 := Nat.mod_lt _ (by decide)
  obtain ⟨q, hq0⟩ : ∃ q, n / 10 = q := ⟨_, rfl⟩
  obtain ⟨d, hd0⟩ : ∃ d, n % 10 = d := ⟨_, rfl⟩
  have hq : Int.tdiv (-(n : Int)) 10 = -(q : Int) := by rw [Int.neg_tdiv]; show -(((n / 10 : Nat) : Int)) = _; omega
  have hr : Int.tmod (-(n : Int)) 10 = -(d : Int) := by rw [Int.neg_tmod]; show -(((n % 10 : Nat) : Int)) = _; omega
  have hqne : ¬ q = 0 := by omega
  rw [hq0] at hd IH
  rw [hd0] at hd hdm
  have hq63 : q ≤ 922337203685477580 := by omega
  have hwq : IntKind.i64.wrap (-(q : Int)) = -(q : Int) := IntWalk.i64_in _ (by omega)
  have hwq2 : IntKind.i64.wrap (q : Int) = (q : Int) := IntWalk.i64_in _ (by omega)
  have hw48 : IntKind.i64.wrap (48 + (d : Int)) = 48 + (d : Int) := IntWalk.i64_in _ (by omega)
  have hw48' : IntKind.i64.wrap (48 - -(d : Int)) = 48 + (d : Int) := by rw [IntWalk.i64_in _ (by omega)]; omega
  have hw := u8_dig d hdm
  have hc := fun (w : World) => conv_one _ _ _ (dig_block w d hdm)
  have hcd := fun (w : World) => conv_one (w.alloc (.cells #[.int .u8 (48 + (d : Int))] 5)).drew _ _ (dig_block w d hdm)
  have hc2 := fun (w w' : World) (hp : Pure (w.alloc (.cells #[.int .u8 (48 + (d : Int))] 5)) w') => conv_one w' _ _ (Pure.keep hp (dig_block w d hdm))
  obtain ⟨b, hb⟩ : ∃ b, UInt8.ofNat (48 + d) = b := ⟨_, rfl⟩
  simp only [hb] at hc hcd hc2 hd
  have hs0 : (str (Lib.decDigits q)).size ≤ 922337203685477581 := by
    have := decDigits_len q
    rw [str_size]; omega
  have hs1 : (str [b]).size = 1 := by rw [str_size]; rfl
  have hs2 : ByteArray.size { data := #[45] } = 1 := rfl
  have hs3 : (({ data := #[45] } : ByteArray) ++ str (Lib.decDigits q)).size ≤ 922337203685477582 := by rw [ByteArray.size_append]; omega
  have hsz1 : ¬ 9223372036854775807 < 1 + (str (Lib.decDigits q)).size := by omega
  have hsz2 : ¬ 9223372036854775807 < (({ data := #[45] } : ByteArray) ++ str (Lib.decDigits q)).size + 1 := by omega
  have hsz3 : ¬ 9223372036854775807 < 1 + (str (Lib.decDigits q)).size + 1 := by omega
  have HD := Lib.hid hd
  have HC2 := Lib.hid hc2
  clear hb hd hq0 hd0 hc2 hs3 hs0
  go_enter Tryd.func31, Tryd.ntmps31
  go_wp2_with fail
  go_region_with (first | (go_at_call 31; refine (IH.out _).mono ?_; rintro e w1 ⟨rfl, hp⟩; have HP := Lib.hid hp; have hcc : (convert 69 9 (.slice (some ⟨w.heap.size, 0, none⟩) 1 1)).run Tryd.prog w1 = .ok (.string (str [b])) w1 := HC2.out w w1 (Pure.then ((Only.refl _ _).drewN 1) hp); clear hp) | (go_at_call 31; refine (IH.out _).mono ?_; rintro e w1 ⟨rfl, hp⟩; have HP := Lib.hid hp; clear hp))
  all_goals
    go_wp2_with fail
    go_ret
    refine ⟨by rw [HD.out, show (45 : UInt8) :: (Lib.decDigits q ++ [b]) = ([45] ++ Lib.decDigits q) ++ [b] from by simp, ← str_append, ← str_append]; rfl, ?_⟩
    first
    | exact (Pure.then ((Only.refl _ w).drewN 1) HP.out).alloc _
    | exact Pure.then (((Only.refl _ w).alloc _).drewN 1) HP.out
    | exact Pure.then (((Only.refl _ w).drewN 1).alloc _) HP.out

/-- Decimal digits of any number. -/
theorem dec_any (x : Int) (w : World) (h0 : -9223372036854775808 ≤ x) (h1 : x ≤ 9223372036854775807) : Calls Tryd.prog 31 #[.int .i64 x] w fun e w' => e = .returned (.string (str (Lib.itoa x))) ∧ Pure w w' := by
  unfold Lib.itoa
  by_cases h : x < 0
  · rw [if_pos h]
    obtain ⟨n, hn⟩ := Int.eq_ofNat_of_zero_le (show 0 ≤ -x by omega)
    obtain rfl : x = -(n : Int) := by omega
    rw [show (-(n : Int)).natAbs = n from by omega]
    by_cases h10 : n < 10
    · exact dec_neg_small n w (by omega) h10
    · exact dec_neg n w h10 (by omega)
  · rw [if_neg h]
    obtain ⟨n, rfl⟩ := Int.eq_ofNat_of_zero_le (show 0 ≤ x by omega)
    rw [Int.toNat_natCast]
    exact dec_nat n w (by omega)

end Go.Proofs.YtelkimgcbkmdmaaDoor
