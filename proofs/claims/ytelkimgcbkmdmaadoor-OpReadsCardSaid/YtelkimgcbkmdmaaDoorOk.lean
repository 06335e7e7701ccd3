/-
  Chapter 19: op.hex; the contract of op.Print.
-/
import Derived.Test.YtelkimgcbkmdmaaDoorOj
import Derived.Laws.RangeString
namespace Go.Proofs.YtelkimgcbkmdmaaDoor
open Go.RowKit

def hexK (k u : Nat) : List UInt8 := (List.range k).map fun i => hd (u / 16 ^ (k - 1 - i) % 16)
theorem hexK_succ (k u : Nat) : hexK (k + 1) u = hexK k (u / 16) ++ [hd (u % 16)] := by
  unfold hexK
  rw [List.range_succ, List.map_append]
  congr 1
  · refine List.map_congr_left fun i hi => ?_
    have hi' : i < k := by simpa using hi
    rw [Nat.div_div_eq_div_mul, show k + 1 - 1 - i = (k - 1 - i) + 1 from by omega, Nat.pow_succ, Nat.mul_comm]
  · simp
theorem hexL_K (u : Nat) : hexL u = hexK 16 u := by
  unfold hexL hexK
  refine List.map_congr_left fun i hi => ?_
  have hi' : i < 16 := by simpa using hi
  rw [show 60 - 4 * i = 4 * (16 - 1 - i) from by omega, Nat.pow_mul]
theorem hexK_zero (k : Nat) : hexK k 0 = List.replicate k 48 := by
  unfold hexK
  simp only [Nat.zero_div, Nat.zero_mod]
  rw [show hd 0 = 48 from rfl]
  simp [List.map_const']
theorem hx_pad (k : Nat) : ∀ u, u < 16 ^ (k + 1) → (hxL u).length ≤ k + 1 ∧ List.replicate (k + 1 - (hxL u).length) 48 ++ hxL u = hexK (k + 1) u := by
  induction k with
  | zero =>
    intro u h
    have h' : u < 16 := by simpa using h
    rw [hxL_small u h', hexK_succ]
    refine ⟨by simp, ?_⟩
    rw [Nat.mod_eq_of_lt h']
    rfl
  | succ k ih =>
    intro u h
    rw [hexK_succ]
    by_cases h16 : u < 16
    · rw [hxL_small u h16, Nat.div_eq_of_lt h16, hexK_zero, Nat.mod_eq_of_lt h16]
      refine ⟨by simp, by simp⟩
    · have := ih (u / 16) (Nat.div_lt_of_lt_mul (by rw [Nat.mul_comm, ← Nat.pow_succ]; exact h))
      rw [hxL_big u h16]
      refine ⟨by rw [List.length_append, List.length_singleton]; omega, ?_⟩
      rw [List.length_append, List.length_singleton, ← this.2, show k + 1 + 1 - ((hxL (u / 16)).length + 1) = k + 1 - (hxL (u / 16)).length from by omega, List.append_assoc]
theorem hx_all (u : Nat) (h : u < 18446744073709551616) : (hxL u).length ≤ 16 ∧ List.replicate (16 - (hxL u).length) 48 ++ hxL u = hexL u := by
  rw [hexL_K]
  exact hx_pad 15 u h
theorem repeat_one (c : Nat) : Lib.repeatL [48] c = List.replicate c 48 := by
  induction c with
  | zero => rfl
  | succ c ih => rw [Lib.repeatL, ih]; rfl

theorem fmt16i (u : Nat) (w : World) (hu : u < 18446744073709551616) (h : Env w) : Calls Tryd.prog 51 #[.int .u64 u, .int .i64 16] w fun e w' => e = .returned (.string (str (hxL u))) ∧ Pure w w' := by
  have H := Lib.hid h
  clear h
  go_enter Tryd.func51, Tryd.ntmps51
  go_wp2_with fail
  refine (bits16 u _ hu H.out).mono ?_
  rintro e w1 ⟨rfl, hp⟩
  have HP := Lib.hid hp
  clear hp
  go_wp2_with fail
  go_ret
  exact ⟨rfl, HP.out⟩
theorem fmt16 (u : Nat) (w : World) (hu : u < 18446744073709551616) (h : Env w) : Calls Tryd.prog 35 #[.int .u64 u, .int .i64 16] w fun e w' => e = .returned (.string (str (hxL u))) ∧ Pure w w' := by
  have H := Lib.hid h
  clear h
  go_enter Tryd.func35, Tryd.ntmps35
  go_wp2_with fail
  refine (fmt16i u _ hu H.out).mono ?_
  rintro e w1 ⟨rfl, hp⟩
  have HP := Lib.hid hp
  clear hp
  go_wp2_with fail
  go_ret
  exact ⟨rfl, HP.out⟩
theorem repeat0 (c : Nat) (w : World) (hc : c ≤ 16) : Calls Tryd.prog 36 #[.string { data := #[48] }, .int .i64 c] w fun e w' => e = .returned (.string (str (List.replicate c 48))) ∧ Pure w w' :=
  (Tryd.strings_Repeat { data := #[48] } c w (by omega) (by show 1 * c ≤ _; omega)).mono fun e w' ⟨a, b⟩ => ⟨by rw [a]; show Ending.returned (.string (str (Lib.repeatL [48] c))) = _; rw [repeat_one], Only.of_below b _⟩

set_option maxRecDepth 100000 in
theorem ohex_any (u : Nat) (w : World) (hu : u < 18446744073709551616) (h : Env w) : Calls Tryd.prog 22 #[.int .u64 u] w fun e w' => e = .returned (.string (str (hexL u))) ∧ Pure w w' := by
  obtain ⟨h1, h2⟩ := hx_all u hu
  obtain ⟨X, hX⟩ : ∃ X, hxL u = X := ⟨_, rfl⟩
  obtain ⟨n, hn⟩ : ∃ n, X.length = n := ⟨_, rfl⟩
  have hf := fmt16 u w hu h
  rw [hX] at h1 h2 hf
  have hsz : (str X).size = n := by rw [str_size, hn]
  rw [hn] at h1 h2
  have hc : (16 : Int) - (n : Int) = ((16 - n : Nat) : Int) := by omega
  have hs2 : ¬ 9223372036854775807 < (str (List.replicate (16 - n) 48)).size + n := by rw [str_size]; simp; omega
  have HF := Lib.hid hf
  have H2 := Lib.hid h2
  clear hf h h2 hX hn
  go_enter Tryd.func22, Tryd.ntmps22
  go_wp2_with fail
  refine HF.out.mono ?_
  rintro e w1 ⟨rfl, hp⟩
  have HP := Lib.hid hp
  clear hp
  go_wp2_with fail
  refine (repeat0 (16 - n) _ (by omega)).mono ?_
  rintro e w2 ⟨rfl, hp⟩
  have HP2 := Lib.hid (HP.out.then hp)
  clear hp
  go_wp2_with fail
  go_ret
  exact ⟨by rw [← H2.out, ← str_append]; rfl, HP2.out⟩
theorem oitoa (x : Int) (w : World) (h0 : -9223372036854775808 ≤ x) (h1 : x ≤ 9223372036854775807) (h : Env w) : Calls Tryd.prog 23 #[.int .i64 x] w fun e w' => e = .returned (.string (str (Lib.itoa x))) ∧ Pure w w' :=
  (Tryd.strconv_Itoa x h0 h1 w h.tab).mono fun e w' ⟨a, k, os, b⟩ => ⟨a, by
    subst b
    have hb : Below w.heap.size w («Sort».grow (w.drewN k) os) := ⟨rfl, rfl, rfl, by simp [«Sort».grow], fun i hi => by simp [«Sort».grow, Array.getElem?_append_left hi]⟩
    exact Only.of_below hb _⟩

end Go.Proofs.YtelkimgcbkmdmaaDoor
