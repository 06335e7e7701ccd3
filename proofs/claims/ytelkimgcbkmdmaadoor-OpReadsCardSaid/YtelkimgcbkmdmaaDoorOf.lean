/-
  Chapter 19: the contracts of op.words, op.field, op.of, the reference's word, and of both readings of a complex number's bits.
-/
import Derived.Test.YtelkimgcbkmdmaaDoorOe
import Derived.Laws.Cover2
import Derived.Laws.Cover3
import Derived.Laws.ComplexArith
import Derived.Deep.QuietTactic
namespace Go.Proofs.YtelkimgcbkmdmaaDoor
open Go.RowKit

/-- What 'part' tells of a part's bits. -/
def partB (b : Nat) : Nat := if FloatKind.f64.format.order b b = some .eq then b else 9221120237041090560

theorem bits_run (b : Nat) (w : World) : (callFunc 33 #[.float .f64 b]).run Tryd.prog w = .ok (.value (.int .u64 (b : Int))) w := rfl

theorem part_any (b : Nat) (w : World) : Calls Tryd.prog 34 #[.float .f64 b] w fun e w' => e = .returned (.int .u64 (partB b)) ∧ w = w' := by
  by_cases h : FloatKind.f64.format.order b b = some .eq
  · have h1 : (FloatKind.f64.format.order b b != some .eq) = false := by rw [h]; rfl
    have hb := bits_run b
    have e : partB b = b := by rw [partB, if_pos h]
    clear h
    go_enter Tryd.func34, Tryd.ntmps34
    go_wp2
    go_ret
    exact ⟨by rw [e]; rfl, rfl⟩
  · have h1 : (FloatKind.f64.format.order b b != some .eq) = true := by rw [bne_iff_ne]; exact h
    have e : partB b = 9221120237041090560 := by rw [partB, if_neg h]
    clear h
    go_enter Tryd.func34, Tryd.ntmps34
    go_wp2
    go_ret
    exact ⟨by rw [e]; rfl, rfl⟩

theorem bits_any (a b : Nat) (w : World) : Calls Tryd.prog 21 #[.complex .f64 a b] w fun e w' => e = .returned (.tuple #[.int .u64 (partB a), .int .u64 (partB b)]) ∧ w = w' := by
  go_enter Tryd.func21, Tryd.ntmps21
  go_wp2_with fail
  refine (part_any a w).mono ?_
  rintro e w1 ⟨rfl, rfl⟩
  go_wp2_with fail
  refine (part_any b w).mono ?_
  rintro e w1 ⟨rfl, rfl⟩
  go_wp2
  go_ret2
  exact ⟨rfl, rfl⟩

theorem compare_self (x : Int) : compare x x = .eq := by simp [compare, compareOfLessAndEq]
theorem order_self (b : Nat) : (FloatKind.f64.format.order b b = some .eq) ↔ ¬ 9218868437227405312 < b % 9223372036854775808 := by
  have hsw : Ieee.double.signWeight = 9223372036854775808 := by decide
  have hbin : Ieee.double.binade = 4503599627370496 := by decide
  have hinf : Ieee.double.infRung = 9218868437227405312 := by decide
  show Ieee.double.order b b = some .eq ↔ _
  unfold Ieee.Format.order Ieee.Format.read
  dsimp only
  rw [hsw, hbin, hinf]
  generalize b % 9223372036854775808 = r
  by_cases h1 : r < 4503599627370496
  · rw [if_pos h1]
    simp only [Ieee.Datum.order, compare_self, true_iff]
    omega
  · rw [if_neg h1]
    by_cases h2 : r < 9218868437227405312
    · rw [if_pos h2]
      simp only [Ieee.Datum.order, compare_self, true_iff]
      omega
    · rw [if_neg h2]
      by_cases h3 : r = 9218868437227405312
      · rw [if_pos h3]
        have hc : ∀ u : Bool, compare u.toNat u.toNat = .eq := by intro u; cases u <;> rfl
        simp only [Ieee.Datum.order, hc, true_iff]
        omega
      · rw [if_neg h3]
        simp only [Ieee.Datum.order]
        constructor
        · intro h; cases h
        · intro h; omega

theorem rbits_part (b : Nat) (w : World) (_hb : b < 18446744073709551616) : Calls Tryd.prog 20 #[.float .f64 b] w fun e w' => e = .returned (.int .u64 (partB b)) ∧ w = w' := by
  have hbr := bits_run b
  by_cases h : 9218868437227405312 < b % 9223372036854775808
  · have e : partB b = 9221120237041090560 := by rw [partB, if_neg]; rw [order_self]; omega
    have h1 : 18437736874454810624 < IntKind.u64.wrap ((b : Int) * 2) := by rw [IntKind.wrap_u64]; omega
    have E := Lib.hid e
    clear e
    go_enter Tryd.func20, Tryd.ntmps20
    go_wp2
    go_ret
    exact ⟨by rw [E.out]; rfl, rfl⟩
  · have e : partB b = b := by rw [partB, if_pos]; rw [order_self]; exact h
    have h1 : ¬ 18437736874454810624 < IntKind.u64.wrap ((b : Int) * 2) := by rw [IntKind.wrap_u64]; omega
    have E := Lib.hid e
    clear e
    go_enter Tryd.func20, Tryd.ntmps20
    go_wp2
    go_ret
    exact ⟨by rw [E.out]; rfl, rfl⟩


theorem rbits_any (a b : Nat) (w : World) (ha : a < 18446744073709551616) (hb : b < 18446744073709551616) : Calls Tryd.prog 7 #[.complex .f64 a b] w fun e w' => e = .returned (.tuple #[.int .u64 (partB a), .int .u64 (partB b)]) ∧ w = w' := by
  go_enter Tryd.func7, Tryd.ntmps7
  go_wp2_with fail
  refine (rbits_part a w ha).mono ?_
  rintro e w1 ⟨rfl, rfl⟩
  go_wp2_with fail
  refine (rbits_part b w hb).mono ?_
  rintro e w1 ⟨rfl, rfl⟩
  go_wp2
  go_ret2
  exact ⟨rfl, rfl⟩

/-- The words, and what is named behind each. -/
def wl : List (ByteArray × ByteArray) := [(⟨#[]⟩, ⟨#[]⟩), (⟨#[110, 101, 119]⟩, ⟨#[97, 107]⟩), (⟨#[97, 114, 114, 97, 121]⟩, ⟨#[97, 107, 110]⟩), (⟨#[108, 111, 97, 100]⟩, ⟨#[97, 98, 110]⟩), (⟨#[115, 116, 111, 114, 101]⟩, ⟨#[97, 110, 98]⟩), (⟨#[103, 101, 116]⟩, ⟨#[97, 98, 110]⟩), (⟨#[112, 117, 116]⟩, ⟨#[97, 110, 98]⟩), (⟨#[108, 111, 111, 107]⟩, ⟨#[97, 103]⟩), (⟨#[115, 101, 116]⟩, ⟨#[103, 98]⟩), (⟨#[115, 97, 109, 101]⟩, ⟨#[97, 98, 99]⟩), (⟨#[108, 101, 110, 103, 116, 104]⟩, ⟨#[97, 98]⟩), (⟨#[107, 105, 110, 100]⟩, ⟨#[97, 98]⟩), (⟨#[110, 117, 109, 98, 101, 114]⟩, ⟨#[97, 122]⟩), (⟨#[99, 108, 101, 97, 114]⟩, ⟨#[97]⟩), (⟨#[99, 111, 112, 121]⟩, ⟨#[97, 98]⟩), (⟨#[97, 100, 100]⟩, ⟨#[97, 98, 99]⟩), (⟨#[109, 117, 108]⟩, ⟨#[97, 98, 99]⟩), (⟨#[99, 111, 108, 108, 101, 99, 116]⟩, ⟨#[]⟩), (⟨#[108, 101, 97, 118, 101]⟩, ⟨#[]⟩)]
def wdW (k : Nat) : ByteArray := (wl.getD k (⟨#[]⟩, ⟨#[]⟩)).1
def wdN (k : Nat) : ByteArray := (wl.getD k (⟨#[]⟩, ⟨#[]⟩)).2
def wcs : Array Value := #[.string ⟨#[]⟩, .string ⟨#[]⟩, .string ⟨#[110, 101, 119]⟩, .string ⟨#[97, 107]⟩, .string ⟨#[97, 114, 114, 97, 121]⟩, .string ⟨#[97, 107, 110]⟩, .string ⟨#[108, 111, 97, 100]⟩, .string ⟨#[97, 98, 110]⟩, .string ⟨#[115, 116, 111, 114, 101]⟩, .string ⟨#[97, 110, 98]⟩, .string ⟨#[103, 101, 116]⟩, .string ⟨#[97, 98, 110]⟩, .string ⟨#[112, 117, 116]⟩, .string ⟨#[97, 110, 98]⟩, .string ⟨#[108, 111, 111, 107]⟩, .string ⟨#[97, 103]⟩, .string ⟨#[115, 101, 116]⟩, .string ⟨#[103, 98]⟩, .string ⟨#[115, 97, 109, 101]⟩, .string ⟨#[97, 98, 99]⟩, .string ⟨#[108, 101, 110, 103, 116, 104]⟩, .string ⟨#[97, 98]⟩, .string ⟨#[107, 105, 110, 100]⟩, .string ⟨#[97, 98]⟩, .string ⟨#[110, 117, 109, 98, 101, 114]⟩, .string ⟨#[97, 122]⟩, .string ⟨#[99, 108, 101, 97, 114]⟩, .string ⟨#[97]⟩, .string ⟨#[99, 111, 112, 121]⟩, .string ⟨#[97, 98]⟩, .string ⟨#[97, 100, 100]⟩, .string ⟨#[97, 98, 99]⟩, .string ⟨#[109, 117, 108]⟩, .string ⟨#[97, 98, 99]⟩, .string ⟨#[99, 111, 108, 108, 101, 99, 116]⟩, .string ⟨#[]⟩, .string ⟨#[108, 101, 97, 118, 101]⟩, .string ⟨#[]⟩]
theorem wcs_at (k : Nat) (hk : k < 19) : wcs[k * 2]? = some (.string (wdW k)) ∧ wcs[k * 2 + 1]? = some (.string (wdN k)) := by
  rcases (by omega : k = 0 ∨ k = 1 ∨ k = 2 ∨ k = 3 ∨ k = 4 ∨ k = 5 ∨ k = 6 ∨ k = 7 ∨ k = 8 ∨ k = 9 ∨ k = 10 ∨ k = 11 ∨ k = 12 ∨ k = 13 ∨ k = 14 ∨ k = 15 ∨ k = 16 ∨ k = 17 ∨ k = 18) with rfl | rfl | rfl | rfl | rfl | rfl | rfl | rfl | rfl | rfl | rfl | rfl | rfl | rfl | rfl | rfl | rfl | rfl | rfl <;> exact ⟨rfl, rfl⟩

set_option maxRecDepth 100000 in
set_option maxHeartbeats 1000000 in
theorem words_any (k : Nat) (hk : k < 19) (w : World) : Calls Tryd.prog 11 #[.int .i64 k] w fun e w' => e = .returned (.tuple #[.string (wdW k), .string (wdN k)]) ∧ Pure w w' := by
  have hb := heap_alloc_new w (.cells wcs 57)
  have c0 : (w.alloc (.cells wcs 57)).cell? ⟨w.heap.size, k * 2, none⟩ = some (.string (wdW k)) := by rw [cell_of_row _ _ _ _ _ (0, 0) hb]; exact (wcs_at k hk).1
  have c1 : (w.alloc (.cells wcs 57)).cell? ⟨w.heap.size, k * 2 + 1, none⟩ = some (.string (wdN k)) := by rw [cell_of_row _ _ _ _ _ (0, 0) hb]; exact (wcs_at k hk).2
  have C0 := Lib.hid c0
  have C1 := Lib.hid c1
  have hp := Lib.hid ((Only.refl (fun _ => False) w).alloc (.cells wcs 57))
  have h0 : (0 : Int) ≤ (k : Int) := by omega
  have h1 : (k : Int) < 19 := by omega
  clear hb c0 c1
  go_enter Tryd.func11, Tryd.ntmps11
  unfold wcs at C0 C1 hp
  go_wp2_with fail
  generalize w.alloc (.cells #[.string ⟨#[]⟩, .string ⟨#[]⟩, .string ⟨#[110, 101, 119]⟩, .string ⟨#[97, 107]⟩, .string ⟨#[97, 114, 114, 97, 121]⟩, .string ⟨#[97, 107, 110]⟩, .string ⟨#[108, 111, 97, 100]⟩, .string ⟨#[97, 98, 110]⟩, .string ⟨#[115, 116, 111, 114, 101]⟩, .string ⟨#[97, 110, 98]⟩, .string ⟨#[103, 101, 116]⟩, .string ⟨#[97, 98, 110]⟩, .string ⟨#[112, 117, 116]⟩, .string ⟨#[97, 110, 98]⟩, .string ⟨#[108, 111, 111, 107]⟩, .string ⟨#[97, 103]⟩, .string ⟨#[115, 101, 116]⟩, .string ⟨#[103, 98]⟩, .string ⟨#[115, 97, 109, 101]⟩, .string ⟨#[97, 98, 99]⟩, .string ⟨#[108, 101, 110, 103, 116, 104]⟩, .string ⟨#[97, 98]⟩, .string ⟨#[107, 105, 110, 100]⟩, .string ⟨#[97, 98]⟩, .string ⟨#[110, 117, 109, 98, 101, 114]⟩, .string ⟨#[97, 122]⟩, .string ⟨#[99, 108, 101, 97, 114]⟩, .string ⟨#[97]⟩, .string ⟨#[99, 111, 112, 121]⟩, .string ⟨#[97, 98]⟩, .string ⟨#[97, 100, 100]⟩, .string ⟨#[97, 98, 99]⟩, .string ⟨#[109, 117, 108]⟩, .string ⟨#[97, 98, 99]⟩, .string ⟨#[99, 111, 108, 108, 101, 99, 116]⟩, .string ⟨#[]⟩, .string ⟨#[108, 101, 97, 118, 101]⟩, .string ⟨#[]⟩] 57) = W at *
  generalize w.heap.size = B at *
  have c0 := C0.out
  have c1 := C1.out
  obtain ⟨sw, hsw⟩ : ∃ s, wdW k = s := ⟨_, rfl⟩
  obtain ⟨sn, hsn⟩ : ∃ s, wdN k = s := ⟨_, rfl⟩
  rw [hsw] at c0
  rw [hsn] at c1
  have SW := Lib.hid hsw
  have SN := Lib.hid hsn
  clear hsw hsn
  go_quiet (fail)
  go_wp2_with fail
  go_ret2
  exact ⟨by rw [SW.out, SN.out]; rfl, hp.out.drewN _⟩

theorem field_any (X : Nat) (c : Int) (o : Nat) (w : World) (h : (c = 97 ∧ o = 1) ∨ ((c = 98 ∨ c = 107) ∧ o = 2) ∨ (c = 99 ∧ o = 3) ∨ ((c = 110 ∨ c = 103) ∧ o = 4)) :
    Calls Tryd.prog 13 #[.pointer (some ⟨X, 0, none⟩), .int .i32 c] w fun e w' => e = .returned (.pointer (some ⟨X, o, none⟩)) ∧ w = w' := by
  rcases h with ⟨rfl, rfl⟩ | ⟨rfl | rfl, rfl⟩ | ⟨rfl, rfl⟩ | ⟨rfl | rfl, rfl⟩
  all_goals
    go_enter Tryd.func13, Tryd.ntmps13
    go_wp2_with fail
    go_ret
    exact ⟨rfl, rfl⟩


/-! ### As lists of bytes -/
def kwL : List (List UInt8) := [[], [110, 101, 119], [97, 114, 114, 97, 121], [108, 111, 97, 100], [115, 116, 111, 114, 101], [103, 101, 116], [112, 117, 116], [108, 111, 111, 107], [115, 101, 116], [115, 97, 109, 101], [108, 101, 110, 103, 116, 104], [107, 105, 110, 100], [110, 117, 109, 98, 101, 114], [99, 108, 101, 97, 114], [99, 111, 112, 121], [97, 100, 100], [109, 117, 108], [99, 111, 108, 108, 101, 99, 116], [108, 101, 97, 118, 101]]
def knL : List (List UInt8) := [[], [97, 107], [97, 107, 110], [97, 98, 110], [97, 110, 98], [97, 98, 110], [97, 110, 98], [97, 103], [103, 98], [97, 98, 99], [97, 98], [97, 98], [97, 122], [97], [97, 98], [97, 98, 99], [97, 98, 99], [], []]
def rnL : List (List UInt8) := [[], [65, 107], [65, 107, 78], [65, 66, 78], [65, 78, 66], [65, 66, 78], [65, 78, 66], [65, 78], [78, 66], [65, 66, 67], [65, 66], [65, 66], [65, 122], [65], [65, 66], [65, 66, 67], [65, 66, 67], [], []]
def kw (k : Nat) : List UInt8 := kwL.getD k []
def kn (k : Nat) : List UInt8 := knL.getD k []
def rn (k : Nat) : List UInt8 := rnL.getD k []
theorem wd_kw (k : Nat) (hk : k < 19) : wdW k = str (kw k) ∧ wdN k = str (kn k) := by
  rcases (by omega : k = 0 ∨ k = 1 ∨ k = 2 ∨ k = 3 ∨ k = 4 ∨ k = 5 ∨ k = 6 ∨ k = 7 ∨ k = 8 ∨ k = 9 ∨ k = 10 ∨ k = 11 ∨ k = 12 ∨ k = 13 ∨ k = 14 ∨ k = 15 ∨ k = 16 ∨ k = 17 ∨ k = 18) with rfl | rfl | rfl | rfl | rfl | rfl | rfl | rfl | rfl | rfl | rfl | rfl | rfl | rfl | rfl | rfl | rfl | rfl | rfl <;> exact ⟨rfl, rfl⟩
theorem words_l (k : Nat) (hk : k < 19) (w : World) : Calls Tryd.prog 11 #[.int .i64 k] w fun e w' => e = .returned (.tuple #[.string (str (kw k)), .string (str (kn k))]) ∧ Pure w w' := by
  have h := words_any k hk w
  rwa [(wd_kw k hk).1, (wd_kw k hk).2] at h
set_option maxRecDepth 100000 in
theorem word_l (k : Nat) (h0 : 0 < k) (hk : k < 19) (w : World) : Calls Tryd.prog 17 #[.int .i64 k] w fun e w' => e = .returned (.tuple #[.string (str (kw k)), .string (str (rn k))]) ∧ w = w' := by
  rcases (by omega : k = 1 ∨ k = 2 ∨ k = 3 ∨ k = 4 ∨ k = 5 ∨ k = 6 ∨ k = 7 ∨ k = 8 ∨ k = 9 ∨ k = 10 ∨ k = 11 ∨ k = 12 ∨ k = 13 ∨ k = 14 ∨ k = 15 ∨ k = 16 ∨ k = 17 ∨ k = 18) with rfl | rfl | rfl | rfl | rfl | rfl | rfl | rfl | rfl | rfl | rfl | rfl | rfl | rfl | rfl | rfl | rfl | rfl
  all_goals
    go_enter Tryd.func17, Tryd.ntmps17
    go_wp2_with fail
    go_ret2
    exact ⟨rfl, rfl⟩

/-- The kind of a word; 0: of none. -/
def ofK (x : List UInt8) : Nat := ((List.range 19).find? fun k => decide (0 < k) && decide (kw k = x)).getD 0
theorem ofK_lt (x : List UInt8) : ofK x < 19 := by
  unfold ofK
  cases h : (List.range 19).find? fun k => decide (0 < k) && decide (kw k = x) with
  | none => simp
  | some k => simpa using List.mem_of_find?_eq_some h
theorem ofK_some (x : List UInt8) (k : Nat) (h0 : 0 < k) (hk : k < 19) (hx : kw k = x) (hno : ∀ j, 0 < j → j < k → kw j ≠ x) : ofK x = k := by
  unfold ofK
  have : (List.range 19).find? (fun k => decide (0 < k) && decide (kw k = x)) = some k := by
    rw [List.find?_range_eq_some]
    refine ⟨by simp [h0, hx], by simpa using hk, fun j hj => ?_⟩
    by_cases hj0 : 0 < j
    · simp [hno j hj0 hj]
    · simp [hj0]
  rw [this]; rfl
theorem ofK_none (x : List UInt8) (hno : ∀ j, 0 < j → j < 19 → kw j ≠ x) : ofK x = 0 := by
  unfold ofK
  have : (List.range 19).find? (fun k => decide (0 < k) && decide (kw k = x)) = none := by
    rw [List.find?_eq_none]
    intro j hj
    by_cases hj0 : 0 < j
    · simp [hno j hj0 (by simpa using hj)]
    · simp [hj0]
  rw [this]; rfl

set_option maxRecDepth 100000 in
set_option maxHeartbeats 1000000 in
theorem of_any (x : List UInt8) (w : World) : Calls Tryd.prog 10 #[.string (str x)] w fun e w' => e = .returned (.int .i64 (ofK x)) ∧ Pure w w' := by
  go_enter Tryd.func10, Tryd.ntmps10
  go_wp2_with fail
  go_loopw [3] (fun i wr => ∃ k : Nat, 1 ≤ k ∧ k ≤ 19 ∧ i = .int .i64 k ∧ Pure w wr ∧ ∀ j, 0 < j → j < k → kw j ≠ x) (fun i _ => 19 - (intOf i).toNat)
  case atStart => exact ⟨1, by omega, by omega, rfl, Only.refl _ _, fun j h0 h1 => by omega⟩
  case round =>
    obtain ⟨k, hk0, hk, rfl, hp, hno⟩ := hrel
    have HP := Lib.hid hp
    have HNO := Lib.hid hno
    clear hp hno
    by_cases hlt : k < 19
    · go_wp2_with fail
      refine (words_l k hlt _).mono ?_
      rintro e w1 ⟨rfl, hp1⟩
      have HP1 := Lib.hid (HP.out.then hp1)
      clear hp1
      by_cases hx : kw k = x
      · have hb : ((str (kw k)).toList == (str x).toList) = true := by rw [str_toList, str_toList]; simp [hx]
        have HX := Lib.hid hx
        clear hx
        go_wp2_with fail
        go_ret
        exact ⟨by rw [ofK_some x k hk0 hlt HX.out HNO.out]; rfl, HP1.out⟩
      · have hb : ((str (kw k)).toList == (str x).toList) = false := by rw [str_toList, str_toList]; simp [hx]
        have HX := Lib.hid hx
        clear hx
        go_wp2_with fail
        go_roundw
        case rel => exact ⟨k + 1, by omega, by omega, by go_num, HP1.out, fun j h0 h1 => by
          by_cases hj : j = k
          · subst hj; exact HX.out
          · exact HNO.out j h0 (by omega)⟩
        case measure => simp [intOf]; omega
    · obtain rfl : k = 19 := by omega
      go_wp2_with fail
      go_ret
      exact ⟨by rw [ofK_none x HNO.out]; rfl, HP.out⟩

end Go.Proofs.YtelkimgcbkmdmaaDoor
