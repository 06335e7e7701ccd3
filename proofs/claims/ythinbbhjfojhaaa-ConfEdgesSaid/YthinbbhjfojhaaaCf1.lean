/-
  ConfSmall: the smallest configuration may be, and each of its numbers one less may not. For every input.
-/
import Derived.Test.YthinbbhjfojhaaaCheck
import Derived.Laws.BitsAllLaws
import Derived.Laws.BitsLemmas
namespace Go.Proofs.Ythinbbhjfojhaaa.confSmall
open Go.RowKit Go.ChangeShapes Go.WideShapes Go.ChangeAt

/-- One shape in a block of its own. -/
theorem one_shape (a : Bool) (v : Value) (bs : List Bool) (w : World) (T : TypeId) (h : SlG w w.heap.size v (bools bs)) :
    ShsR (w.alloc (.cells #[.bool a, v] T)) (w.alloc (.cells #[.bool a, v] T)).heap.size (.slice (some ⟨w.heap.size, 0, none⟩) 1 1) [⟨a, v, bs⟩] := by
  refine ⟨⟨_, 1, rfl, Nat.le_refl _, by simp, fun _ => ⟨w.heap.size, 0, rfl, by simp, fun j s hj => ?_⟩⟩, fun s hs => ?_⟩
  · match j, hj with
    | 0, hj => simp at hj; subst hj; exact ⟨by simp, by simp⟩
    | j + 1, hj => simp at hj
  · simp at hs
    subst hs
    exact h.pure ((Only.refl (fun _ => False) w).alloc _)

abbrev least : Cn := ⟨4, 0, 0, 1, 1, 0, 1, 0⟩
theorem least_may (v : Value) (bs : List Bool) (h : bs.length ≤ 40) : checkI least [⟨false, v, bs⟩] = 0 := by
  simp [checkI, tests, withinB, mayAll, mayB, h]

/-- A configuration in block X, made after the world w. -/
def Row (w : World) (X : Nat) (c : Cn) (v : Value) (w' : World) : Prop :=
  w.heap.size ≤ X ∧ w'.heap[X]? = some (.cells #[.int .i64 c.frags, .int .i64 c.spine, .int .i64 c.globals, .int .i64 c.threads, .int .i64 c.locals, .int .i64 c.cache, .int .i64 c.stack, .int .i64 c.low, v] 24 (0, 0)) ∧ Pure w w'
theorem Row.keep {w : World} {X : Nat} {c : Cn} {v : Value} {a b : World} (h : Row w X c v a) (k : Pure a b) : Row w X c v b :=
  ⟨h.1, (k.block X (Array.getElem?_eq_some_iff.1 h.2.1).1 (fun f => f)).trans h.2.1, h.2.2.then k⟩
theorem Row.cells {w : World} {X : Nat} {c : Cn} {v : Value} {a : World} (h : Row w X c v a) :
    a.cell? ⟨X, 0, none⟩ = some (.int .i64 c.frags) ∧ a.cell? ⟨X, 1, none⟩ = some (.int .i64 c.spine) ∧ a.cell? ⟨X, 2, none⟩ = some (.int .i64 c.globals) ∧ a.cell? ⟨X, 3, none⟩ = some (.int .i64 c.threads) ∧
    a.cell? ⟨X, 4, none⟩ = some (.int .i64 c.locals) ∧ a.cell? ⟨X, 5, none⟩ = some (.int .i64 c.cache) ∧ a.cell? ⟨X, 6, none⟩ = some (.int .i64 c.stack) ∧ a.cell? ⟨X, 7, none⟩ = some (.int .i64 c.low) ∧ a.cell? ⟨X, 8, none⟩ = some v ∧ ∀ q, a.frozen? ⟨X, q, none⟩ = false := by
  refine ⟨?_, ?_, ?_, ?_, ?_, ?_, ?_, ?_, ?_, fun q => frozen_of_row a X q _ _ h.2.1⟩ <;> (rw [cell_of_row a X _ _ _ _ h.2.1]; rfl)
theorem Row.new (w : World) (c : Cn) (v : Value) : Row w w.heap.size c v (w.alloc (.cells #[.int .i64 c.frags, .int .i64 c.spine, .int .i64 c.globals, .int .i64 c.threads, .int .i64 c.locals, .int .i64 c.cache, .int .i64 c.stack, .int .i64 c.low, v] 24)) :=
  ⟨Nat.le_refl _, heap_alloc_new w _, (Only.refl _ _).alloc _⟩

theorem Row.keepSet {w : World} {X j : Nat} {c : Cn} {v u : Value} {a b : World} (h : Row w X c v a) (c' : Cn) (k : Pure (a.setCell ⟨X, j, none⟩ u) b)
    (e : #[Value.int .i64 c.frags, .int .i64 c.spine, .int .i64 c.globals, .int .i64 c.threads, .int .i64 c.locals, .int .i64 c.cache, .int .i64 c.stack, .int .i64 c.low, v].setIfInBounds j u =
      #[.int .i64 c'.frags, .int .i64 c'.spine, .int .i64 c'.globals, .int .i64 c'.threads, .int .i64 c'.locals, .int .i64 c'.cache, .int .i64 c'.stack, .int .i64 c'.low, v]) : Row w X c' v b := by
  have h1 : Row w X c' v (a.setCell ⟨X, j, none⟩ u) := by
    refine ⟨h.1, ?_, h.2.2.setCell (fun h' => Nat.not_lt.2 h.1 h') u⟩
    rw [← e]
    simp [World.setCell, Array.getElem?_modify, h.2.1]
  exact h1.keep k

theorem first_any (w : World) : Calls Try.prog 8 #[] w fun e w' => e = .returned (.bool true) ∧ Pure w w' := by
  have hl := Lib.hid (one_shape false (.slice none 0 0) [] w 32 ⟨none, 0, by first | rfl | simp [bools], by simp [bools], by simp, by simp [bools]⟩)
  have P0 := Lib.hid ((Only.refl (fun _ => False) w).alloc (.cells #[.bool false, .slice none 0 0] 32))
  go_enter Try.func8, Try.ntmps8
  go_wp2_with fail
  have hr := Row.new (w.alloc (.cells #[.bool false, .slice none 0 0] 32)) least (.slice (some ⟨w.heap.size, 0, none⟩) 1 1)
  rw [show (w.alloc (.cells #[.bool false, .slice none 0 0] 32)).heap.size = w.heap.size + 1 from by simp] at hr
  generalize (w.alloc (.cells #[.bool false, .slice none 0 0] 32)).alloc _ = W1 at hr ⊢
  generalize w.heap.size + 1 = X at hr ⊢
  generalize w.alloc (.cells #[.bool false, .slice none 0 0] 32) = W0 at *
  generalize w.heap.size = Y at hl hr ⊢
  have R1 := Lib.hid hr
  clear hr
  refine (check_any least _ [⟨false, .slice none 0 0, []⟩] _ (hl.out.pure R1.out.2.2)).mono ?_
  rw [least_may _ _ (by simp)]
  rintro e w1 ⟨rfl, hp1⟩
  have R2 := Lib.hid (R1.out.keep hp1)
  clear hp1
  obtain ⟨c0, c1, c2, c3, c4, c5, c6, c7, c8, f⟩ := R2.out.cells
  have f0 := f 0
  clear f
  have e3 : checkI ⟨3, 0, 0, 1, 1, 0, 1, 0⟩ [⟨false, .slice none 0 0, []⟩] = 1 := rfl
  go_wp2_with fail
  have PS := Lib.hid (R2.out.2.2.setCell (fun h => Nat.not_lt.2 R2.out.1 h) (.int .i64 3) (p := ⟨X, 0, none⟩))
  refine (check_any ⟨3, 0, 0, 1, 1, 0, 1, 0⟩ _ [⟨false, .slice none 0 0, []⟩] _ (hl.out.pure PS.out)).mono ?_
  rw [e3]
  rintro e w2 ⟨rfl, hp2⟩
  have P2 := Lib.hid (Pure.then PS.out hp2)
  clear hp2
  go_wp2
  go_ret
  exact ⟨rfl, Pure.then P0.out P2.out⟩

theorem and7 (x : Int) : bits .and .i64 x 7 = x % 8 := by
  show IntKind.i64.wrap ((BitVec.ofInt 64 x &&& BitVec.ofInt 64 7).toNat : Int) = _
  have e7 : (BitVec.ofInt 64 7).toNat = 2 ^ 3 - 1 := by decide
  rw [BitVec.toNat_and, e7, Nat.and_two_pow_sub_one_eq_mod, BitVec.toNat_ofInt, IntKind.wrap_i64]
  omega

theorem many (which : Int) (A : Option Addr) (n c : Nat) (w : World) (hn : 40 < n) :
    Calls Try.prog 4 #[.int .i64 which, .slice A n c] w fun e w' => e = .returned (.bool true) ∧ Pure w w' := by
  go_enter Try.func4, Try.ntmps4
  go_wp2_with fail
  refine (first_any _).mono ?_
  rintro e w1 ⟨rfl, hp1⟩
  have P1 := Lib.hid hp1
  clear hp1
  go_wp2_with fail
  refine (first_any _).mono ?_
  rintro e w2 ⟨rfl, hp2⟩
  have P2 := Lib.hid (P1.out.then hp2)
  clear hp2
  go_wp2
  go_ret
  exact ⟨rfl, P2.out⟩

set_option maxRecDepth 100000 in
theorem few (which : Int) (A : Option Addr) (bs : List Bool) (c : Nat) (w : World) (hn : bs.length ≤ 40) (hs : SlG w w.heap.size (.slice A bs.length c) (bools bs)) :
    Calls Try.prog 4 #[.int .i64 which, .slice A bs.length c] w fun e w' => e = .returned (.bool true) ∧ Pure w w' := by
  have HS := Lib.hid hs
  clear hs
  go_enter Try.func4, Try.ntmps4
  go_wp2_with fail
  refine (first_any _).mono ?_
  rintro e w1 ⟨rfl, hp1⟩
  have P1 := Lib.hid hp1
  clear hp1
  go_wp2_with fail
  have hl := Lib.hid (one_shape false _ bs w1 32 (HS.out.pure P1.out))
  have P0 := Lib.hid (P1.out.then ((Only.refl (fun _ => False) w1).alloc (.cells #[.bool false, .slice A bs.length c] 32)))
  have hr := Row.new (w1.alloc (.cells #[.bool false, .slice A bs.length c] 32)) least (.slice (some ⟨w1.heap.size, 0, none⟩) 1 1)
  rw [show (w1.alloc (.cells #[.bool false, .slice A bs.length c] 32)).heap.size = w1.heap.size + 1 from by simp] at hr
  generalize (w1.alloc (.cells #[.bool false, .slice A bs.length c] 32)).alloc _ = W1 at hr ⊢
  generalize w1.heap.size + 1 = X at hr ⊢
  generalize w1.alloc (.cells #[.bool false, .slice A bs.length c] 32) = W0 at *
  generalize w1.heap.size = Y at hl hr ⊢
  have R1 := Lib.hid hr
  clear hr
  refine (check_any least _ [⟨false, _, bs⟩] _ (hl.out.pure R1.out.2.2)).mono ?_
  rw [least_may _ _ hn]
  rintro e w2 ⟨rfl, hp2⟩
  have R2 := Lib.hid (R1.out.keep hp2)
  clear hp2
  obtain ⟨c0, c1, c2, c3, c4, c5, c6, c7, c8, f⟩ := R2.out.cells
  have h7 := and7 which
  have f0 := f 0
  have f1 := f 1
  have f2 := f 2
  have f3 := f 3
  have f4 := f 4
  have f5 := f 5
  have f6 := f 6
  have f7 := f 7
  clear f
  rcases (by omega : which % 8 = 0 ∨ which % 8 = 1 ∨ which % 8 = 2 ∨ which % 8 = 3 ∨ which % 8 = 4 ∨ which % 8 = 5 ∨ which % 8 = 6 ∨ which % 8 = 7) with h | h | h | h | h | h | h | h
  · rw [h] at h7
    clear h
    go_wp2_with fail
    refine (first_any _).mono ?_
    rintro e w3 ⟨rfl, hp3⟩
    have R3 := Lib.hid (R2.out.keepSet ⟨3, 0, 0, 1, 1, 0, 1, 0⟩ hp3 rfl)
    clear hp3 c0 c1 c2 c3 c4 c5 c6 c7 c8 f0 f1 f2 f3 f4 f5 f6 f7 h7
    obtain ⟨c0, c1, c2, c3, c4, c5, c6, c7, c8, _⟩ := R3.out.cells
    go_wp2_with fail
    refine (check_any ⟨3, 0, 0, 1, 1, 0, 1, 0⟩ _ [⟨false, .slice A bs.length c, bs⟩] _ (hl.out.pure R3.out.2.2)).mono ?_
    rw [show checkI ⟨3, 0, 0, 1, 1, 0, 1, 0⟩ [⟨false, .slice A bs.length c, bs⟩] = 1 from by simp [checkI, tests, withinB]]
    rintro e w4 ⟨rfl, hp4⟩
    have P4 := Lib.hid (P0.out.then (R3.out.2.2.then hp4))
    clear hp4
    go_wp2
    go_ret
    exact ⟨rfl, P4.out⟩
  · rw [h] at h7
    clear h
    go_wp2_with fail
    refine (first_any _).mono ?_
    rintro e w3 ⟨rfl, hp3⟩
    have R3 := Lib.hid (R2.out.keepSet ⟨4, -1, 0, 1, 1, 0, 1, 0⟩ hp3 rfl)
    clear hp3 c0 c1 c2 c3 c4 c5 c6 c7 c8 f0 f1 f2 f3 f4 f5 f6 f7 h7
    obtain ⟨c0, c1, c2, c3, c4, c5, c6, c7, c8, _⟩ := R3.out.cells
    go_wp2_with fail
    refine (check_any ⟨4, -1, 0, 1, 1, 0, 1, 0⟩ _ [⟨false, .slice A bs.length c, bs⟩] _ (hl.out.pure R3.out.2.2)).mono ?_
    rw [show checkI ⟨4, -1, 0, 1, 1, 0, 1, 0⟩ [⟨false, .slice A bs.length c, bs⟩] = 1 from by simp [checkI, tests, withinB]]
    rintro e w4 ⟨rfl, hp4⟩
    have P4 := Lib.hid (P0.out.then (R3.out.2.2.then hp4))
    clear hp4
    go_wp2
    go_ret
    exact ⟨rfl, P4.out⟩
  · rw [h] at h7
    clear h
    go_wp2_with fail
    refine (first_any _).mono ?_
    rintro e w3 ⟨rfl, hp3⟩
    have R3 := Lib.hid (R2.out.keepSet ⟨4, 0, -1, 1, 1, 0, 1, 0⟩ hp3 rfl)
    clear hp3 c0 c1 c2 c3 c4 c5 c6 c7 c8 f0 f1 f2 f3 f4 f5 f6 f7 h7
    obtain ⟨c0, c1, c2, c3, c4, c5, c6, c7, c8, _⟩ := R3.out.cells
    go_wp2_with fail
    refine (check_any ⟨4, 0, -1, 1, 1, 0, 1, 0⟩ _ [⟨false, .slice A bs.length c, bs⟩] _ (hl.out.pure R3.out.2.2)).mono ?_
    rw [show checkI ⟨4, 0, -1, 1, 1, 0, 1, 0⟩ [⟨false, .slice A bs.length c, bs⟩] = 1 from by simp [checkI, tests, withinB]]
    rintro e w4 ⟨rfl, hp4⟩
    have P4 := Lib.hid (P0.out.then (R3.out.2.2.then hp4))
    clear hp4
    go_wp2
    go_ret
    exact ⟨rfl, P4.out⟩
  · rw [h] at h7
    clear h
    go_wp2_with fail
    refine (first_any _).mono ?_
    rintro e w3 ⟨rfl, hp3⟩
    have R3 := Lib.hid (R2.out.keepSet ⟨4, 0, 0, 0, 1, 0, 1, 0⟩ hp3 rfl)
    clear hp3 c0 c1 c2 c3 c4 c5 c6 c7 c8 f0 f1 f2 f3 f4 f5 f6 f7 h7
    obtain ⟨c0, c1, c2, c3, c4, c5, c6, c7, c8, _⟩ := R3.out.cells
    go_wp2_with fail
    refine (check_any ⟨4, 0, 0, 0, 1, 0, 1, 0⟩ _ [⟨false, .slice A bs.length c, bs⟩] _ (hl.out.pure R3.out.2.2)).mono ?_
    rw [show checkI ⟨4, 0, 0, 0, 1, 0, 1, 0⟩ [⟨false, .slice A bs.length c, bs⟩] = 1 from by simp [checkI, tests, withinB]]
    rintro e w4 ⟨rfl, hp4⟩
    have P4 := Lib.hid (P0.out.then (R3.out.2.2.then hp4))
    clear hp4
    go_wp2
    go_ret
    exact ⟨rfl, P4.out⟩
  · rw [h] at h7
    clear h
    go_wp2_with fail
    refine (first_any _).mono ?_
    rintro e w3 ⟨rfl, hp3⟩
    have R3 := Lib.hid (R2.out.keepSet ⟨4, 0, 0, 1, 0, 0, 1, 0⟩ hp3 rfl)
    clear hp3 c0 c1 c2 c3 c4 c5 c6 c7 c8 f0 f1 f2 f3 f4 f5 f6 f7 h7
    obtain ⟨c0, c1, c2, c3, c4, c5, c6, c7, c8, _⟩ := R3.out.cells
    go_wp2_with fail
    refine (check_any ⟨4, 0, 0, 1, 0, 0, 1, 0⟩ _ [⟨false, .slice A bs.length c, bs⟩] _ (hl.out.pure R3.out.2.2)).mono ?_
    rw [show checkI ⟨4, 0, 0, 1, 0, 0, 1, 0⟩ [⟨false, .slice A bs.length c, bs⟩] = 1 from by simp [checkI, tests, withinB]]
    rintro e w4 ⟨rfl, hp4⟩
    have P4 := Lib.hid (P0.out.then (R3.out.2.2.then hp4))
    clear hp4
    go_wp2
    go_ret
    exact ⟨rfl, P4.out⟩
  · rw [h] at h7
    clear h
    go_wp2_with fail
    refine (first_any _).mono ?_
    rintro e w3 ⟨rfl, hp3⟩
    have R3 := Lib.hid (R2.out.keepSet ⟨4, 0, 0, 1, 1, -1, 1, 0⟩ hp3 rfl)
    clear hp3 c0 c1 c2 c3 c4 c5 c6 c7 c8 f0 f1 f2 f3 f4 f5 f6 f7 h7
    obtain ⟨c0, c1, c2, c3, c4, c5, c6, c7, c8, _⟩ := R3.out.cells
    go_wp2_with fail
    refine (check_any ⟨4, 0, 0, 1, 1, -1, 1, 0⟩ _ [⟨false, .slice A bs.length c, bs⟩] _ (hl.out.pure R3.out.2.2)).mono ?_
    rw [show checkI ⟨4, 0, 0, 1, 1, -1, 1, 0⟩ [⟨false, .slice A bs.length c, bs⟩] = 1 from by simp [checkI, tests, withinB]]
    rintro e w4 ⟨rfl, hp4⟩
    have P4 := Lib.hid (P0.out.then (R3.out.2.2.then hp4))
    clear hp4
    go_wp2
    go_ret
    exact ⟨rfl, P4.out⟩
  · rw [h] at h7
    clear h
    go_wp2_with fail
    refine (first_any _).mono ?_
    rintro e w3 ⟨rfl, hp3⟩
    have R3 := Lib.hid (R2.out.keepSet ⟨4, 0, 0, 1, 1, 0, 0, 0⟩ hp3 rfl)
    clear hp3 c0 c1 c2 c3 c4 c5 c6 c7 c8 f0 f1 f2 f3 f4 f5 f6 f7 h7
    obtain ⟨c0, c1, c2, c3, c4, c5, c6, c7, c8, _⟩ := R3.out.cells
    go_wp2_with fail
    refine (check_any ⟨4, 0, 0, 1, 1, 0, 0, 0⟩ _ [⟨false, .slice A bs.length c, bs⟩] _ (hl.out.pure R3.out.2.2)).mono ?_
    rw [show checkI ⟨4, 0, 0, 1, 1, 0, 0, 0⟩ [⟨false, .slice A bs.length c, bs⟩] = 1 from by simp [checkI, tests, withinB]]
    rintro e w4 ⟨rfl, hp4⟩
    have P4 := Lib.hid (P0.out.then (R3.out.2.2.then hp4))
    clear hp4
    go_wp2
    go_ret
    exact ⟨rfl, P4.out⟩
  · rw [h] at h7
    clear h
    go_wp2_with fail
    refine (first_any _).mono ?_
    rintro e w3 ⟨rfl, hp3⟩
    have R3 := Lib.hid (R2.out.keepSet ⟨4, 0, 0, 1, 1, 0, 1, -1⟩ hp3 rfl)
    clear hp3 c0 c1 c2 c3 c4 c5 c6 c7 c8 f0 f1 f2 f3 f4 f5 f6 f7 h7
    obtain ⟨c0, c1, c2, c3, c4, c5, c6, c7, c8, _⟩ := R3.out.cells
    go_wp2_with fail
    refine (check_any ⟨4, 0, 0, 1, 1, 0, 1, -1⟩ _ [⟨false, .slice A bs.length c, bs⟩] _ (hl.out.pure R3.out.2.2)).mono ?_
    rw [show checkI ⟨4, 0, 0, 1, 1, 0, 1, -1⟩ [⟨false, .slice A bs.length c, bs⟩] = 1 from by simp [checkI, tests, withinB]]
    rintro e w4 ⟨rfl, hp4⟩
    have P4 := Lib.hid (P0.out.then (R3.out.2.2.then hp4))
    clear hp4
    go_wp2
    go_ret
    exact ⟨rfl, P4.out⟩

theorem walk (w : World) (which : Int) (_hw : -2^63 ≤ which ∧ which ≤ 2^63-1) (v : Value) (bs : List Bool) (h : SlG w w.heap.size v (bools bs)) :
    Calls Try.prog 4 #[.int .i64 which, v] w fun e w' => e = .returned (.bool true) ∧ Pure w w' := by
  obtain ⟨A, c, rfl, h1, h2, h3⟩ := id h
  rw [bools_length] at h1 h ⊢
  by_cases hn : bs.length ≤ 40
  · exact few which A bs c w hn h
  · exact many which A _ c w (by omega)

set_option maxRecDepth 100000 in
theorem lifted (os : Os) (started : os.Started) (H : Type) (enc : TypeId × Value → H) :
    ReturnsInHanded {} Try.checked os 4 .any (Rows.confSmallSpec.pre6 enc Try.prog Try.f4 Rows.confSmallRow.domain false) (Rows.confSmallSpec.post enc Try.prog Try.f4 false true false false) :=
  lift_law (C := Try.checked) own started (by kernel_rfl) Try.func4 laidOut (by kernel_rfl) rfl rfl Try.underlying4
    (fun ds h => by match ds, h with | [_, _], _ => rfl)
    (ChangeSpec.witness6 (enc := enc) (C := Try.checked) false ⟨#[], #[.int .i64 0, .slice none 0 0], []⟩ 8 (by kernel_rfl) (by kernel_rfl) (by kernel_rfl) (by kernel_rfl))
    (fun W base args ds ps hval hA hlt => by
      have hA' : DataW.TrodAll enc Try.prog W 0 (fun _ => true) true Try.f4.params.toList args.toList ds ps := hA
      rw [Try.params4] at hA'
      have hval' : ∀ (j : Nat) t v, Try.f4.params[j]? = some t → args[j]? = some v → Value.okWide Try.prog W .any base t v := hval
      rw [Try.params4] at hval'
      obtain ⟨v0, vs0, d0, ds0, p0, q0, hargs, rfl, rfl, h0, r0⟩ := trodAll_cons hA'
      obtain ⟨v1, vs1, d1, ds1, p1, q1, rfl, rfl, rfl, h1, r1⟩ := trodAll_cons r0
      obtain ⟨rfl, rfl, rfl⟩ := trodAll_nil r1
      obtain rfl : args = #[v0, v1] := by cases args; simp_all
      obtain ⟨a0, rfl, rfl, rfl, w0⟩ := open_int Try.underlying3 (hval' 0 3 v0 rfl rfl) h0
      obtain ⟨xs1, s1⟩ := open_bools' Try.underlying30 Try.underlying4 (by kernel_rfl) (hval' 1 30 v1 rfl rfl) h1
      exact (walk W a0 (int_bounds w0) _ xs1 s1).mono fun e W' ⟨he, hp⟩ => ⟨he, hp.below⟩)

/-- The statement. -/
theorem proved : Rows.ConfSmallSaid :=
  OpenClaim.holds_of_wide 4 Try.f4 rfl rfl rfl rfl rfl rfl rfl ⟨rfl, rfl, rfl, rfl, rfl⟩ rfl rfl rfl rfl rfl (by kernel_rfl) Try.func4 (by kernel_rfl)
    (of_decide_eq_true (by kernel_rfl)) (by unfold Func.isWrapper; first | (rw [if_pos (by decide +kernel)]; kernel_rfl) | (rw [if_neg (by decide +kernel)]; exact ⟨rfl, rfl⟩))
    (fun os started H enc _ => lifted os started H enc)
#print axioms proved

end Go.Proofs.Ythinbbhjfojhaaa.confSmall
